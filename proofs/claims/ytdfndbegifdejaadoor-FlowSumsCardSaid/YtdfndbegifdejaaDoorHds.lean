import Derived.Test.YtdfndbegifdejaaDoorGDx0
import Derived.Test.YtdfndbegifdejaaDoorGDx1
import Derived.Test.YtdfndbegifdejaaDoorGDx9
import Derived.Test.YtdfndbegifdejaaDoorNct
import Derived.Test.YtdfndbegifdejaaDoorPsr
import Derived.Test.YtdfndbegifdejaaDoorPrt
namespace Go.Proofs.YtdfndbegifdejaaDoor.GD
open Go.RowKit Go.Proofs.YtdfndbegifdejaaDoorW.PrintWords Go.Proofs.YtdfndbegifdejaaDoorW.PrintLast Go.Proofs.YtdfndbegifdejaaDoorW.PrintMore
attribute [local go_sem] max2_int min2_int max_two min_two max_three min_three max_four min_four   -- for this text's walks alone
set_option linter.unusedVariables false
set_option linter.unusedSimpArgs false

attribute [local go_sem high] eqA32
/-! ### payofflaw03_heads: function 13 -/
noncomputable def payofflaw03_heads.j0 : Nat → List (S32) → Bool → Option (Bool)
 | 0, _, _ => none
 | k + 1, x2, x40 => if x40 = true then (some false) else ((flow_Print.f x2).bind fun bt190 => ((flow_Parse.f k (⟨#[49, 32, 85, 83, 68, 32, 50, 10, 51, 32, 69, 85, 82, 32, 48, 10]⟩ : ByteArray)).bind fun bt192 => (if bt190.2 = 0 then (if bt190.1.toList = ([49, 32, 85, 83, 68, 32, 50, 10, 51, 32, 69, 85, 82, 32, 48, 10] : List UInt8) then (if bt192.2.2 = 0 then ((payofflaw03_same.f k bt192.1 x2).bind fun t197 => (some t197)) else (some false)) else (some false)) else (some false))))
noncomputable def payofflaw03_heads.f (k : Nat)  : Option (Bool) := (some (([(⟨3, (⟨#[69, 85, 82]⟩ : ByteArray), 5⟩ : S32), (⟨1, (⟨#[85, 83, 68]⟩ : ByteArray), 2⟩ : S32), (⟨3, (⟨#[69, 85, 82]⟩ : ByteArray), (-5)⟩ : S32)] : List (S32)) : List (S32))).bind fun y180 => ((flow_Net.f y180).bind fun bt183 => (if bt183.2 = 0 then (if (bt183.1.length : Int) = 2 then (if 0 < (bt183.1.length : Int) then (if 1 < (y180.length : Int) then (if (!(((rd_T32 bt183.1 0).f0) == ((rd_T32 y180 1).f0)) || (!((((rd_T32 bt183.1 0).f1).toList) == (((rd_T32 y180 1).f1).toList)) || (!(((rd_T32 bt183.1 0).f2) == ((rd_T32 y180 1).f2))))) = true then (payofflaw03_heads.j0 k bt183.1 true) else (if 1 < (bt183.1.length : Int) then (payofflaw03_heads.j0 k bt183.1 (!(((rd_T32 bt183.1 1).f0) == 3) || (!((((rd_T32 bt183.1 1).f1).toList) == ([69, 85, 82] : List UInt8)) || (!(((rd_T32 bt183.1 1).f2) == 0))))) else (none))) else (none)) else (none)) else (payofflaw03_heads.j0 k bt183.1 true)) else (payofflaw03_heads.j0 k bt183.1 true)))
theorem payofflaw03_heads.mono_l : ∀ k, (∀ y0 y1, LeO (payofflaw03_heads.j0 k y0 y1) (payofflaw03_heads.j0 (k + 1) y0 y1))
 | 0 => fun _ _ r h => by simp [payofflaw03_heads.j0] at h
 | k + 1 => by
  have ih0 := payofflaw03_heads.mono_l k
  ·intro y0 y1
   unfold payofflaw03_heads.j0
   repeat' first
   | (with_reducible exact ih0 _ _)
   | (with_reducible exact flow_Parse.mono _ _)
   | (with_reducible exact payofflaw03_same.mono _ _ _)
   | (with_reducible exact LeO.refl _)
   | (with_reducible exact LeO.none _)
   | (with_reducible refine LeO.ite ?_ ?_)
   | (with_reducible refine LeO.bind ?_ (fun _ => ?_))
   | exact ih0 _ _
   | exact flow_Parse.mono _ _
   | exact payofflaw03_same.mono _ _ _
   | exact LeO.none _
   | refine LeO.ite ?_ ?_
   | refine LeO.bind ?_ (fun _ => ?_)
theorem payofflaw03_heads.mono : ∀ k, LeO (payofflaw03_heads.f k ) (payofflaw03_heads.f (k + 1) ) := by
 intro  k
 have ih0 := payofflaw03_heads.mono_l k
 unfold payofflaw03_heads.f
 repeat' first
   | (with_reducible exact ih0 _ _)
   | (with_reducible exact flow_Parse.mono _ _)
   | (with_reducible exact payofflaw03_same.mono _ _ _)
   | (with_reducible exact LeO.refl _)
   | (with_reducible exact LeO.none _)
   | (with_reducible refine LeO.ite ?_ ?_)
   | (with_reducible refine LeO.bind ?_ (fun _ => ?_))
   | exact ih0 _ _
   | exact flow_Parse.mono _ _
   | exact payofflaw03_same.mono _ _ _
   | exact LeO.none _
   | refine LeO.ite ?_ ?_
   | refine LeO.bind ?_ (fun _ => ?_)
set_option maxHeartbeats 8000000 in
set_option maxRecDepth 100000 in
theorem payofflaw03_heads.calls (k : Nat)  (r : Bool) (w : World) (HTAB : Aside0 (ItoaTab w)) (h : payofflaw03_heads.f k  = some r) :
  Calls Tryd.prog 13 #[] w fun e w' => e = .returned (.bool r) ∧ Below w.heap.size w w' := by
 have hu32 := Tryd.underlying32
 have HB := Aside0.mk (Below.refl w.heap.size w)
 have H : ((some (([(⟨3, (⟨#[69, 85, 82]⟩ : ByteArray), 5⟩ : S32), (⟨1, (⟨#[85, 83, 68]⟩ : ByteArray), 2⟩ : S32), (⟨3, (⟨#[69, 85, 82]⟩ : ByteArray), (-5)⟩ : S32)] : List (S32)) : List (S32))).bind fun y180 => ((flow_Net.f y180).bind fun bt183 => (if bt183.2 = 0 then (if (bt183.1.length : Int) = 2 then (if 0 < (bt183.1.length : Int) then (if 1 < (y180.length : Int) then (if (!(((rd_T32 bt183.1 0).f0) == ((rd_T32 y180 1).f0)) || (!((((rd_T32 bt183.1 0).f1).toList) == (((rd_T32 y180 1).f1).toList)) || (!(((rd_T32 bt183.1 0).f2) == ((rd_T32 y180 1).f2))))) = true then (payofflaw03_heads.j0 k bt183.1 true) else (if 1 < (bt183.1.length : Int) then (payofflaw03_heads.j0 k bt183.1 (!(((rd_T32 bt183.1 1).f0) == 3) || (!((((rd_T32 bt183.1 1).f1).toList) == ([69, 85, 82] : List UInt8)) || (!(((rd_T32 bt183.1 1).f2) == 0))))) else (none))) else (none)) else (none)) else (payofflaw03_heads.j0 k bt183.1 true)) else (payofflaw03_heads.j0 k bt183.1 true)))) = some r := h
 clear h
 obtain ⟨y180, hy180⟩ : ∃ y_ : List (S32), y_ = (([(⟨3, (⟨#[69, 85, 82]⟩ : ByteArray), 5⟩ : S32), (⟨1, (⟨#[85, 83, 68]⟩ : ByteArray), 2⟩ : S32), (⟨3, (⟨#[69, 85, 82]⟩ : ByteArray), (-5)⟩ : S32)] : List (S32))) := ⟨_, rfl⟩
 replace H : ((flow_Net.f y180).bind fun bt183 => (if bt183.2 = 0 then (if (bt183.1.length : Int) = 2 then (if 0 < (bt183.1.length : Int) then (if 1 < (y180.length : Int) then (if (!(((rd_T32 bt183.1 0).f0) == ((rd_T32 y180 1).f0)) || (!((((rd_T32 bt183.1 0).f1).toList) == (((rd_T32 y180 1).f1).toList)) || (!(((rd_T32 bt183.1 0).f2) == ((rd_T32 y180 1).f2))))) = true then (payofflaw03_heads.j0 k bt183.1 true) else (if 1 < (bt183.1.length : Int) then (payofflaw03_heads.j0 k bt183.1 (!(((rd_T32 bt183.1 1).f0) == 3) || (!((((rd_T32 bt183.1 1).f1).toList) == ([69, 85, 82] : List UInt8)) || (!(((rd_T32 bt183.1 1).f2) == 0))))) else (none))) else (none)) else (none)) else (payofflaw03_heads.j0 k bt183.1 true)) else (payofflaw03_heads.j0 k bt183.1 true))) = some r := by first | (rw [hy180]; with_reducible exact H) | (have H2_ := (Option.bind_some _ _).symm.trans H; rw [hy180]; with_reducible exact H2_) | (have H2_ := (Option.bind_some _ _).symm.trans H; with_reducible exact H2_) | with_reducible exact H | (rw [hy180]; exact H) | exact H
 have Ny180 := Aside0.mk hy180
 clear hy180
 replace H := Option.bind_eq_some_iff.mp H
 obtain ⟨⟨t183, t184⟩, A10, H⟩ := H
 replace H : (if t184 = 0 then (if (t183.length : Int) = 2 then (if 0 < (t183.length : Int) then (if 1 < (y180.length : Int) then (if (!(((rd_T32 t183 0).f0) == ((rd_T32 y180 1).f0)) || (!((((rd_T32 t183 0).f1).toList) == (((rd_T32 y180 1).f1).toList)) || (!(((rd_T32 t183 0).f2) == ((rd_T32 y180 1).f2))))) = true then (payofflaw03_heads.j0 k t183 true) else (if 1 < (t183.length : Int) then (payofflaw03_heads.j0 k t183 (!(((rd_T32 t183 1).f0) == 3) || (!((((rd_T32 t183 1).f1).toList) == ([69, 85, 82] : List UInt8)) || (!(((rd_T32 t183 1).f2) == 0))))) else (none))) else (none)) else (none)) else (payofflaw03_heads.j0 k t183 true)) else (payofflaw03_heads.j0 k t183 true)) = some r := H
 have A1 := Aside0.mk A10
 clear A10
 have HC2 := Aside0.mk H
 clear H
 go_enter Tryd.func13, Tryd.ntmps13
 go_upto_region 3 with (first | ((with_reducible refine gate_dst (N := 12) rfl ?_); (try (refine gate_guard (by rfl) ?_; dsimp only)); refine Kd.R_lit k32 _ 32 ?hg (N := 12) ?hd (xs := ([(⟨3, (⟨#[69, 85, 82]⟩ : ByteArray), 5⟩ : S32), (⟨1, (⟨#[85, 83, 68]⟩ : ByteArray), 2⟩ : S32), (⟨3, (⟨#[69, 85, 82]⟩ : ByteArray), (-5)⟩ : S32)] : List (S32))) (inner := [.int .i64 3, .string (⟨#[69, 85, 82]⟩ : ByteArray), .int .i64 5, .int .i64 1, .string (⟨#[85, 83, 68]⟩ : ByteArray), .int .i64 2, .int .i64 3, .string (⟨#[69, 85, 82]⟩ : ByteArray), .int .i64 (-5)]) (ok := fun _ => True) (okp := fun _ => True) ?hr ?hp (fun _ hk => hk) trivial (Below.refl _ _) (Nat.le_refl _) (by simp) ?_; (case hd => rfl); (case hg => rfl); (case hr => first | (go_simp; done) | (go_simp; rfl)); (case hp => exact (Reps.c3 (show Kd.M k32 _ _ _ (⟨3, (⟨#[69, 85, 82]⟩ : ByteArray), 5⟩ : S32) [.int .i64 3, .string (⟨#[69, 85, 82]⟩ : ByteArray), .int .i64 5] from (k32_mkM _ _ _ (⟨3, (⟨#[69, 85, 82]⟩ : ByteArray), 5⟩ : S32) )) (Reps.c3 (show Kd.M k32 _ _ _ (⟨1, (⟨#[85, 83, 68]⟩ : ByteArray), 2⟩ : S32) [.int .i64 1, .string (⟨#[85, 83, 68]⟩ : ByteArray), .int .i64 2] from (k32_mkM _ _ _ (⟨1, (⟨#[85, 83, 68]⟩ : ByteArray), 2⟩ : S32) )) (Reps.c3 (show Kd.M k32 _ _ _ (⟨3, (⟨#[69, 85, 82]⟩ : ByteArray), (-5)⟩ : S32) [.int .i64 3, .string (⟨#[69, 85, 82]⟩ : ByteArray), .int .i64 (-5)] from (k32_mkM _ _ _ (⟨3, (⟨#[69, 85, 82]⟩ : ByteArray), (-5)⟩ : S32) )) (Reps.none _ _))))); intro v181 w3 ho4 hb hg_ hnew_; clear hg_ hnew_; (first | rw [← Ny180.out] at ho4 | (simp only [Int.reduceToNat] at ho4; rw [← Ny180.out] at ho4)); have n0_ := Aside0.mk (Kd.R_lower ho4 (below_size (by repeat (first | (with_reducible first | exact HB.out | apply below_alloc | apply pw_below_drewN | apply below_drew1) | exact HB.out)))); have n1_ := Aside0.mk (below_step (by repeat (first | (with_reducible first | exact HB.out | apply below_alloc | apply pw_below_drewN | apply below_drew1) | exact HB.out)) hb); clear HB; have HO182 := n0_; have HB := n1_; clear n0_ n1_; clear hb ho4; obtain ⟨Ao5, co5, eo5⟩ := Kd.R_slice HO182.out; subst eo5) | (go_at_call 18; (with_reducible refine (flow_Net.calls _ _ y180 t183 t184 _ ?side1 ?side2 A1.out).mono ?_); (case side1 => repeat (first | exact (Kd.R_reads' HO182.out).2.2 | (with_reducible refine Kd.C_alloc ?_ _) | (with_reducible refine Kd.C_drewN ?_ _) | (with_reducible refine Kd.C_drew ?_))); (case side2 => exact (Kd.R_reads' HO182.out).2.1); rintro e w6 ⟨v185, rfl, ho0, hb⟩; have n0_ := Aside0.mk (Kd.R_elder' (by (with_reducible repeat (first | apply Kd.R_alloc | apply Kd.R_drewN | apply Kd.R_drew)); exact HO182.out) (Kd.R_base ho0) hb); have n1_ := Aside0.mk (Kd.R_lower (Kd.R_new' ho0 (Kd.R_lt (by (with_reducible repeat (first | apply Kd.R_alloc | apply Kd.R_drewN | apply Kd.R_drew)); exact HO182.out))) (below_size (by repeat (first | (with_reducible first | exact HB.out | apply below_alloc | apply pw_below_drewN | apply below_drew1) | exact HB.out)))); have n2_ := Aside0.mk (below_step (by repeat (first | (with_reducible first | exact HB.out | apply below_alloc | apply pw_below_drewN | apply below_drew1) | exact HB.out)) hb); clear HO182; clear HB; have HO182 := n0_; have HO186 := n1_; have HB := n2_; clear n0_ n1_ n2_; (try clear hb); (try clear hb2); (try clear hk); (try clear hi); (try clear ho0)))
 repeat (go_quiet (first | ((with_reducible refine gate_dst (N := 12) rfl ?_); (try (refine gate_guard (by rfl) ?_; dsimp only)); refine Kd.R_lit k32 _ 32 ?hg (N := 12) ?hd (xs := ([(⟨3, (⟨#[69, 85, 82]⟩ : ByteArray), 5⟩ : S32), (⟨1, (⟨#[85, 83, 68]⟩ : ByteArray), 2⟩ : S32), (⟨3, (⟨#[69, 85, 82]⟩ : ByteArray), (-5)⟩ : S32)] : List (S32))) (inner := [.int .i64 3, .string (⟨#[69, 85, 82]⟩ : ByteArray), .int .i64 5, .int .i64 1, .string (⟨#[85, 83, 68]⟩ : ByteArray), .int .i64 2, .int .i64 3, .string (⟨#[69, 85, 82]⟩ : ByteArray), .int .i64 (-5)]) (ok := fun _ => True) (okp := fun _ => True) ?hr ?hp (fun _ hk => hk) trivial (Below.refl _ _) (Nat.le_refl _) (by simp) ?_; (case hd => rfl); (case hg => rfl); (case hr => first | (go_simp; done) | (go_simp; rfl)); (case hp => exact (Reps.c3 (show Kd.M k32 _ _ _ (⟨3, (⟨#[69, 85, 82]⟩ : ByteArray), 5⟩ : S32) [.int .i64 3, .string (⟨#[69, 85, 82]⟩ : ByteArray), .int .i64 5] from (k32_mkM _ _ _ (⟨3, (⟨#[69, 85, 82]⟩ : ByteArray), 5⟩ : S32) )) (Reps.c3 (show Kd.M k32 _ _ _ (⟨1, (⟨#[85, 83, 68]⟩ : ByteArray), 2⟩ : S32) [.int .i64 1, .string (⟨#[85, 83, 68]⟩ : ByteArray), .int .i64 2] from (k32_mkM _ _ _ (⟨1, (⟨#[85, 83, 68]⟩ : ByteArray), 2⟩ : S32) )) (Reps.c3 (show Kd.M k32 _ _ _ (⟨3, (⟨#[69, 85, 82]⟩ : ByteArray), (-5)⟩ : S32) [.int .i64 3, .string (⟨#[69, 85, 82]⟩ : ByteArray), .int .i64 (-5)] from (k32_mkM _ _ _ (⟨3, (⟨#[69, 85, 82]⟩ : ByteArray), (-5)⟩ : S32) )) (Reps.none _ _))))); intro v181 w3 ho4 hb hg_ hnew_; clear hg_ hnew_; (first | rw [← Ny180.out] at ho4 | (simp only [Int.reduceToNat] at ho4; rw [← Ny180.out] at ho4)); have n0_ := Aside0.mk (Kd.R_lower ho4 (below_size (by repeat (first | (with_reducible first | exact HB.out | apply below_alloc | apply pw_below_drewN | apply below_drew1) | exact HB.out)))); have n1_ := Aside0.mk (below_step (by repeat (first | (with_reducible first | exact HB.out | apply below_alloc | apply pw_below_drewN | apply below_drew1) | exact HB.out)) hb); clear HB; have HO182 := n0_; have HB := n1_; clear n0_ n1_; clear hb ho4; obtain ⟨Ao5, co5, eo5⟩ := Kd.R_slice HO182.out; subst eo5) | (go_at_call 18; (with_reducible refine (flow_Net.calls _ _ y180 t183 t184 _ ?side1 ?side2 A1.out).mono ?_); (case side1 => repeat (first | exact (Kd.R_reads' HO182.out).2.2 | (with_reducible refine Kd.C_alloc ?_ _) | (with_reducible refine Kd.C_drewN ?_ _) | (with_reducible refine Kd.C_drew ?_))); (case side2 => exact (Kd.R_reads' HO182.out).2.1); rintro e w6 ⟨v185, rfl, ho0, hb⟩; have n0_ := Aside0.mk (Kd.R_elder' (by (with_reducible repeat (first | apply Kd.R_alloc | apply Kd.R_drewN | apply Kd.R_drew)); exact HO182.out) (Kd.R_base ho0) hb); have n1_ := Aside0.mk (Kd.R_lower (Kd.R_new' ho0 (Kd.R_lt (by (with_reducible repeat (first | apply Kd.R_alloc | apply Kd.R_drewN | apply Kd.R_drew)); exact HO182.out))) (below_size (by repeat (first | (with_reducible first | exact HB.out | apply below_alloc | apply pw_below_drewN | apply below_drew1) | exact HB.out)))); have n2_ := Aside0.mk (below_step (by repeat (first | (with_reducible first | exact HB.out | apply below_alloc | apply pw_below_drewN | apply below_drew1) | exact HB.out)) hb); clear HO182; clear HB; have HO182 := n0_; have HO186 := n1_; have HB := n2_; clear n0_ n1_ n2_; (try clear hb); (try clear hb2); (try clear hk); (try clear hi); (try clear ho0))); go_upto_region 3 with (first | ((with_reducible refine gate_dst (N := 12) rfl ?_); (try (refine gate_guard (by rfl) ?_; dsimp only)); refine Kd.R_lit k32 _ 32 ?hg (N := 12) ?hd (xs := ([(⟨3, (⟨#[69, 85, 82]⟩ : ByteArray), 5⟩ : S32), (⟨1, (⟨#[85, 83, 68]⟩ : ByteArray), 2⟩ : S32), (⟨3, (⟨#[69, 85, 82]⟩ : ByteArray), (-5)⟩ : S32)] : List (S32))) (inner := [.int .i64 3, .string (⟨#[69, 85, 82]⟩ : ByteArray), .int .i64 5, .int .i64 1, .string (⟨#[85, 83, 68]⟩ : ByteArray), .int .i64 2, .int .i64 3, .string (⟨#[69, 85, 82]⟩ : ByteArray), .int .i64 (-5)]) (ok := fun _ => True) (okp := fun _ => True) ?hr ?hp (fun _ hk => hk) trivial (Below.refl _ _) (Nat.le_refl _) (by simp) ?_; (case hd => rfl); (case hg => rfl); (case hr => first | (go_simp; done) | (go_simp; rfl)); (case hp => exact (Reps.c3 (show Kd.M k32 _ _ _ (⟨3, (⟨#[69, 85, 82]⟩ : ByteArray), 5⟩ : S32) [.int .i64 3, .string (⟨#[69, 85, 82]⟩ : ByteArray), .int .i64 5] from (k32_mkM _ _ _ (⟨3, (⟨#[69, 85, 82]⟩ : ByteArray), 5⟩ : S32) )) (Reps.c3 (show Kd.M k32 _ _ _ (⟨1, (⟨#[85, 83, 68]⟩ : ByteArray), 2⟩ : S32) [.int .i64 1, .string (⟨#[85, 83, 68]⟩ : ByteArray), .int .i64 2] from (k32_mkM _ _ _ (⟨1, (⟨#[85, 83, 68]⟩ : ByteArray), 2⟩ : S32) )) (Reps.c3 (show Kd.M k32 _ _ _ (⟨3, (⟨#[69, 85, 82]⟩ : ByteArray), (-5)⟩ : S32) [.int .i64 3, .string (⟨#[69, 85, 82]⟩ : ByteArray), .int .i64 (-5)] from (k32_mkM _ _ _ (⟨3, (⟨#[69, 85, 82]⟩ : ByteArray), (-5)⟩ : S32) )) (Reps.none _ _))))); intro v181 w3 ho4 hb hg_ hnew_; clear hg_ hnew_; (first | rw [← Ny180.out] at ho4 | (simp only [Int.reduceToNat] at ho4; rw [← Ny180.out] at ho4)); have n0_ := Aside0.mk (Kd.R_lower ho4 (below_size (by repeat (first | (with_reducible first | exact HB.out | apply below_alloc | apply pw_below_drewN | apply below_drew1) | exact HB.out)))); have n1_ := Aside0.mk (below_step (by repeat (first | (with_reducible first | exact HB.out | apply below_alloc | apply pw_below_drewN | apply below_drew1) | exact HB.out)) hb); clear HB; have HO182 := n0_; have HB := n1_; clear n0_ n1_; clear hb ho4; obtain ⟨Ao5, co5, eo5⟩ := Kd.R_slice HO182.out; subst eo5) | (go_at_call 18; (with_reducible refine (flow_Net.calls _ _ y180 t183 t184 _ ?side1 ?side2 A1.out).mono ?_); (case side1 => repeat (first | exact (Kd.R_reads' HO182.out).2.2 | (with_reducible refine Kd.C_alloc ?_ _) | (with_reducible refine Kd.C_drewN ?_ _) | (with_reducible refine Kd.C_drew ?_))); (case side2 => exact (Kd.R_reads' HO182.out).2.1); rintro e w6 ⟨v185, rfl, ho0, hb⟩; have n0_ := Aside0.mk (Kd.R_elder' (by (with_reducible repeat (first | apply Kd.R_alloc | apply Kd.R_drewN | apply Kd.R_drew)); exact HO182.out) (Kd.R_base ho0) hb); have n1_ := Aside0.mk (Kd.R_lower (Kd.R_new' ho0 (Kd.R_lt (by (with_reducible repeat (first | apply Kd.R_alloc | apply Kd.R_drewN | apply Kd.R_drew)); exact HO182.out))) (below_size (by repeat (first | (with_reducible first | exact HB.out | apply below_alloc | apply pw_below_drewN | apply below_drew1) | exact HB.out)))); have n2_ := Aside0.mk (below_step (by repeat (first | (with_reducible first | exact HB.out | apply below_alloc | apply pw_below_drewN | apply below_drew1) | exact HB.out)) hb); clear HO182; clear HB; have HO182 := n0_; have HO186 := n1_; have HB := n2_; clear n0_ n1_ n2_; (try clear hb); (try clear hb2); (try clear hk); (try clear hi); (try clear ho0))))
 (try simp only [Act.put, List.setIfInBounds_toArray, List.set_cons_zero, List.set_cons_succ])
 go_cut [40] (fun v40 wc => ∃ (kq : Nat) (x40_1 : Bool), v40 = .bool x40_1 ∧ Aside0 (payofflaw03_heads.j0 kq t183 x40_1 = some r) ∧ Aside0 (kq ≤ k) ∧ Aside0 (Kd.R k32 32 wc w.heap.size (fun _ => True) v185 t183) ∧ Aside0 (Below w.heap.size w wc))
 case first =>
  have H := HC2.out
  clear HC2
  by_cases c7 : t184 = 0
  ·rw [if_pos c7] at H
   have c7b0 : (t184 == 0) = true := beq_iff_eq.mpr c7
   have c7b1 : (t184 != 0) = false := bne_eq_false_iff_eq.mpr c7
   clear c7
   (first | rw [c7b0] | (simp only [i64_w, i32_w]; rw [c7b0]) | skip)
   by_cases c8 : (t183.length : Int) = 2
   ·rw [if_pos c8] at H
    have c8b0 : ((t183.length : Int) == 2) = true := beq_iff_eq.mpr c8
    have c8b1 : ((t183.length : Int) != 2) = false := bne_eq_false_iff_eq.mpr c8
    clear c8
    by_cases c9 : 0 < (t183.length : Int)
    ·rw [if_pos c9] at H
     have c9b0 : decide (0 < (t183.length : Int)) = true := decide_eq_true c9
     have c9b1 : decide (0 < t183.length) = true := decide_eq_true (by omega)
     clear c9
     by_cases c10 : 1 < (y180.length : Int)
     ·rw [if_pos c10] at H
      have c10b0 : decide (1 < (y180.length : Int)) = true := decide_eq_true c10
      have c10b1 : decide (1 < y180.length) = true := decide_eq_true (by omega)
      clear c10
      by_cases c11 : (!(((rd_T32 t183 0).f0) == ((rd_T32 y180 1).f0)) || (!((((rd_T32 t183 0).f1).toList) == (((rd_T32 y180 1).f1).toList)) || (!(((rd_T32 t183 0).f2) == ((rd_T32 y180 1).f2))))) = true
      ·rw [if_pos c11] at H
       have c11b0 : (!(((rd_T32 t183 0).f0) == ((rd_T32 y180 1).f0)) || (!((((rd_T32 t183 0).f1).toList) == (((rd_T32 y180 1).f1).toList)) || (!(((rd_T32 t183 0).f2) == ((rd_T32 y180 1).f2))))) = true := c11
       clear c11
       have H' := Aside0.mk H
       clear H
       obtain ⟨Ao12, co12, eo12⟩ := Kd.R_slice HO186.out
       subst eo12
       have p187 : 0 ≤ (0 : Int) := (by omega)
       have q187 : 0 < (t183.length : Int) := of_decide_eq_true (by first | (with_reducible assumption) | assumption)
       obtain ⟨ad187, e187, hx187_0, hx187_1, hx187_2⟩ := at_T32 (Kd.R_reads' HO186.out).2.2 0 p187 q187
       cases e187
       have qi187 : (0 < t183.length) = True := eq_true (by omega)
       (try rw [show ((0 : Int)).toNat = 0 from rfl] at hx187_0)
       (try rw [show 0 * 3 = 0 from rfl] at hx187_0)
       (try rw [Addr.add_zero'] at hx187_0)
       (try rw [show ((0 : Int)).toNat = 0 from rfl] at hx187_1)
       (try rw [show 0 * 3 = 0 from rfl] at hx187_1)
       (try rw [Addr.add_zero'] at hx187_1)
       (try rw [show ((0 : Int)).toNat = 0 from rfl] at hx187_2)
       (try rw [show 0 * 3 = 0 from rfl] at hx187_2)
       (try rw [Addr.add_zero'] at hx187_2)
       replace p187 := eq_true p187
       replace q187 := eq_true q187
       have p188 : 0 ≤ (1 : Int) := (by omega)
       have q188 : 1 < (y180.length : Int) := of_decide_eq_true (by first | (with_reducible assumption) | assumption)
       obtain ⟨ad188, e188, hx188_0, hx188_1, hx188_2⟩ := at_T32 (Kd.R_reads' HO182.out).2.2 1 p188 q188
       cases e188
       (try simp only [show (1 : Int).toNat = 1 from rfl, Nat.reduceMul, Nat.reduceEqDiff, Go.Addr.add, ↓reduceIte] at hx188_0)
       (try simp only [show (1 : Int).toNat = 1 from rfl, Nat.reduceMul, Nat.reduceEqDiff, Go.Addr.add, ↓reduceIte] at hx188_1)
       (try simp only [show (1 : Int).toNat = 1 from rfl, Nat.reduceMul, Nat.reduceEqDiff, Go.Addr.add, ↓reduceIte] at hx188_2)
       have qi188 : (1 < y180.length) = True := eq_true (by omega)
       (try rw [show ((1 : Int)).toNat = 1 from rfl] at hx188_0)
       (try rw [show 1 * 3 = 3 from rfl] at hx188_0)
       (try rw [show ((1 : Int)).toNat = 1 from rfl] at hx188_1)
       (try rw [show 1 * 3 = 3 from rfl] at hx188_1)
       (try rw [show ((1 : Int)).toNat = 1 from rfl] at hx188_2)
       (try rw [show 1 * 3 = 3 from rfl] at hx188_2)
       replace p188 := eq_true p188
       replace q188 := eq_true q188
       go_wp2
       repeat (go_quiet (fail); try go_wp2)
       go_meet
       case rel => exact ⟨_, (true), (by first | rfl | (simp; done) | (simp [*]; done)), H', ⟨by first | omega | exact Nat.le_refl _⟩, ⟨by (with_reducible repeat (first | apply Kd.R_alloc | apply Kd.R_drewN | apply Kd.R_drew)); exact Kd.R_mono HO186.out (fun _ hk => trivial)⟩, ⟨by repeat (first | (with_reducible first | exact HB.out | apply below_alloc | apply pw_below_drewN | apply below_drew1) | exact HB.out)⟩⟩
      ·rw [if_neg c11] at H
       have c11b0 : (!(((rd_T32 t183 0).f0) == ((rd_T32 y180 1).f0)) || (!((((rd_T32 t183 0).f1).toList) == (((rd_T32 y180 1).f1).toList)) || (!(((rd_T32 t183 0).f2) == ((rd_T32 y180 1).f2))))) = false := by simpa using c11
       clear c11
       by_cases c13 : 1 < (t183.length : Int)
       ·rw [if_pos c13] at H
        have c13b0 : decide (1 < (t183.length : Int)) = true := decide_eq_true c13
        have c13b1 : decide (1 < t183.length) = true := decide_eq_true (by omega)
        clear c13
        have H' := Aside0.mk H
        clear H
        obtain ⟨Ao14, co14, eo14⟩ := Kd.R_slice HO186.out
        subst eo14
        have p187 : 0 ≤ (0 : Int) := (by omega)
        have q187 : 0 < (t183.length : Int) := of_decide_eq_true (by first | (with_reducible assumption) | assumption)
        obtain ⟨ad187, e187, hx187_0, hx187_1, hx187_2⟩ := at_T32 (Kd.R_reads' HO186.out).2.2 0 p187 q187
        cases e187
        have qi187 : (0 < t183.length) = True := eq_true (by omega)
        (try rw [show ((0 : Int)).toNat = 0 from rfl] at hx187_0)
        (try rw [show 0 * 3 = 0 from rfl] at hx187_0)
        (try rw [Addr.add_zero'] at hx187_0)
        (try rw [show ((0 : Int)).toNat = 0 from rfl] at hx187_1)
        (try rw [show 0 * 3 = 0 from rfl] at hx187_1)
        (try rw [Addr.add_zero'] at hx187_1)
        (try rw [show ((0 : Int)).toNat = 0 from rfl] at hx187_2)
        (try rw [show 0 * 3 = 0 from rfl] at hx187_2)
        (try rw [Addr.add_zero'] at hx187_2)
        replace p187 := eq_true p187
        replace q187 := eq_true q187
        have p188 : 0 ≤ (1 : Int) := (by omega)
        have q188 : 1 < (y180.length : Int) := of_decide_eq_true (by first | (with_reducible assumption) | assumption)
        obtain ⟨ad188, e188, hx188_0, hx188_1, hx188_2⟩ := at_T32 (Kd.R_reads' HO182.out).2.2 1 p188 q188
        cases e188
        (try simp only [show (1 : Int).toNat = 1 from rfl, Nat.reduceMul, Nat.reduceEqDiff, Go.Addr.add, ↓reduceIte] at hx188_0)
        (try simp only [show (1 : Int).toNat = 1 from rfl, Nat.reduceMul, Nat.reduceEqDiff, Go.Addr.add, ↓reduceIte] at hx188_1)
        (try simp only [show (1 : Int).toNat = 1 from rfl, Nat.reduceMul, Nat.reduceEqDiff, Go.Addr.add, ↓reduceIte] at hx188_2)
        have qi188 : (1 < y180.length) = True := eq_true (by omega)
        (try rw [show ((1 : Int)).toNat = 1 from rfl] at hx188_0)
        (try rw [show 1 * 3 = 3 from rfl] at hx188_0)
        (try rw [show ((1 : Int)).toNat = 1 from rfl] at hx188_1)
        (try rw [show 1 * 3 = 3 from rfl] at hx188_1)
        (try rw [show ((1 : Int)).toNat = 1 from rfl] at hx188_2)
        (try rw [show 1 * 3 = 3 from rfl] at hx188_2)
        replace p188 := eq_true p188
        replace q188 := eq_true q188
        have p189 : 0 ≤ (1 : Int) := (by omega)
        have q189 : 1 < (t183.length : Int) := of_decide_eq_true (by first | (with_reducible assumption) | assumption)
        obtain ⟨ad189, e189, hx189_0, hx189_1, hx189_2⟩ := at_T32 (Kd.R_reads' HO186.out).2.2 1 p189 q189
        obtain rfl : ad187 = ad189 := (by injection e189)
        (try simp only [show (1 : Int).toNat = 1 from rfl, Nat.reduceMul, Nat.reduceEqDiff, Go.Addr.add, ↓reduceIte] at hx189_0)
        (try simp only [show (1 : Int).toNat = 1 from rfl, Nat.reduceMul, Nat.reduceEqDiff, Go.Addr.add, ↓reduceIte] at hx189_1)
        (try simp only [show (1 : Int).toNat = 1 from rfl, Nat.reduceMul, Nat.reduceEqDiff, Go.Addr.add, ↓reduceIte] at hx189_2)
        have qi189 : (1 < t183.length) = True := eq_true (by omega)
        (try rw [show ((1 : Int)).toNat = 1 from rfl] at hx189_0)
        (try rw [show 1 * 3 = 3 from rfl] at hx189_0)
        (try rw [show ((1 : Int)).toNat = 1 from rfl] at hx189_1)
        (try rw [show 1 * 3 = 3 from rfl] at hx189_1)
        (try rw [show ((1 : Int)).toNat = 1 from rfl] at hx189_2)
        (try rw [show 1 * 3 = 3 from rfl] at hx189_2)
        replace p189 := eq_true p189
        replace q189 := eq_true q189
        go_wp2
        repeat (go_quiet (fail); try go_wp2)
        go_meet
        case rel => exact ⟨_, ((!(((rd_T32 t183 1).f0) == 3) || (!((((rd_T32 t183 1).f1).toList) == ([69, 85, 82] : List UInt8)) || (!(((rd_T32 t183 1).f2) == 0))))), (by first | rfl | (simp; done) | (simp [*]; done)), H', ⟨by first | omega | exact Nat.le_refl _⟩, ⟨by (with_reducible repeat (first | apply Kd.R_alloc | apply Kd.R_drewN | apply Kd.R_drew)); exact Kd.R_mono HO186.out (fun _ hk => trivial)⟩, ⟨by repeat (first | (with_reducible first | exact HB.out | apply below_alloc | apply pw_below_drewN | apply below_drew1) | exact HB.out)⟩⟩
       ·rw [if_neg c13] at H
        exact absurd H (by simp)
     ·rw [if_neg c10] at H
      exact absurd H (by simp)
    ·rw [if_neg c9] at H
     exact absurd H (by simp)
   ·rw [if_neg c8] at H
    have c8b0 : ((t183.length : Int) == 2) = false := beq_eq_false_iff_ne.mpr c8
    have c8b1 : ((t183.length : Int) != 2) = true := bne_iff_ne.mpr c8
    have H' := Aside0.mk H
    clear H
    obtain ⟨Ao15, co15, eo15⟩ := Kd.R_slice HO186.out
    subst eo15
    go_wp2
    repeat (go_quiet (fail); try go_wp2)
    go_meet
    case rel => exact ⟨_, (true), (by first | rfl | (simp; done) | (simp [*]; done)), H', ⟨by first | omega | exact Nat.le_refl _⟩, ⟨by (with_reducible repeat (first | apply Kd.R_alloc | apply Kd.R_drewN | apply Kd.R_drew)); exact Kd.R_mono HO186.out (fun _ hk => trivial)⟩, ⟨by repeat (first | (with_reducible first | exact HB.out | apply below_alloc | apply pw_below_drewN | apply below_drew1) | exact HB.out)⟩⟩
  ·rw [if_neg c7] at H
   have c7b0 : (t184 == 0) = false := beq_eq_false_iff_ne.mpr c7
   have c7b1 : (t184 != 0) = true := bne_iff_ne.mpr c7
   (first | rw [c7b0] | (simp only [i64_w, i32_w]; rw [c7b0]) | skip)
   have H' := Aside0.mk H
   clear H
   go_wp2
   repeat (go_quiet (fail); try go_wp2)
   go_meet
   case rel => exact ⟨_, (true), (by first | rfl | (simp; done) | (simp [*]; done)), H', ⟨by first | omega | exact Nat.le_refl _⟩, ⟨by (with_reducible repeat (first | apply Kd.R_alloc | apply Kd.R_drewN | apply Kd.R_drew)); exact Kd.R_mono HO186.out (fun _ hk => trivial)⟩, ⟨by repeat (first | (with_reducible first | exact HB.out | apply below_alloc | apply pw_below_drewN | apply below_drew1) | exact HB.out)⟩⟩
 case rest =>
  clear HC2
  try clear c1; try clear p1; try clear q1; try clear hx1; try clear qi1; try clear p2; try clear c3; try clear c7; try clear c7b0; try clear c7b1; try clear c8; try clear c8b0; try clear c8b1; try clear c9; try clear c9b0; try clear c9b1; try clear c10; try clear c10b0; try clear c10b1; try clear c11; try clear c11b0; try clear c13; try clear c13b0; try clear c13b1; try clear hx187_0; try clear hx187_1; try clear hx187_2; try clear hx188_0; try clear hx188_1; try clear hx188_2; try clear hx189_0; try clear hx189_1; try clear hx189_2; try clear p187; try clear p188; try clear p189; try clear q187; try clear q188; try clear q189
  obtain ⟨kq, x40_1, rfl, HA, HJ1, HO_2, HB⟩ := hcut
  cases kq with
  | zero => exact absurd HA.out (by simp [payofflaw03_heads.j0])
  | succ kj1 =>
   have H := HA.out
   clear HA
   simp only [payofflaw03_heads.j0] at H
   by_cases c16 : x40_1 = true
   ·subst c16
    have H1 : (some false) = some r := by rw [if_pos rfl] at H; exact H
    clear H
    have H := H1
    clear H1
    obtain rfl := Option.some.inj H
    go_wp2
    repeat (go_quiet (fail); try go_wp2)
    go_ret
    exact ⟨by first | rfl | (simp [errW_none, errW_some] <;> rfl) | (simp [*, errW_none, errW_some] <;> rfl), by repeat (first | (with_reducible first | exact HB.out | apply below_alloc | apply pw_below_drewN | apply below_drew1) | exact HB.out)⟩
   ·replace c16 := Bool.eq_false_iff.mpr c16
    subst c16
    have H1 : ((flow_Print.f t183).bind fun bt190 => ((flow_Parse.f kj1 (⟨#[49, 32, 85, 83, 68, 32, 50, 10, 51, 32, 69, 85, 82, 32, 48, 10]⟩ : ByteArray)).bind fun bt192 => (if bt190.2 = 0 then (if bt190.1.toList = ([49, 32, 85, 83, 68, 32, 50, 10, 51, 32, 69, 85, 82, 32, 48, 10] : List UInt8) then (if bt192.2.2 = 0 then ((payofflaw03_same.f kj1 bt192.1 t183).bind fun t197 => (some t197)) else (some false)) else (some false)) else (some false)))) = some r := by rw [if_neg (show ¬ (false = true) by decide)] at H; exact H
    clear H
    have H := H1
    clear H1
    replace H := Option.bind_eq_some_iff.mp H
    obtain ⟨⟨t190, t191⟩, A170, H⟩ := H
    replace H : ((flow_Parse.f kj1 (⟨#[49, 32, 85, 83, 68, 32, 50, 10, 51, 32, 69, 85, 82, 32, 48, 10]⟩ : ByteArray)).bind fun bt192 => (if t191 = 0 then (if t190.toList = ([49, 32, 85, 83, 68, 32, 50, 10, 51, 32, 69, 85, 82, 32, 48, 10] : List UInt8) then (if bt192.2.2 = 0 then ((payofflaw03_same.f kj1 bt192.1 t183).bind fun t197 => (some t197)) else (some false)) else (some false)) else (some false))) = some r := H
    have A17 := Aside0.mk A170
    clear A170
    replace H := Option.bind_eq_some_iff.mp H
    obtain ⟨⟨t192, t193, t194⟩, A180, H⟩ := H
    replace H : (if t191 = 0 then (if t190.toList = ([49, 32, 85, 83, 68, 32, 50, 10, 51, 32, 69, 85, 82, 32, 48, 10] : List UInt8) then (if t194 = 0 then ((payofflaw03_same.f kj1 t192 t183).bind fun t197 => (some t197)) else (some false)) else (some false)) else (some false)) = some r := H
    have A18 := Aside0.mk A180
    clear A180
    by_cases c19 : t191 = 0
    ·rw [if_pos c19] at H
     have c19b0 : (t191 == 0) = true := beq_iff_eq.mpr c19
     have c19b1 : (t191 != 0) = false := bne_eq_false_iff_eq.mpr c19
     clear c19
     by_cases c20 : t190.toList = ([49, 32, 85, 83, 68, 32, 50, 10, 51, 32, 69, 85, 82, 32, 48, 10] : List UInt8)
     ·rw [if_pos c20] at H
      have c20b0 : (t190.toList == ([49, 32, 85, 83, 68, 32, 50, 10, 51, 32, 69, 85, 82, 32, 48, 10] : List UInt8)) = true := beq_iff_eq.mpr c20
      have c20b1 : (t190.toList != ([49, 32, 85, 83, 68, 32, 50, 10, 51, 32, 69, 85, 82, 32, 48, 10] : List UInt8)) = false := bne_eq_false_iff_eq.mpr c20
      clear c20
      by_cases c21 : t194 = 0
      ·rw [if_pos c21] at H
       have c21b0 : (t194 == 0) = true := beq_iff_eq.mpr c21
       have c21b1 : (t194 != 0) = false := bne_eq_false_iff_eq.mpr c21
       clear c21
       replace H := Option.bind_eq_some_iff.mp H
       obtain ⟨t197, A220, H⟩ := H
       replace H : (some t197) = some r := H
       have A22 := Aside0.mk A220
       clear A220
       obtain rfl := Option.some.inj H
       obtain ⟨Ao23, co23, eo23⟩ := Kd.R_slice HO_2.out
       subst eo23
       go_wp2_with (first | (go_at_call 10; (with_reducible refine (flow_Print.calls _ _ t183 t190 t191 _ (tab_below HTAB.out (by repeat (first | (with_reducible first | exact HB.out | apply below_alloc | apply pw_below_drewN | apply below_drew1) | exact HB.out))) ?side1 ?side2 A17.out).mono ?_); (case side1 => repeat (first | exact (Kd.R_reads' HO_2.out).2.2 | (with_reducible refine Kd.C_alloc ?_ _) | (with_reducible refine Kd.C_drewN ?_ _) | (with_reducible refine Kd.C_drew ?_))); (case side2 => exact (Kd.R_reads' HO_2.out).2.1); rintro e w24 ⟨rfl, hb⟩; have n0_ := Aside0.mk (Kd.R_below (by (with_reducible repeat (first | apply Kd.R_alloc | apply Kd.R_drewN | apply Kd.R_drew)); exact HO_2.out) hb); have n1_ := Aside0.mk (below_step (by repeat (first | (with_reducible first | exact HB.out | apply below_alloc | apply pw_below_drewN | apply below_drew1) | exact HB.out)) hb); clear HO_2; clear HB; have HO_2 := n0_; have HB := n1_; clear n0_ n1_; (try clear hb); (try clear hb2); (try clear hk); (try clear hi)) | (go_at_call 15; (with_reducible refine (flow_Parse.calls kj1 (⟨#[49, 32, 85, 83, 68, 32, 50, 10, 51, 32, 69, 85, 82, 32, 48, 10]⟩ : ByteArray) t192 t193 t194 _ A18.out).mono ?_); rintro e w25 ⟨v195, rfl, ho0, hb⟩; have n0_ := Aside0.mk (Kd.R_elder' (by (with_reducible repeat (first | apply Kd.R_alloc | apply Kd.R_drewN | apply Kd.R_drew)); exact HO_2.out) (Kd.R_base ho0) hb); have n1_ := Aside0.mk (Kd.R_lower (Kd.R_new' ho0 (Kd.R_lt (by (with_reducible repeat (first | apply Kd.R_alloc | apply Kd.R_drewN | apply Kd.R_drew)); exact HO_2.out))) (below_size (by repeat (first | (with_reducible first | exact HB.out | apply below_alloc | apply pw_below_drewN | apply below_drew1) | exact HB.out)))); have n2_ := Aside0.mk (below_step (by repeat (first | (with_reducible first | exact HB.out | apply below_alloc | apply pw_below_drewN | apply below_drew1) | exact HB.out)) hb); clear HO_2; clear HB; have HO_2 := n0_; have HO196 := n1_; have HB := n2_; clear n0_ n1_ n2_; (try clear hb); (try clear hb2); (try clear hk); (try clear hi); (try clear ho0); obtain ⟨Ao26, co26, eo26⟩ := Kd.R_slice HO196.out; subst eo26) | (go_at_call 16; (with_reducible refine (payofflaw03_same.calls kj1 _ _ t192 _ _ t183 t197 _ ?side1 ?side2 ?side3 ?side4 A22.out).mono ?_); (case side1 => repeat (first | exact (Kd.R_reads' HO196.out).2.2 | (with_reducible refine Kd.C_alloc ?_ _) | (with_reducible refine Kd.C_drewN ?_ _) | (with_reducible refine Kd.C_drew ?_))); (case side2 => exact (Kd.R_reads' HO196.out).2.1); (case side3 => repeat (first | exact (Kd.R_reads' HO_2.out).2.2 | (with_reducible refine Kd.C_alloc ?_ _) | (with_reducible refine Kd.C_drewN ?_ _) | (with_reducible refine Kd.C_drew ?_))); (case side4 => exact (Kd.R_reads' HO_2.out).2.1); rintro e w' ⟨rfl, ⟨nd, rfl⟩⟩; (try first | exact ⟨rfl, _, World.drewN_drewN _ _ _⟩ | exact ⟨rfl, _, Eq.trans (World.drewN_drewN _ _ _) (congrArg (World.drewN _) (Nat.add_assoc _ _ _))⟩)))
       repeat (go_quiet (first | (go_at_call 10; (with_reducible refine (flow_Print.calls _ _ t183 t190 t191 _ (tab_below HTAB.out (by repeat (first | (with_reducible first | exact HB.out | apply below_alloc | apply pw_below_drewN | apply below_drew1) | exact HB.out))) ?side1 ?side2 A17.out).mono ?_); (case side1 => repeat (first | exact (Kd.R_reads' HO_2.out).2.2 | (with_reducible refine Kd.C_alloc ?_ _) | (with_reducible refine Kd.C_drewN ?_ _) | (with_reducible refine Kd.C_drew ?_))); (case side2 => exact (Kd.R_reads' HO_2.out).2.1); rintro e w24 ⟨rfl, hb⟩; have n0_ := Aside0.mk (Kd.R_below (by (with_reducible repeat (first | apply Kd.R_alloc | apply Kd.R_drewN | apply Kd.R_drew)); exact HO_2.out) hb); have n1_ := Aside0.mk (below_step (by repeat (first | (with_reducible first | exact HB.out | apply below_alloc | apply pw_below_drewN | apply below_drew1) | exact HB.out)) hb); clear HO_2; clear HB; have HO_2 := n0_; have HB := n1_; clear n0_ n1_; (try clear hb); (try clear hb2); (try clear hk); (try clear hi)) | (go_at_call 15; (with_reducible refine (flow_Parse.calls kj1 (⟨#[49, 32, 85, 83, 68, 32, 50, 10, 51, 32, 69, 85, 82, 32, 48, 10]⟩ : ByteArray) t192 t193 t194 _ A18.out).mono ?_); rintro e w25 ⟨v195, rfl, ho0, hb⟩; have n0_ := Aside0.mk (Kd.R_elder' (by (with_reducible repeat (first | apply Kd.R_alloc | apply Kd.R_drewN | apply Kd.R_drew)); exact HO_2.out) (Kd.R_base ho0) hb); have n1_ := Aside0.mk (Kd.R_lower (Kd.R_new' ho0 (Kd.R_lt (by (with_reducible repeat (first | apply Kd.R_alloc | apply Kd.R_drewN | apply Kd.R_drew)); exact HO_2.out))) (below_size (by repeat (first | (with_reducible first | exact HB.out | apply below_alloc | apply pw_below_drewN | apply below_drew1) | exact HB.out)))); have n2_ := Aside0.mk (below_step (by repeat (first | (with_reducible first | exact HB.out | apply below_alloc | apply pw_below_drewN | apply below_drew1) | exact HB.out)) hb); clear HO_2; clear HB; have HO_2 := n0_; have HO196 := n1_; have HB := n2_; clear n0_ n1_ n2_; (try clear hb); (try clear hb2); (try clear hk); (try clear hi); (try clear ho0); obtain ⟨Ao26, co26, eo26⟩ := Kd.R_slice HO196.out; subst eo26) | (go_at_call 16; (with_reducible refine (payofflaw03_same.calls kj1 _ _ t192 _ _ t183 t197 _ ?side1 ?side2 ?side3 ?side4 A22.out).mono ?_); (case side1 => repeat (first | exact (Kd.R_reads' HO196.out).2.2 | (with_reducible refine Kd.C_alloc ?_ _) | (with_reducible refine Kd.C_drewN ?_ _) | (with_reducible refine Kd.C_drew ?_))); (case side2 => exact (Kd.R_reads' HO196.out).2.1); (case side3 => repeat (first | exact (Kd.R_reads' HO_2.out).2.2 | (with_reducible refine Kd.C_alloc ?_ _) | (with_reducible refine Kd.C_drewN ?_ _) | (with_reducible refine Kd.C_drew ?_))); (case side4 => exact (Kd.R_reads' HO_2.out).2.1); rintro e w' ⟨rfl, ⟨nd, rfl⟩⟩; (try first | exact ⟨rfl, _, World.drewN_drewN _ _ _⟩ | exact ⟨rfl, _, Eq.trans (World.drewN_drewN _ _ _) (congrArg (World.drewN _) (Nat.add_assoc _ _ _))⟩))); try go_wp2_with (first | (go_at_call 10; (with_reducible refine (flow_Print.calls _ _ t183 t190 t191 _ (tab_below HTAB.out (by repeat (first | (with_reducible first | exact HB.out | apply below_alloc | apply pw_below_drewN | apply below_drew1) | exact HB.out))) ?side1 ?side2 A17.out).mono ?_); (case side1 => repeat (first | exact (Kd.R_reads' HO_2.out).2.2 | (with_reducible refine Kd.C_alloc ?_ _) | (with_reducible refine Kd.C_drewN ?_ _) | (with_reducible refine Kd.C_drew ?_))); (case side2 => exact (Kd.R_reads' HO_2.out).2.1); rintro e w24 ⟨rfl, hb⟩; have n0_ := Aside0.mk (Kd.R_below (by (with_reducible repeat (first | apply Kd.R_alloc | apply Kd.R_drewN | apply Kd.R_drew)); exact HO_2.out) hb); have n1_ := Aside0.mk (below_step (by repeat (first | (with_reducible first | exact HB.out | apply below_alloc | apply pw_below_drewN | apply below_drew1) | exact HB.out)) hb); clear HO_2; clear HB; have HO_2 := n0_; have HB := n1_; clear n0_ n1_; (try clear hb); (try clear hb2); (try clear hk); (try clear hi)) | (go_at_call 15; (with_reducible refine (flow_Parse.calls kj1 (⟨#[49, 32, 85, 83, 68, 32, 50, 10, 51, 32, 69, 85, 82, 32, 48, 10]⟩ : ByteArray) t192 t193 t194 _ A18.out).mono ?_); rintro e w25 ⟨v195, rfl, ho0, hb⟩; have n0_ := Aside0.mk (Kd.R_elder' (by (with_reducible repeat (first | apply Kd.R_alloc | apply Kd.R_drewN | apply Kd.R_drew)); exact HO_2.out) (Kd.R_base ho0) hb); have n1_ := Aside0.mk (Kd.R_lower (Kd.R_new' ho0 (Kd.R_lt (by (with_reducible repeat (first | apply Kd.R_alloc | apply Kd.R_drewN | apply Kd.R_drew)); exact HO_2.out))) (below_size (by repeat (first | (with_reducible first | exact HB.out | apply below_alloc | apply pw_below_drewN | apply below_drew1) | exact HB.out)))); have n2_ := Aside0.mk (below_step (by repeat (first | (with_reducible first | exact HB.out | apply below_alloc | apply pw_below_drewN | apply below_drew1) | exact HB.out)) hb); clear HO_2; clear HB; have HO_2 := n0_; have HO196 := n1_; have HB := n2_; clear n0_ n1_ n2_; (try clear hb); (try clear hb2); (try clear hk); (try clear hi); (try clear ho0); obtain ⟨Ao26, co26, eo26⟩ := Kd.R_slice HO196.out; subst eo26) | (go_at_call 16; (with_reducible refine (payofflaw03_same.calls kj1 _ _ t192 _ _ t183 t197 _ ?side1 ?side2 ?side3 ?side4 A22.out).mono ?_); (case side1 => repeat (first | exact (Kd.R_reads' HO196.out).2.2 | (with_reducible refine Kd.C_alloc ?_ _) | (with_reducible refine Kd.C_drewN ?_ _) | (with_reducible refine Kd.C_drew ?_))); (case side2 => exact (Kd.R_reads' HO196.out).2.1); (case side3 => repeat (first | exact (Kd.R_reads' HO_2.out).2.2 | (with_reducible refine Kd.C_alloc ?_ _) | (with_reducible refine Kd.C_drewN ?_ _) | (with_reducible refine Kd.C_drew ?_))); (case side4 => exact (Kd.R_reads' HO_2.out).2.1); rintro e w' ⟨rfl, ⟨nd, rfl⟩⟩; (try first | exact ⟨rfl, _, World.drewN_drewN _ _ _⟩ | exact ⟨rfl, _, Eq.trans (World.drewN_drewN _ _ _) (congrArg (World.drewN _) (Nat.add_assoc _ _ _))⟩))))
       go_ret
       exact ⟨by first | rfl | (simp [errW_none, errW_some] <;> rfl) | (simp [*, errW_none, errW_some] <;> rfl), by repeat (first | (with_reducible first | exact HB.out | apply below_alloc | apply pw_below_drewN | apply below_drew1) | exact HB.out)⟩
      ·rw [if_neg c21] at H
       have c21b0 : (t194 == 0) = false := beq_eq_false_iff_ne.mpr c21
       have c21b1 : (t194 != 0) = true := bne_iff_ne.mpr c21
       obtain rfl := Option.some.inj H
       obtain ⟨Ao27, co27, eo27⟩ := Kd.R_slice HO_2.out
       subst eo27
       go_wp2_with (first | (go_at_call 10; (with_reducible refine (flow_Print.calls _ _ t183 t190 t191 _ (tab_below HTAB.out (by repeat (first | (with_reducible first | exact HB.out | apply below_alloc | apply pw_below_drewN | apply below_drew1) | exact HB.out))) ?side1 ?side2 A17.out).mono ?_); (case side1 => repeat (first | exact (Kd.R_reads' HO_2.out).2.2 | (with_reducible refine Kd.C_alloc ?_ _) | (with_reducible refine Kd.C_drewN ?_ _) | (with_reducible refine Kd.C_drew ?_))); (case side2 => exact (Kd.R_reads' HO_2.out).2.1); rintro e w28 ⟨rfl, hb⟩; have n0_ := Aside0.mk (Kd.R_below (by (with_reducible repeat (first | apply Kd.R_alloc | apply Kd.R_drewN | apply Kd.R_drew)); exact HO_2.out) hb); have n1_ := Aside0.mk (below_step (by repeat (first | (with_reducible first | exact HB.out | apply below_alloc | apply pw_below_drewN | apply below_drew1) | exact HB.out)) hb); clear HO_2; clear HB; have HO_2 := n0_; have HB := n1_; clear n0_ n1_; (try clear hb); (try clear hb2); (try clear hk); (try clear hi)) | (go_at_call 15; (with_reducible refine (flow_Parse.calls kj1 (⟨#[49, 32, 85, 83, 68, 32, 50, 10, 51, 32, 69, 85, 82, 32, 48, 10]⟩ : ByteArray) t192 t193 t194 _ A18.out).mono ?_); rintro e w29 ⟨v195, rfl, ho0, hb⟩; have n0_ := Aside0.mk (Kd.R_elder' (by (with_reducible repeat (first | apply Kd.R_alloc | apply Kd.R_drewN | apply Kd.R_drew)); exact HO_2.out) (Kd.R_base ho0) hb); have n1_ := Aside0.mk (Kd.R_lower (Kd.R_new' ho0 (Kd.R_lt (by (with_reducible repeat (first | apply Kd.R_alloc | apply Kd.R_drewN | apply Kd.R_drew)); exact HO_2.out))) (below_size (by repeat (first | (with_reducible first | exact HB.out | apply below_alloc | apply pw_below_drewN | apply below_drew1) | exact HB.out)))); have n2_ := Aside0.mk (below_step (by repeat (first | (with_reducible first | exact HB.out | apply below_alloc | apply pw_below_drewN | apply below_drew1) | exact HB.out)) hb); clear HO_2; clear HB; have HO_2 := n0_; have HO196 := n1_; have HB := n2_; clear n0_ n1_ n2_; (try clear hb); (try clear hb2); (try clear hk); (try clear hi); (try clear ho0)))
       repeat (go_quiet (first | (go_at_call 10; (with_reducible refine (flow_Print.calls _ _ t183 t190 t191 _ (tab_below HTAB.out (by repeat (first | (with_reducible first | exact HB.out | apply below_alloc | apply pw_below_drewN | apply below_drew1) | exact HB.out))) ?side1 ?side2 A17.out).mono ?_); (case side1 => repeat (first | exact (Kd.R_reads' HO_2.out).2.2 | (with_reducible refine Kd.C_alloc ?_ _) | (with_reducible refine Kd.C_drewN ?_ _) | (with_reducible refine Kd.C_drew ?_))); (case side2 => exact (Kd.R_reads' HO_2.out).2.1); rintro e w28 ⟨rfl, hb⟩; have n0_ := Aside0.mk (Kd.R_below (by (with_reducible repeat (first | apply Kd.R_alloc | apply Kd.R_drewN | apply Kd.R_drew)); exact HO_2.out) hb); have n1_ := Aside0.mk (below_step (by repeat (first | (with_reducible first | exact HB.out | apply below_alloc | apply pw_below_drewN | apply below_drew1) | exact HB.out)) hb); clear HO_2; clear HB; have HO_2 := n0_; have HB := n1_; clear n0_ n1_; (try clear hb); (try clear hb2); (try clear hk); (try clear hi)) | (go_at_call 15; (with_reducible refine (flow_Parse.calls kj1 (⟨#[49, 32, 85, 83, 68, 32, 50, 10, 51, 32, 69, 85, 82, 32, 48, 10]⟩ : ByteArray) t192 t193 t194 _ A18.out).mono ?_); rintro e w29 ⟨v195, rfl, ho0, hb⟩; have n0_ := Aside0.mk (Kd.R_elder' (by (with_reducible repeat (first | apply Kd.R_alloc | apply Kd.R_drewN | apply Kd.R_drew)); exact HO_2.out) (Kd.R_base ho0) hb); have n1_ := Aside0.mk (Kd.R_lower (Kd.R_new' ho0 (Kd.R_lt (by (with_reducible repeat (first | apply Kd.R_alloc | apply Kd.R_drewN | apply Kd.R_drew)); exact HO_2.out))) (below_size (by repeat (first | (with_reducible first | exact HB.out | apply below_alloc | apply pw_below_drewN | apply below_drew1) | exact HB.out)))); have n2_ := Aside0.mk (below_step (by repeat (first | (with_reducible first | exact HB.out | apply below_alloc | apply pw_below_drewN | apply below_drew1) | exact HB.out)) hb); clear HO_2; clear HB; have HO_2 := n0_; have HO196 := n1_; have HB := n2_; clear n0_ n1_ n2_; (try clear hb); (try clear hb2); (try clear hk); (try clear hi); (try clear ho0))); try go_wp2_with (first | (go_at_call 10; (with_reducible refine (flow_Print.calls _ _ t183 t190 t191 _ (tab_below HTAB.out (by repeat (first | (with_reducible first | exact HB.out | apply below_alloc | apply pw_below_drewN | apply below_drew1) | exact HB.out))) ?side1 ?side2 A17.out).mono ?_); (case side1 => repeat (first | exact (Kd.R_reads' HO_2.out).2.2 | (with_reducible refine Kd.C_alloc ?_ _) | (with_reducible refine Kd.C_drewN ?_ _) | (with_reducible refine Kd.C_drew ?_))); (case side2 => exact (Kd.R_reads' HO_2.out).2.1); rintro e w28 ⟨rfl, hb⟩; have n0_ := Aside0.mk (Kd.R_below (by (with_reducible repeat (first | apply Kd.R_alloc | apply Kd.R_drewN | apply Kd.R_drew)); exact HO_2.out) hb); have n1_ := Aside0.mk (below_step (by repeat (first | (with_reducible first | exact HB.out | apply below_alloc | apply pw_below_drewN | apply below_drew1) | exact HB.out)) hb); clear HO_2; clear HB; have HO_2 := n0_; have HB := n1_; clear n0_ n1_; (try clear hb); (try clear hb2); (try clear hk); (try clear hi)) | (go_at_call 15; (with_reducible refine (flow_Parse.calls kj1 (⟨#[49, 32, 85, 83, 68, 32, 50, 10, 51, 32, 69, 85, 82, 32, 48, 10]⟩ : ByteArray) t192 t193 t194 _ A18.out).mono ?_); rintro e w29 ⟨v195, rfl, ho0, hb⟩; have n0_ := Aside0.mk (Kd.R_elder' (by (with_reducible repeat (first | apply Kd.R_alloc | apply Kd.R_drewN | apply Kd.R_drew)); exact HO_2.out) (Kd.R_base ho0) hb); have n1_ := Aside0.mk (Kd.R_lower (Kd.R_new' ho0 (Kd.R_lt (by (with_reducible repeat (first | apply Kd.R_alloc | apply Kd.R_drewN | apply Kd.R_drew)); exact HO_2.out))) (below_size (by repeat (first | (with_reducible first | exact HB.out | apply below_alloc | apply pw_below_drewN | apply below_drew1) | exact HB.out)))); have n2_ := Aside0.mk (below_step (by repeat (first | (with_reducible first | exact HB.out | apply below_alloc | apply pw_below_drewN | apply below_drew1) | exact HB.out)) hb); clear HO_2; clear HB; have HO_2 := n0_; have HO196 := n1_; have HB := n2_; clear n0_ n1_ n2_; (try clear hb); (try clear hb2); (try clear hk); (try clear hi); (try clear ho0))))
       go_ret
       exact ⟨by first | rfl | (simp [errW_none, errW_some] <;> rfl) | (simp [*, errW_none, errW_some] <;> rfl), by repeat (first | (with_reducible first | exact HB.out | apply below_alloc | apply pw_below_drewN | apply below_drew1) | exact HB.out)⟩
     ·rw [if_neg c20] at H
      have c20b0 : (t190.toList == ([49, 32, 85, 83, 68, 32, 50, 10, 51, 32, 69, 85, 82, 32, 48, 10] : List UInt8)) = false := beq_eq_false_iff_ne.mpr c20
      have c20b1 : (t190.toList != ([49, 32, 85, 83, 68, 32, 50, 10, 51, 32, 69, 85, 82, 32, 48, 10] : List UInt8)) = true := bne_iff_ne.mpr c20
      obtain rfl := Option.some.inj H
      obtain ⟨Ao30, co30, eo30⟩ := Kd.R_slice HO_2.out
      subst eo30
      go_wp2_with (first | (go_at_call 10; (with_reducible refine (flow_Print.calls _ _ t183 t190 t191 _ (tab_below HTAB.out (by repeat (first | (with_reducible first | exact HB.out | apply below_alloc | apply pw_below_drewN | apply below_drew1) | exact HB.out))) ?side1 ?side2 A17.out).mono ?_); (case side1 => repeat (first | exact (Kd.R_reads' HO_2.out).2.2 | (with_reducible refine Kd.C_alloc ?_ _) | (with_reducible refine Kd.C_drewN ?_ _) | (with_reducible refine Kd.C_drew ?_))); (case side2 => exact (Kd.R_reads' HO_2.out).2.1); rintro e w31 ⟨rfl, hb⟩; have n0_ := Aside0.mk (Kd.R_below (by (with_reducible repeat (first | apply Kd.R_alloc | apply Kd.R_drewN | apply Kd.R_drew)); exact HO_2.out) hb); have n1_ := Aside0.mk (below_step (by repeat (first | (with_reducible first | exact HB.out | apply below_alloc | apply pw_below_drewN | apply below_drew1) | exact HB.out)) hb); clear HO_2; clear HB; have HO_2 := n0_; have HB := n1_; clear n0_ n1_; (try clear hb); (try clear hb2); (try clear hk); (try clear hi)) | (go_at_call 15; (with_reducible refine (flow_Parse.calls kj1 (⟨#[49, 32, 85, 83, 68, 32, 50, 10, 51, 32, 69, 85, 82, 32, 48, 10]⟩ : ByteArray) t192 t193 t194 _ A18.out).mono ?_); rintro e w32 ⟨v195, rfl, ho0, hb⟩; have n0_ := Aside0.mk (Kd.R_elder' (by (with_reducible repeat (first | apply Kd.R_alloc | apply Kd.R_drewN | apply Kd.R_drew)); exact HO_2.out) (Kd.R_base ho0) hb); have n1_ := Aside0.mk (Kd.R_lower (Kd.R_new' ho0 (Kd.R_lt (by (with_reducible repeat (first | apply Kd.R_alloc | apply Kd.R_drewN | apply Kd.R_drew)); exact HO_2.out))) (below_size (by repeat (first | (with_reducible first | exact HB.out | apply below_alloc | apply pw_below_drewN | apply below_drew1) | exact HB.out)))); have n2_ := Aside0.mk (below_step (by repeat (first | (with_reducible first | exact HB.out | apply below_alloc | apply pw_below_drewN | apply below_drew1) | exact HB.out)) hb); clear HO_2; clear HB; have HO_2 := n0_; have HO196 := n1_; have HB := n2_; clear n0_ n1_ n2_; (try clear hb); (try clear hb2); (try clear hk); (try clear hi); (try clear ho0)))
      repeat (go_quiet (first | (go_at_call 10; (with_reducible refine (flow_Print.calls _ _ t183 t190 t191 _ (tab_below HTAB.out (by repeat (first | (with_reducible first | exact HB.out | apply below_alloc | apply pw_below_drewN | apply below_drew1) | exact HB.out))) ?side1 ?side2 A17.out).mono ?_); (case side1 => repeat (first | exact (Kd.R_reads' HO_2.out).2.2 | (with_reducible refine Kd.C_alloc ?_ _) | (with_reducible refine Kd.C_drewN ?_ _) | (with_reducible refine Kd.C_drew ?_))); (case side2 => exact (Kd.R_reads' HO_2.out).2.1); rintro e w31 ⟨rfl, hb⟩; have n0_ := Aside0.mk (Kd.R_below (by (with_reducible repeat (first | apply Kd.R_alloc | apply Kd.R_drewN | apply Kd.R_drew)); exact HO_2.out) hb); have n1_ := Aside0.mk (below_step (by repeat (first | (with_reducible first | exact HB.out | apply below_alloc | apply pw_below_drewN | apply below_drew1) | exact HB.out)) hb); clear HO_2; clear HB; have HO_2 := n0_; have HB := n1_; clear n0_ n1_; (try clear hb); (try clear hb2); (try clear hk); (try clear hi)) | (go_at_call 15; (with_reducible refine (flow_Parse.calls kj1 (⟨#[49, 32, 85, 83, 68, 32, 50, 10, 51, 32, 69, 85, 82, 32, 48, 10]⟩ : ByteArray) t192 t193 t194 _ A18.out).mono ?_); rintro e w32 ⟨v195, rfl, ho0, hb⟩; have n0_ := Aside0.mk (Kd.R_elder' (by (with_reducible repeat (first | apply Kd.R_alloc | apply Kd.R_drewN | apply Kd.R_drew)); exact HO_2.out) (Kd.R_base ho0) hb); have n1_ := Aside0.mk (Kd.R_lower (Kd.R_new' ho0 (Kd.R_lt (by (with_reducible repeat (first | apply Kd.R_alloc | apply Kd.R_drewN | apply Kd.R_drew)); exact HO_2.out))) (below_size (by repeat (first | (with_reducible first | exact HB.out | apply below_alloc | apply pw_below_drewN | apply below_drew1) | exact HB.out)))); have n2_ := Aside0.mk (below_step (by repeat (first | (with_reducible first | exact HB.out | apply below_alloc | apply pw_below_drewN | apply below_drew1) | exact HB.out)) hb); clear HO_2; clear HB; have HO_2 := n0_; have HO196 := n1_; have HB := n2_; clear n0_ n1_ n2_; (try clear hb); (try clear hb2); (try clear hk); (try clear hi); (try clear ho0))); try go_wp2_with (first | (go_at_call 10; (with_reducible refine (flow_Print.calls _ _ t183 t190 t191 _ (tab_below HTAB.out (by repeat (first | (with_reducible first | exact HB.out | apply below_alloc | apply pw_below_drewN | apply below_drew1) | exact HB.out))) ?side1 ?side2 A17.out).mono ?_); (case side1 => repeat (first | exact (Kd.R_reads' HO_2.out).2.2 | (with_reducible refine Kd.C_alloc ?_ _) | (with_reducible refine Kd.C_drewN ?_ _) | (with_reducible refine Kd.C_drew ?_))); (case side2 => exact (Kd.R_reads' HO_2.out).2.1); rintro e w31 ⟨rfl, hb⟩; have n0_ := Aside0.mk (Kd.R_below (by (with_reducible repeat (first | apply Kd.R_alloc | apply Kd.R_drewN | apply Kd.R_drew)); exact HO_2.out) hb); have n1_ := Aside0.mk (below_step (by repeat (first | (with_reducible first | exact HB.out | apply below_alloc | apply pw_below_drewN | apply below_drew1) | exact HB.out)) hb); clear HO_2; clear HB; have HO_2 := n0_; have HB := n1_; clear n0_ n1_; (try clear hb); (try clear hb2); (try clear hk); (try clear hi)) | (go_at_call 15; (with_reducible refine (flow_Parse.calls kj1 (⟨#[49, 32, 85, 83, 68, 32, 50, 10, 51, 32, 69, 85, 82, 32, 48, 10]⟩ : ByteArray) t192 t193 t194 _ A18.out).mono ?_); rintro e w32 ⟨v195, rfl, ho0, hb⟩; have n0_ := Aside0.mk (Kd.R_elder' (by (with_reducible repeat (first | apply Kd.R_alloc | apply Kd.R_drewN | apply Kd.R_drew)); exact HO_2.out) (Kd.R_base ho0) hb); have n1_ := Aside0.mk (Kd.R_lower (Kd.R_new' ho0 (Kd.R_lt (by (with_reducible repeat (first | apply Kd.R_alloc | apply Kd.R_drewN | apply Kd.R_drew)); exact HO_2.out))) (below_size (by repeat (first | (with_reducible first | exact HB.out | apply below_alloc | apply pw_below_drewN | apply below_drew1) | exact HB.out)))); have n2_ := Aside0.mk (below_step (by repeat (first | (with_reducible first | exact HB.out | apply below_alloc | apply pw_below_drewN | apply below_drew1) | exact HB.out)) hb); clear HO_2; clear HB; have HO_2 := n0_; have HO196 := n1_; have HB := n2_; clear n0_ n1_ n2_; (try clear hb); (try clear hb2); (try clear hk); (try clear hi); (try clear ho0))))
      go_ret
      exact ⟨by first | rfl | (simp [errW_none, errW_some] <;> rfl) | (simp [*, errW_none, errW_some] <;> rfl), by repeat (first | (with_reducible first | exact HB.out | apply below_alloc | apply pw_below_drewN | apply below_drew1) | exact HB.out)⟩
    ·rw [if_neg c19] at H
     have c19b0 : (t191 == 0) = false := beq_eq_false_iff_ne.mpr c19
     have c19b1 : (t191 != 0) = true := bne_iff_ne.mpr c19
     obtain rfl := Option.some.inj H
     obtain ⟨Ao33, co33, eo33⟩ := Kd.R_slice HO_2.out
     subst eo33
     go_wp2_with (first | (go_at_call 10; (with_reducible refine (flow_Print.calls _ _ t183 t190 t191 _ (tab_below HTAB.out (by repeat (first | (with_reducible first | exact HB.out | apply below_alloc | apply pw_below_drewN | apply below_drew1) | exact HB.out))) ?side1 ?side2 A17.out).mono ?_); (case side1 => repeat (first | exact (Kd.R_reads' HO_2.out).2.2 | (with_reducible refine Kd.C_alloc ?_ _) | (with_reducible refine Kd.C_drewN ?_ _) | (with_reducible refine Kd.C_drew ?_))); (case side2 => exact (Kd.R_reads' HO_2.out).2.1); rintro e w34 ⟨rfl, hb⟩; have n0_ := Aside0.mk (Kd.R_below (by (with_reducible repeat (first | apply Kd.R_alloc | apply Kd.R_drewN | apply Kd.R_drew)); exact HO_2.out) hb); have n1_ := Aside0.mk (below_step (by repeat (first | (with_reducible first | exact HB.out | apply below_alloc | apply pw_below_drewN | apply below_drew1) | exact HB.out)) hb); clear HO_2; clear HB; have HO_2 := n0_; have HB := n1_; clear n0_ n1_; (try clear hb); (try clear hb2); (try clear hk); (try clear hi)) | (go_at_call 15; (with_reducible refine (flow_Parse.calls kj1 (⟨#[49, 32, 85, 83, 68, 32, 50, 10, 51, 32, 69, 85, 82, 32, 48, 10]⟩ : ByteArray) t192 t193 t194 _ A18.out).mono ?_); rintro e w35 ⟨v195, rfl, ho0, hb⟩; have n0_ := Aside0.mk (Kd.R_elder' (by (with_reducible repeat (first | apply Kd.R_alloc | apply Kd.R_drewN | apply Kd.R_drew)); exact HO_2.out) (Kd.R_base ho0) hb); have n1_ := Aside0.mk (Kd.R_lower (Kd.R_new' ho0 (Kd.R_lt (by (with_reducible repeat (first | apply Kd.R_alloc | apply Kd.R_drewN | apply Kd.R_drew)); exact HO_2.out))) (below_size (by repeat (first | (with_reducible first | exact HB.out | apply below_alloc | apply pw_below_drewN | apply below_drew1) | exact HB.out)))); have n2_ := Aside0.mk (below_step (by repeat (first | (with_reducible first | exact HB.out | apply below_alloc | apply pw_below_drewN | apply below_drew1) | exact HB.out)) hb); clear HO_2; clear HB; have HO_2 := n0_; have HO196 := n1_; have HB := n2_; clear n0_ n1_ n2_; (try clear hb); (try clear hb2); (try clear hk); (try clear hi); (try clear ho0)))
     repeat (go_quiet (first | (go_at_call 10; (with_reducible refine (flow_Print.calls _ _ t183 t190 t191 _ (tab_below HTAB.out (by repeat (first | (with_reducible first | exact HB.out | apply below_alloc | apply pw_below_drewN | apply below_drew1) | exact HB.out))) ?side1 ?side2 A17.out).mono ?_); (case side1 => repeat (first | exact (Kd.R_reads' HO_2.out).2.2 | (with_reducible refine Kd.C_alloc ?_ _) | (with_reducible refine Kd.C_drewN ?_ _) | (with_reducible refine Kd.C_drew ?_))); (case side2 => exact (Kd.R_reads' HO_2.out).2.1); rintro e w34 ⟨rfl, hb⟩; have n0_ := Aside0.mk (Kd.R_below (by (with_reducible repeat (first | apply Kd.R_alloc | apply Kd.R_drewN | apply Kd.R_drew)); exact HO_2.out) hb); have n1_ := Aside0.mk (below_step (by repeat (first | (with_reducible first | exact HB.out | apply below_alloc | apply pw_below_drewN | apply below_drew1) | exact HB.out)) hb); clear HO_2; clear HB; have HO_2 := n0_; have HB := n1_; clear n0_ n1_; (try clear hb); (try clear hb2); (try clear hk); (try clear hi)) | (go_at_call 15; (with_reducible refine (flow_Parse.calls kj1 (⟨#[49, 32, 85, 83, 68, 32, 50, 10, 51, 32, 69, 85, 82, 32, 48, 10]⟩ : ByteArray) t192 t193 t194 _ A18.out).mono ?_); rintro e w35 ⟨v195, rfl, ho0, hb⟩; have n0_ := Aside0.mk (Kd.R_elder' (by (with_reducible repeat (first | apply Kd.R_alloc | apply Kd.R_drewN | apply Kd.R_drew)); exact HO_2.out) (Kd.R_base ho0) hb); have n1_ := Aside0.mk (Kd.R_lower (Kd.R_new' ho0 (Kd.R_lt (by (with_reducible repeat (first | apply Kd.R_alloc | apply Kd.R_drewN | apply Kd.R_drew)); exact HO_2.out))) (below_size (by repeat (first | (with_reducible first | exact HB.out | apply below_alloc | apply pw_below_drewN | apply below_drew1) | exact HB.out)))); have n2_ := Aside0.mk (below_step (by repeat (first | (with_reducible first | exact HB.out | apply below_alloc | apply pw_below_drewN | apply below_drew1) | exact HB.out)) hb); clear HO_2; clear HB; have HO_2 := n0_; have HO196 := n1_; have HB := n2_; clear n0_ n1_ n2_; (try clear hb); (try clear hb2); (try clear hk); (try clear hi); (try clear ho0))); try go_wp2_with (first | (go_at_call 10; (with_reducible refine (flow_Print.calls _ _ t183 t190 t191 _ (tab_below HTAB.out (by repeat (first | (with_reducible first | exact HB.out | apply below_alloc | apply pw_below_drewN | apply below_drew1) | exact HB.out))) ?side1 ?side2 A17.out).mono ?_); (case side1 => repeat (first | exact (Kd.R_reads' HO_2.out).2.2 | (with_reducible refine Kd.C_alloc ?_ _) | (with_reducible refine Kd.C_drewN ?_ _) | (with_reducible refine Kd.C_drew ?_))); (case side2 => exact (Kd.R_reads' HO_2.out).2.1); rintro e w34 ⟨rfl, hb⟩; have n0_ := Aside0.mk (Kd.R_below (by (with_reducible repeat (first | apply Kd.R_alloc | apply Kd.R_drewN | apply Kd.R_drew)); exact HO_2.out) hb); have n1_ := Aside0.mk (below_step (by repeat (first | (with_reducible first | exact HB.out | apply below_alloc | apply pw_below_drewN | apply below_drew1) | exact HB.out)) hb); clear HO_2; clear HB; have HO_2 := n0_; have HB := n1_; clear n0_ n1_; (try clear hb); (try clear hb2); (try clear hk); (try clear hi)) | (go_at_call 15; (with_reducible refine (flow_Parse.calls kj1 (⟨#[49, 32, 85, 83, 68, 32, 50, 10, 51, 32, 69, 85, 82, 32, 48, 10]⟩ : ByteArray) t192 t193 t194 _ A18.out).mono ?_); rintro e w35 ⟨v195, rfl, ho0, hb⟩; have n0_ := Aside0.mk (Kd.R_elder' (by (with_reducible repeat (first | apply Kd.R_alloc | apply Kd.R_drewN | apply Kd.R_drew)); exact HO_2.out) (Kd.R_base ho0) hb); have n1_ := Aside0.mk (Kd.R_lower (Kd.R_new' ho0 (Kd.R_lt (by (with_reducible repeat (first | apply Kd.R_alloc | apply Kd.R_drewN | apply Kd.R_drew)); exact HO_2.out))) (below_size (by repeat (first | (with_reducible first | exact HB.out | apply below_alloc | apply pw_below_drewN | apply below_drew1) | exact HB.out)))); have n2_ := Aside0.mk (below_step (by repeat (first | (with_reducible first | exact HB.out | apply below_alloc | apply pw_below_drewN | apply below_drew1) | exact HB.out)) hb); clear HO_2; clear HB; have HO_2 := n0_; have HO196 := n1_; have HB := n2_; clear n0_ n1_ n2_; (try clear hb); (try clear hb2); (try clear hk); (try clear hi); (try clear ho0))))
     go_ret
     exact ⟨by first | rfl | (simp [errW_none, errW_some] <;> rfl) | (simp [*, errW_none, errW_some] <;> rfl), by repeat (first | (with_reducible first | exact HB.out | apply below_alloc | apply pw_below_drewN | apply below_drew1) | exact HB.out)⟩

end Go.Proofs.YtdfndbegifdejaaDoor.GD
