/- The comparing closure of flow.Net: what it answers, and its world told exactly (some orders drawn, some blocks laid). -/
import Derived.Test.YtdfndbegifdejaaGNetCx2
import Derived.Test.YtdfndbegifdejaaSrtS
import Derived.Test.YtdfndbegifdejaaGrpP
namespace Go.Proofs.Ytdfndbegifdejaa.GNetC
set_option linter.unusedVariables false
set_option linter.unusedSimpArgs false
open Go.RowKit Go.Proofs.YtdfndbegifdejaaW.PrintWords Go.Proofs.YtdfndbegifdejaaW.PrintLast Go.Proofs.YtdfndbegifdejaaW.PrintMore Go.Proofs.YtdfndbegifdejaaMine Go.Sort Go.Shelf
open Go.Proofs.Ytdfndbegifdejaa.PFlowExact (scmp Pl plV)

def c3 (a b : Int) : Int := if a < b then -1 else if b < a then 1 else 0

/-- Some orders drawn, some blocks laid. -/
def GD (w w' : World) : Prop := ∃ q os, w' = grow (w.drewN q) os
theorem GD.refl (w : World) : GD w w := ⟨0, #[], by rw [grow_empty]; rfl⟩
theorem GD.alloc {w w' : World} (h : GD w w') (o : Obj) : GD w (w'.alloc o) := by
  obtain ⟨q, os, rfl⟩ := h
  exact ⟨q, os ++ #[o], by rw [alloc_eq_grow, grow_grow]⟩
theorem GD.drewN {w w' : World} (h : GD w w') (n : Nat) : GD w (w'.drewN n) := by
  obtain ⟨q, os, rfl⟩ := h
  refine ⟨q + n, os, ?_⟩
  rw [← World.drewN_drewN]
  rfl
theorem GD.drew {w w' : World} (h : GD w w') : GD w w'.drew := h.drewN 1

def pcmp (x y : Pl) : Int := if c3 x.d y.d = 0 then scmp x.c y.c else c3 x.d y.d
theorem cmpC_f (a b : Int) : cmp_Compare_int.f a b = some (c3 a b) := by
  unfold cmp_Compare_int.f cmp_isNaN_int.f c3
  simp
  split
  · rfl
  · split <;> rfl
theorem or2 (a b : Int) : cmp_Or_int.f 5 [a, b] = some (if a = 0 then b else a) := by
  unfold cmp_Or_int.f
  by_cases h : a = 0
  · subst h
    by_cases h2 : b = 0
    · subst h2; simp [cmp_Or_int.l0, Go.Proofs.YtdfndbegifdejaaW.PrintWords.rd, wrap64]
    · simp [cmp_Or_int.l0, Go.Proofs.YtdfndbegifdejaaW.PrintWords.rd, wrap64, h2]
  · simp [cmp_Or_int.l0, Go.Proofs.YtdfndbegifdejaaW.PrintWords.rd, h]
theorem two_C (w : World) (a b : Int) : Kd.C (Kd.int .i64) (w.alloc (.cells #[.int .i64 a, .int .i64 b] 3 (0, 0))) (some ⟨w.heap.size, 0, none⟩) 2 [a, b] := by
  have hb := blk_new w (.cells #[.int .i64 a, .int .i64 b] 3 (0, 0))
  have ho : (w.alloc (.cells #[.int .i64 a, .int .i64 b] 3 (0, 0))).ownsRow 0 3 1 (.slice (some ⟨w.heap.size, 0, none⟩) 2 2) 2 [.int .i64 a, .int .i64 b] :=
    ⟨rfl, .inr ⟨w.heap.size, 2, #[.int .i64 a, .int .i64 b], rfl, Nat.zero_le _, hb, Nat.le_refl _, by unfold maxLen; omega, rfl, rfl⟩⟩
  exact (Kd.R_reads' (Kd.R_of_own (enc := Value.int .i64) (h1 := fun _ => rfl) (xs := [a, b]) (ok := fun _ => True) ho (fun _ _ => trivial))).2.2

set_option maxHeartbeats 2000000 in
set_option maxRecDepth 100000 in
theorem netCmp (x y : Pl) (w : World) : Calls Try.prog 48 #[plV x, plV y] w fun e w' => e = .returned (.int .i64 (pcmp x y)) ∧ GD w w' := by
  unfold plV
  have hu82 := Try.underlying82
  go_enter Try.func48, Try.ntmps48
  go_wp2_with fail
  have BK1 := Aside0.mk (blk_drew (blk_alloc (blk_new w (.cells #[.int .i64 x.d, .string x.c] 82 (0, 0))) (.cells #[.int .i64 y.d, .string y.c] 82 (0, 0))))
  have BK2 := Aside0.mk (blk_drew (blk_new (w.alloc (.cells #[.int .i64 x.d, .string x.c] 82 (0, 0))) (.cells #[.int .i64 y.d, .string y.c] 82 (0, 0))))
  have HG := Aside0.mk ((((GD.refl w).alloc (.cells #[.int .i64 x.d, .string x.c] 82 (0, 0))).alloc (.cells #[.int .i64 y.d, .string y.c] 82 (0, 0))).drew)
  rw [show (w.alloc (.cells #[.int .i64 x.d, .string x.c] 82 (0, 0))).heap.size = w.heap.size + 1 by simp] at BK2
  refine start_ (n := 13) (S := fun w' => w'.cell? ⟨w.heap.size, 0, none⟩ = some (.int .i64 x.d) ∧ w'.cell? ⟨w.heap.size, 1, none⟩ = some (.string x.c) ∧ w'.cell? ⟨w.heap.size + 1, 0, none⟩ = some (.int .i64 y.d) ∧ w'.cell? ⟨w.heap.size + 1, 1, none⟩ = some (.string y.c)) (ds := []) #[false, false, false, false, false, false, false, false, false, false, false, false, false] (by kernel_rfl) rfl rfl ⟨(blk_cell BK1.out 0).trans rfl, (blk_cell BK1.out 1).trans rfl, (blk_cell BK2.out 0).trans rfl, (blk_cell BK2.out 1).trans rfl⟩ (fun hHeld => ?_); refine with_tabW flow_Net_2.tab1 flow_Net_2.bits1 (fun HT_ HW_ => ?_)
  generalize ((w.alloc (.cells #[.int .i64 x.d, .string x.c] 82 (0, 0))).alloc (.cells #[.int .i64 y.d, .string y.c] 82 (0, 0))).drew = w8 at BK1 BK2 HG hHeld ⊢
  refine pure_ (i := 0) (N := some 5) (v := ?_) (a' := ?_) #[true, false, false, false, false, false, false, false, false, false, false, false, false] rfl rfl (any_of HT_.out (by kernel_rfl)) (fun _ _ _ h => h) (Or.inl ⟨by rfl, ?_⟩) ?_ ?_
  rotate_left
  · intro w'
    go_simp
    with_reducible rfl
  rotate_left
  · simp only [Act.put, List.setIfInBounds_toArray, List.set_cons_zero, List.set_cons_succ, i64_w, i32_w]
    rfl
  refine pure_ (i := 2) (N := some 7) (v := ?_) (a' := ?_) #[true, false, true, false, false, false, false, false, false, false, false, false, false] rfl rfl (any_of HT_.out (by kernel_rfl)) (fun _ _ _ h => h) (Or.inl ⟨by rfl, ?_⟩) ?_ ?_
  rotate_left
  · intro w'
    go_simp
    with_reducible rfl
  rotate_left
  · simp only [Act.put, List.setIfInBounds_toArray, List.set_cons_zero, List.set_cons_succ, i64_w, i32_w]
    rfl
  refine pure_ (i := 5) (N := some 10) (v := ?_) (a' := ?_) #[true, false, true, false, false, true, false, false, false, false, false, false, false] rfl rfl (any_of HT_.out (by kernel_rfl)) (fun _ _ _ h => h) (Or.inl ⟨by rfl, ?_⟩) ?_ ?_
  rotate_left
  · intro w'
    go_simp
    with_reducible rfl
  rotate_left
  · simp only [Act.put, List.setIfInBounds_toArray, List.set_cons_zero, List.set_cons_succ, i64_w, i32_w]
    rfl
  refine pure_ (i := 7) (N := some 12) (v := ?_) (a' := ?_) #[true, false, true, false, false, true, false, true, false, false, false, false, false] rfl rfl (any_of HT_.out (by kernel_rfl)) (fun _ _ _ h => h) (Or.inl ⟨by rfl, ?_⟩) ?_ ?_
  rotate_left
  · intro w'
    go_simp
    with_reducible rfl
  rotate_left
  · simp only [Act.put, List.setIfInBounds_toArray, List.set_cons_zero, List.set_cons_succ, i64_w, i32_w]
    rfl
  refine take_ (i := 1) (N := some 6) (v := ?_) (a' := ?_) #[true, true, true, false, false, true, false, true, false, false, false, false, false] rfl rfl (take_ofW HT_.out HW_.out (by kernel_rfl)) (fun _ _ _ h => h) (Or.inl ⟨by rfl, ?_⟩) hHeld ?_ ?_
  rotate_left
  · rintro w' ⟨s0, s1, s2, s3⟩
    go_simp
    with_reducible rfl
  rotate_left
  · simp only [Act.put, List.setIfInBounds_toArray, List.set_cons_zero, List.set_cons_succ, i64_w, i32_w]
    rfl
  refine take_ (i := 3) (N := some 8) (v := ?_) (a' := ?_) #[true, true, true, true, false, true, false, true, false, false, false, false, false] rfl rfl (take_ofW HT_.out HW_.out (by kernel_rfl)) (fun _ _ _ h => h) (Or.inl ⟨by rfl, ?_⟩) hHeld ?_ ?_
  rotate_left
  · rintro w' ⟨s0, s1, s2, s3⟩
    go_simp
    with_reducible rfl
  rotate_left
  · simp only [Act.put, List.setIfInBounds_toArray, List.set_cons_zero, List.set_cons_succ, i64_w, i32_w]
    rfl
  refine take_ (i := 6) (N := some 11) (v := ?_) (a' := ?_) #[true, true, true, true, false, true, true, true, false, false, false, false, false] rfl rfl (take_ofW HT_.out HW_.out (by kernel_rfl)) (fun _ _ _ h => h) (Or.inl ⟨by rfl, ?_⟩) hHeld ?_ ?_
  rotate_left
  · rintro w' ⟨s0, s1, s2, s3⟩
    go_simp
    with_reducible rfl
  rotate_left
  · simp only [Act.put, List.setIfInBounds_toArray, List.set_cons_zero, List.set_cons_succ, i64_w, i32_w]
    rfl
  refine take_ (i := 8) (N := some 13) (v := ?_) (a' := ?_) #[true, true, true, true, false, true, true, true, true, false, false, false, false] rfl rfl (take_ofW HT_.out HW_.out (by kernel_rfl)) (fun _ _ _ h => h) (Or.inl ⟨by rfl, ?_⟩) hHeld ?_ ?_
  rotate_left
  · rintro w' ⟨s0, s1, s2, s3⟩
    go_simp
    with_reducible rfl
  rotate_left
  · simp only [Act.put, List.setIfInBounds_toArray, List.set_cons_zero, List.set_cons_succ, i64_w, i32_w]
    rfl
  refine one_ (i := 4) (N := some 9) #[true, true, true, true, true, true, true, true, true, false, false, false, false] rfl rfl (one_of HT_.out (by kernel_rfl)) (by decide) (fun K hK => ?_)
  refine goes_ Try.func36 (by kernel_rfl) rfl #[.int .i64 x.d, .int .i64 y.d] (by rfl) rfl rfl (by (try simp only [List.map_toArray, List.map_cons, List.map_nil]); first | done | rfl | (simp only [List.length_drop, List.length_take]; rfl)) ?_
  with_reducible refine (cmp_Compare_int.calls x.d y.d (c3 x.d y.d) _ (cmpC_f _ _)).mono ?_
  rintro e w' ⟨rfl, ⟨nd, rfl⟩⟩
  have n1_ := Aside0.mk (blk_drewN BK1.out nd); have n2_ := Aside0.mk (blk_drewN BK2.out nd); have n3_ := Aside0.mk (HG.out.drewN nd)
  clear BK1 BK2 HG
  have BK1 := n1_; have BK2 := n2_; have HG := n3_
  clear n1_ n2_ n3_
  refine ⟨_, rfl, ?_⟩
  refine hK.out _ _ ⟨(blk_cell BK1.out 0).trans rfl, (blk_cell BK1.out 1).trans rfl, (blk_cell BK2.out 0).trans rfl, (blk_cell BK2.out 1).trans rfl⟩ (fun hHeld => ?_)
  clear hK K
  refine norm_ (a' := ?_) ?_ ?_
  rotate_left
  · show Act.put _ (some 9) _ = _
    simp only [Act.put, List.setIfInBounds_toArray, List.set_cons_zero, List.set_cons_succ, i64_w, i32_w]
    rfl
  generalize w8.drewN nd = w9 at BK1 BK2 HG hHeld ⊢
  refine one_ (i := 9) (N := some 14) #[true, true, true, true, true, true, true, true, true, true, false, false, false] rfl rfl (one_of HT_.out (by kernel_rfl)) (by decide) (fun K hK => ?_)
  refine goes_ Try.func37 (by kernel_rfl) rfl #[.string x.c, .string y.c] (by rfl) rfl rfl (by (try simp only [List.map_toArray, List.map_cons, List.map_nil]); first | done | rfl | (simp only [List.length_drop, List.length_take]; rfl)) ?_
  with_reducible refine (strings_Compare.calls x.c y.c (scmp x.c y.c) _ rfl).mono ?_
  rintro e w' ⟨rfl, ⟨nd, rfl⟩⟩
  have n1_ := Aside0.mk (blk_drewN BK1.out nd); have n2_ := Aside0.mk (blk_drewN BK2.out nd); have n3_ := Aside0.mk (HG.out.drewN nd)
  clear BK1 BK2 HG
  have BK1 := n1_; have BK2 := n2_; have HG := n3_
  clear n1_ n2_ n3_
  refine ⟨_, rfl, ?_⟩
  refine hK.out _ _ ⟨(blk_cell BK1.out 0).trans rfl, (blk_cell BK1.out 1).trans rfl, (blk_cell BK2.out 0).trans rfl, (blk_cell BK2.out 1).trans rfl⟩ (fun hHeld => ?_)
  clear hK K
  refine norm_ (a' := ?_) ?_ ?_
  rotate_left
  · show Act.put _ (some 14) _ = _
    simp only [Act.put, List.setIfInBounds_toArray, List.set_cons_zero, List.set_cons_succ, i64_w, i32_w]
    rfl
  generalize w9.drewN nd = w10 at BK1 BK2 HG hHeld ⊢
  refine one_ (i := 10) (N := some 15) #[true, true, true, true, true, true, true, true, true, true, true, false, false] rfl rfl (one_of HT_.out (by kernel_rfl)) (by decide) (fun K hK => ?_)
  refine value_ (w1 := ?_) (v := ?_) (by rfl) rfl ?_ ?_
  rotate_left 2
  · go_simp
    constructor
    · rfl
    · rfl
  have n1_ := Aside0.mk (blk_alloc BK1.out (.cells #[.int .i64 (c3 x.d y.d), .int .i64 (scmp x.c y.c)] 3 (0, 0))); have n2_ := Aside0.mk (blk_alloc BK2.out (.cells #[.int .i64 (c3 x.d y.d), .int .i64 (scmp x.c y.c)] 3 (0, 0))); have n3_ := Aside0.mk (HG.out.alloc (.cells #[.int .i64 (c3 x.d y.d), .int .i64 (scmp x.c y.c)] 3 (0, 0)))
  have HC := Aside0.mk (two_C w10 (c3 x.d y.d) (scmp x.c y.c))
  clear BK1 BK2 HG
  have BK1 := n1_; have BK2 := n2_; have HG := n3_
  clear n1_ n2_ n3_
  refine hK.out _ _ ⟨(blk_cell BK1.out 0).trans rfl, (blk_cell BK1.out 1).trans rfl, (blk_cell BK2.out 0).trans rfl, (blk_cell BK2.out 1).trans rfl⟩ (fun hHeld => ?_)
  clear hK K
  refine norm_ (a' := ?_) ?_ ?_
  rotate_left
  · show Act.put _ (some 15) _ = _
    simp only [Act.put, List.setIfInBounds_toArray, List.set_cons_zero, List.set_cons_succ, i64_w, i32_w]
    rfl
  have hor := Aside0.mk (show Calls Try.prog 35 #[.slice (some ⟨w10.heap.size, 0, none⟩) 2 2] (w10.alloc (.cells #[.int .i64 (c3 x.d y.d), .int .i64 (scmp x.c y.c)] 3 (0, 0))) (fun e w' => e = .returned (.int .i64 (pcmp x y)) ∧ Drawn0 (w10.alloc (.cells #[.int .i64 (c3 x.d y.d), .int .i64 (scmp x.c y.c)] 3 (0, 0))) w') from (cmp_Or_int.calls 5 _ 2 [c3 x.d y.d, scmp x.c y.c] (pcmp x y) _ HC.out (Nat.le_refl _) (or2 _ _)))
  refine one_ (i := 11) (N := some 16) #[true, true, true, true, true, true, true, true, true, true, true, true, false] rfl rfl (one_of HT_.out (by kernel_rfl)) (by decide) (fun K hK => ?_)
  refine goes_ Try.func35 (by kernel_rfl) rfl #[.slice (some ⟨w10.heap.size, 0, none⟩) 2 2] (by rfl) rfl rfl (by (try simp only [List.map_toArray, List.map_cons, List.map_nil]); first | done | rfl | (simp only [List.length_drop, List.length_take]; rfl)) ?_
  with_reducible refine (hor.out).mono ?_
  rintro e w' ⟨rfl, ⟨nd, rfl⟩⟩
  have n3_ := Aside0.mk (HG.out.drewN nd)
  have n1_ := Aside0.mk (blk_drewN BK1.out nd); have n2_ := Aside0.mk (blk_drewN BK2.out nd)
  clear BK1 BK2 HG
  have BK1 := n1_; have BK2 := n2_; have HG := n3_
  refine ⟨_, rfl, ?_⟩
  refine hK.out _ _ ⟨(blk_cell BK1.out 0).trans rfl, (blk_cell BK1.out 1).trans rfl, (blk_cell BK2.out 0).trans rfl, (blk_cell BK2.out 1).trans rfl⟩ (fun hHeld => ?_)
  clear hK K
  refine norm_ (a' := ?_) ?_ ?_
  rotate_left
  · show Act.put _ (some 16) _ = _
    simp only [Act.put, List.setIfInBounds_toArray, List.set_cons_zero, List.set_cons_succ, i64_w, i32_w]
    rfl
  refine pure_ (i := 12) (N := some 4) (v := ?_) (a' := ?_) #[true, true, true, true, true, true, true, true, true, true, true, true, true] rfl rfl (any_of HT_.out (by kernel_rfl)) (fun _ _ _ h => h) (Or.inl ⟨by rfl, ?_⟩) ?_ ?_
  rotate_left
  · intro w'
    go_simp
    with_reducible rfl
  rotate_left
  · simp only [Act.put, List.setIfInBounds_toArray, List.set_cons_zero, List.set_cons_succ, i64_w, i32_w]
    rfl
  refine done_ (done_of HT_.out (by kernel_rfl)) ?_
  go_wp2
  go_ret
  exact ⟨rfl, HG.out⟩
end Go.Proofs.Ytdfndbegifdejaa.GNetC
