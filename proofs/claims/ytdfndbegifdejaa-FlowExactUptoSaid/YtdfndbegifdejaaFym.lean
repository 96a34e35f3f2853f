import Derived.Test.YtdfndbegifdejaaFyl
import Derived.DeepKeys4
import Derived.ChangeKeys
section
namespace Go.Proofs.Ytdfndbegifdejaa.PFlowExact
set_option linter.unusedVariables false
set_option linter.unusedSimpArgs false
open Go.RowKit Go.ChangeShapes
structure Pl where
  d : Int
  c : ByteArray
def plV (k : Pl) : Value := .agg #[.int .i64 k.d, .string k.c]
def plit (k : Pl) : Lit := .string (keyBytes [.int .i64 k.d, .string k.c.data.toList])
def PlOk (k : Pl) : Prop := k.c.size ≤ maxLen ∧ (Lit.int .i64 k.d).wf = true
def placeL (x : S32) : Lit := plit ⟨x.f0, x.f1⟩
theorem plit_key (k : Pl) : WideAt.IsKeyLit (plit k) := trivial
theorem law82 : Maps.Keyed Try.prog 82 := Maps.Keyed.of_law (deep_law_laid (P := Try.prog) (by kernel_rfl) (m := 2) (by omega) (of_decide_eq_true (by kernel_rfl)) (by kernel_rfl) (by rw [Try.underlying82]))
theorem ck82 : Try.prog.cellsOf 82 = 2 := by kernel_rfl
theorem ck3 : Try.prog.cellsOf 3 = 1 := by kernel_rfl
theorem ck9 : Try.prog.cellsOf 9 = 1 := by kernel_rfl
theorem kt82 : Try.prog.keyType 82 = true := by kernel_rfl
theorem lits82 (n : Nat) (k : Pl) (h : PlOk k) : Try.prog.keyLits (n + 2) 82 [.int .i64 k.d, .string k.c] = some [.int .i64 k.d, .string k.c.data.toList] := by
  simp [Program.keyLits, Try.underlying82, Try.underlying3, Try.underlying9, ck82, ck3, ck9, h.1, h.2]
theorem keyOf82 (k : Pl) (h : PlOk k) : keyOf Try.prog 82 (plV k) = some (plit k) := by
  have hts : Try.prog.types.size + 1 = (Try.prog.types.size - 1) + 2 := by
    have : 0 < Try.prog.types.size := of_decide_eq_true (by kernel_rfl)
    omega
  unfold keyOf plV
  rw [Try.underlying82, hts]
  simp only [kt82, Value.cells]
  rw [lits82 _ k h]
  simp [Value.formed, Try.underlying82, ck82, plit]
theorem size_two : ∃ n, Try.prog.types.size + 1 = n + 2 := by
  have h : 0 < Try.prog.types.size := of_decide_eq_true (by kernel_rfl)
  generalize Try.prog.types.size = m at h
  exact ⟨m - 1, by omega⟩
theorem keyOf82_inv {key : Value} {kl : Lit} (h : keyOf Try.prog 82 key = some kl) : ∃ k, key = plV k ∧ PlOk k ∧ kl = plit k := by
  obtain ⟨n, hts⟩ := size_two
  revert h
  unfold keyOf
  rw [Try.underlying82, hts]
  clear hts
  simp only [kt82, Bool.true_and]
  intro h
  cases key with
  | agg cs =>
    obtain ⟨l⟩ := cs
    rcases l with _ | ⟨a, _ | ⟨b, _ | ⟨c, r⟩⟩⟩
    · simp [Program.keyLits, Try.underlying82, ck82, Value.cells] at h
    · simp [Program.keyLits, Try.underlying82, ck82, Value.cells] at h
    · cases a with
      | int q d =>
        cases b with
        | string c =>
          simp [Program.keyLits, Try.underlying82, Try.underlying3, Try.underlying9, ck82, ck3, ck9, Value.cells] at h
          obtain ⟨_, h⟩ := h
          by_cases h1 : q = IntKind.i64 ∧ (Lit.int IntKind.i64 d).wf = true
          · rw [if_pos h1] at h
            by_cases h2 : c.size ≤ maxLen
            · rw [if_pos h2] at h
              simp at h
              obtain ⟨rfl, h1'⟩ := h1
              exact ⟨⟨d, c⟩, rfl, ⟨h2, h1'⟩, h.symm⟩
            · rw [if_neg h2] at h
              simp at h
          · rw [if_neg h1] at h
            simp at h
        | _ => simp [Program.keyLits, Try.underlying82, Try.underlying3, Try.underlying9, ck82, ck3, ck9, Value.cells] at h
      | _ => simp [Program.keyLits, Try.underlying82, Try.underlying3, Try.underlying9, ck82, ck3, ck9, Value.cells] at h
    · simp [Program.keyLits, Try.underlying82, ck82, Value.cells] at h
  | _ => simp [Value.formed, Try.underlying82] at h
theorem plit_inj {a b : Pl} (ha : PlOk a) (hb : PlOk b) (h : plit a = plit b) : a = b := by
  have := law82.inj (keyOf82 a ha) (h ▸ keyOf82 b hb)
  unfold plV at this
  cases a; cases b
  simp at this
  obtain ⟨rfl, rfl⟩ := this
  rfl
end Go.Proofs.Ytdfndbegifdejaa.PFlowExact
end
section
namespace Go.Proofs.Ytdfndbegifdejaa.GNetC
set_option linter.unusedVariables false
set_option linter.unusedSimpArgs false
open Go.RowKit Go.Proofs.YtdfndbegifdejaaW.PrintWords Go.Proofs.YtdfndbegifdejaaW.PrintLast Go.Proofs.YtdfndbegifdejaaW.PrintMore Go.Proofs.YtdfndbegifdejaaMine Go.Sort Go.Shelf
open Go.Proofs.Ytdfndbegifdejaa.PFlowExact (scmp Pl plV)
def c3 (a b : Int) : Int := if a < b then -1 else if b < a then 1 else 0
def GD (w w' : World) : Prop := ∃ q os, w' = grow (w.drewN q) os
theorem GD.refl (w : World) : GD w w := ⟨0, #[], by rw [grow_empty]; rfl⟩
theorem GD.alloc {w w' : World} (h : GD w w') (o : Obj) : GD w (w'.alloc o) := by
 obtain ⟨q, os, rfl⟩ := h
 exact ⟨q, os ++ #[o], by rw [alloc_eq_grow, grow_grow]⟩
theorem GD.drewN {w w' : World} (h : GD w w') (n : Nat) : GD w (w'.drewN n) := by
 obtain ⟨q, os, rfl⟩ := h
 refine ⟨q + n, os, ?_⟩
 rw [← World.drewN_drewN]
 rfl
theorem GD.drew {w w' : World} (h : GD w w') : GD w w'.drew := h.drewN 1
def pcmp (x y : Pl) : Int := if c3 x.d y.d = 0 then scmp x.c y.c else c3 x.d y.d
theorem cmpC_f (a b : Int) : cmp_Compare_int.f a b = some (c3 a b) := by
 unfold cmp_Compare_int.f cmp_isNaN_int.f c3
 simp
 split
 ·rfl
 ·split <;> rfl
theorem or2 (a b : Int) : cmp_Or_int.f 5 [a, b] = some (if a = 0 then b else a) := by
 unfold cmp_Or_int.f
 by_cases h : a = 0
 ·subst h
  by_cases h2 : b = 0
  ·subst h2; simp [cmp_Or_int.l0, Go.Proofs.YtdfndbegifdejaaW.PrintWords.rd, wrap64]
  ·simp [cmp_Or_int.l0, Go.Proofs.YtdfndbegifdejaaW.PrintWords.rd, wrap64, h2]
 ·simp [cmp_Or_int.l0, Go.Proofs.YtdfndbegifdejaaW.PrintWords.rd, h]
theorem two_C (w : World) (a b : Int) : Kd.C (Kd.int .i64) (w.alloc (.cells #[.int .i64 a, .int .i64 b] 3 (0, 0))) (some ⟨w.heap.size, 0, none⟩) 2 [a, b] := by
 have hb := blk_new w (.cells #[.int .i64 a, .int .i64 b] 3 (0, 0))
 have ho : (w.alloc (.cells #[.int .i64 a, .int .i64 b] 3 (0, 0))).ownsRow 0 3 1 (.slice (some ⟨w.heap.size, 0, none⟩) 2 2) 2 [.int .i64 a, .int .i64 b] :=
  ⟨rfl, .inr ⟨w.heap.size, 2, #[.int .i64 a, .int .i64 b], rfl, Nat.zero_le _, hb, Nat.le_refl _, by unfold maxLen; omega, rfl, rfl⟩⟩
 exact (Kd.R_reads' (Kd.R_of_own (enc := Value.int .i64) (h1 := fun _ => rfl) (xs := [a, b]) (ok := fun _ => True) ho (fun _ _ => trivial))).2.2
set_option maxHeartbeats 2000000 in
set_option maxRecDepth 100000 in
theorem netCmp (x y : Pl) (w : World) : Calls Try.prog 48 #[plV x, plV y] w fun e w' => e = .returned (.int .i64 (pcmp x y)) ∧ GD w w' := by
 unfold plV
 have hu82 := Try.underlying82
 go_enter Try.func48, Try.ntmps48
 go_wp2_with fail
 have BK1 := ak (blk_drew (blk_alloc (blk_new w (.cells #[.int .i64 x.d, .string x.c] 82 (0, 0))) (.cells #[.int .i64 y.d, .string y.c] 82 (0, 0))))
 have BK2 := ak (blk_drew (blk_new (w.alloc (.cells #[.int .i64 x.d, .string x.c] 82 (0, 0))) (.cells #[.int .i64 y.d, .string y.c] 82 (0, 0))))
 have HG := ak ((((GD.refl w).alloc (.cells #[.int .i64 x.d, .string x.c] 82 (0, 0))).alloc (.cells #[.int .i64 y.d, .string y.c] 82 (0, 0))).drew)
 rw [show (w.alloc (.cells #[.int .i64 x.d, .string x.c] 82 (0, 0))).heap.size = w.heap.size + 1 by simp] at BK2
 refine start_ (n := 13) (S := fun w' => w'.cell? ⟨w.heap.size, 0, none⟩ = some (.int .i64 x.d) ∧ w'.cell? ⟨w.heap.size, 1, none⟩ = some (.string x.c) ∧ w'.cell? ⟨w.heap.size + 1, 0, none⟩ = some (.int .i64 y.d) ∧ w'.cell? ⟨w.heap.size + 1, 1, none⟩ = some (.string y.c)) (ds := []) (Go.ba 13 0) (by kernel_rfl) rfl rfl ⟨(blk_cell BK1.out 0).trans rfl, (blk_cell BK1.out 1).trans rfl, (blk_cell BK2.out 0).trans rfl, (blk_cell BK2.out 1).trans rfl⟩ (fun hHeld => ?_); refine with_tabW flow_Net_2.tab1 flow_Net_2.bits1 (fun HT_ HW_ => ?_)
 generalize ((w.alloc (.cells #[.int .i64 x.d, .string x.c] 82 (0, 0))).alloc (.cells #[.int .i64 y.d, .string y.c] 82 (0, 0))).drew = w8 at BK1 BK2 HG hHeld ⊢
 refine pu 0 5 (Go.ba 13 1) (any_of HT_.out (by kernel_rfl)) ?_
 refine pu 2 7 (Go.ba 13 5) (any_of HT_.out (by kernel_rfl)) ?_
 refine pu 5 10 (Go.ba 13 37) (any_of HT_.out (by kernel_rfl)) ?_
 refine pu 7 12 (Go.ba 13 165) (any_of HT_.out (by kernel_rfl)) ?_
 refine tk 1 6 (Go.ba 13 167) (take_ofW HT_.out HW_.out (by kernel_rfl)) hHeld ?_ (hy := by rintro w' ⟨s0, s1, s2, s3⟩; go_simp; with_reducible rfl)
 refine tk 3 8 (Go.ba 13 175) (take_ofW HT_.out HW_.out (by kernel_rfl)) hHeld ?_ (hy := by rintro w' ⟨s0, s1, s2, s3⟩; go_simp; with_reducible rfl)
 refine tk 6 11 (Go.ba 13 239) (take_ofW HT_.out HW_.out (by kernel_rfl)) hHeld ?_ (hy := by rintro w' ⟨s0, s1, s2, s3⟩; go_simp; with_reducible rfl)
 refine tk 8 13 (Go.ba 13 495) (take_ofW HT_.out HW_.out (by kernel_rfl)) hHeld ?_ (hy := by rintro w' ⟨s0, s1, s2, s3⟩; go_simp; with_reducible rfl)
 refine one_ (i := 4) (N := some 9) (Go.ba 13 511) rfl rfl (one_of HT_.out (by kernel_rfl)) (by decide) (fun K hK => ?_)
 refine goes_ Try.func36 (by kernel_rfl) rfl #[.int .i64 x.d, .int .i64 y.d] (by rfl) rfl rfl (by (try simp only [List.map_toArray, List.map_cons, List.map_nil]); first | done | rfl | (simp only [List.length_drop, List.length_take]; rfl)) ?_
 with_reducible refine (cmp_Compare_int.calls x.d y.d (c3 x.d y.d) _ (cmpC_f _ _)).mono ?_
 rintro e w' ⟨rfl, ⟨nd, rfl⟩⟩
 have n1_ := ak (blk_drewN BK1.out nd); have n2_ := ak (blk_drewN BK2.out nd); have n3_ := ak (HG.out.drewN nd)
 clear BK1 BK2 HG
 have BK1 := n1_; have BK2 := n2_; have HG := n3_
 clear n1_ n2_ n3_
 refine ⟨_, rfl, ?_⟩
 refine hK.out _ _ ⟨(blk_cell BK1.out 0).trans rfl, (blk_cell BK1.out 1).trans rfl, (blk_cell BK2.out 0).trans rfl, (blk_cell BK2.out 1).trans rfl⟩ (fun hHeld => ?_)
 clear hK K
 refine norm_ (a' := ?_) ?_ ?_
 rotate_left
 ·show Act.put _ (some 9) _ = _
  simp only [pz]
  rfl
 generalize w8.drewN nd = w9 at BK1 BK2 HG hHeld ⊢
 refine one_ (i := 9) (N := some 14) (Go.ba 13 1023) rfl rfl (one_of HT_.out (by kernel_rfl)) (by decide) (fun K hK => ?_)
 refine goes_ Try.func37 (by kernel_rfl) rfl #[.string x.c, .string y.c] (by rfl) rfl rfl (by (try simp only [List.map_toArray, List.map_cons, List.map_nil]); first | done | rfl | (simp only [List.length_drop, List.length_take]; rfl)) ?_
 with_reducible refine (strings_Compare.calls x.c y.c (scmp x.c y.c) _ rfl).mono ?_
 rintro e w' ⟨rfl, ⟨nd, rfl⟩⟩
 have n1_ := ak (blk_drewN BK1.out nd); have n2_ := ak (blk_drewN BK2.out nd); have n3_ := ak (HG.out.drewN nd)
 clear BK1 BK2 HG
 have BK1 := n1_; have BK2 := n2_; have HG := n3_
 clear n1_ n2_ n3_
 refine ⟨_, rfl, ?_⟩
 refine hK.out _ _ ⟨(blk_cell BK1.out 0).trans rfl, (blk_cell BK1.out 1).trans rfl, (blk_cell BK2.out 0).trans rfl, (blk_cell BK2.out 1).trans rfl⟩ (fun hHeld => ?_)
 clear hK K
 refine norm_ (a' := ?_) ?_ ?_
 rotate_left
 ·show Act.put _ (some 14) _ = _
  simp only [pz]
  rfl
 generalize w9.drewN nd = w10 at BK1 BK2 HG hHeld ⊢
 refine one_ (i := 10) (N := some 15) (Go.ba 13 2047) rfl rfl (one_of HT_.out (by kernel_rfl)) (by decide) (fun K hK => ?_)
 refine value_ (w1 := ?_) (v := ?_) (by rfl) rfl ?_ ?_
 rotate_left 2
 ·go_simp
  constructor
  ·rfl
  ·rfl
 have n1_ := ak (blk_alloc BK1.out (.cells #[.int .i64 (c3 x.d y.d), .int .i64 (scmp x.c y.c)] 3 (0, 0))); have n2_ := ak (blk_alloc BK2.out (.cells #[.int .i64 (c3 x.d y.d), .int .i64 (scmp x.c y.c)] 3 (0, 0))); have n3_ := ak (HG.out.alloc (.cells #[.int .i64 (c3 x.d y.d), .int .i64 (scmp x.c y.c)] 3 (0, 0)))
 have HC := ak (two_C w10 (c3 x.d y.d) (scmp x.c y.c))
 clear BK1 BK2 HG
 have BK1 := n1_; have BK2 := n2_; have HG := n3_
 clear n1_ n2_ n3_
 refine hK.out _ _ ⟨(blk_cell BK1.out 0).trans rfl, (blk_cell BK1.out 1).trans rfl, (blk_cell BK2.out 0).trans rfl, (blk_cell BK2.out 1).trans rfl⟩ (fun hHeld => ?_)
 clear hK K
 refine norm_ (a' := ?_) ?_ ?_
 rotate_left
 ·show Act.put _ (some 15) _ = _
  simp only [pz]
  rfl
 have hor := ak (show Calls Try.prog 35 #[.slice (some ⟨w10.heap.size, 0, none⟩) 2 2] (w10.alloc (.cells #[.int .i64 (c3 x.d y.d), .int .i64 (scmp x.c y.c)] 3 (0, 0))) (fun e w' => e = .returned (.int .i64 (pcmp x y)) ∧ Drawn0 (w10.alloc (.cells #[.int .i64 (c3 x.d y.d), .int .i64 (scmp x.c y.c)] 3 (0, 0))) w') from (cmp_Or_int.calls 5 _ 2 [c3 x.d y.d, scmp x.c y.c] (pcmp x y) _ HC.out (Nat.le_refl _) (or2 _ _)))
 refine one_ (i := 11) (N := some 16) (Go.ba 13 4095) rfl rfl (one_of HT_.out (by kernel_rfl)) (by decide) (fun K hK => ?_)
 refine goes_ Try.func35 (by kernel_rfl) rfl #[.slice (some ⟨w10.heap.size, 0, none⟩) 2 2] (by rfl) rfl rfl (by (try simp only [List.map_toArray, List.map_cons, List.map_nil]); first | done | rfl | (simp only [List.length_drop, List.length_take]; rfl)) ?_
 with_reducible refine (hor.out).mono ?_
 rintro e w' ⟨rfl, ⟨nd, rfl⟩⟩
 have n3_ := ak (HG.out.drewN nd)
 have n1_ := ak (blk_drewN BK1.out nd); have n2_ := ak (blk_drewN BK2.out nd)
 clear BK1 BK2 HG
 have BK1 := n1_; have BK2 := n2_; have HG := n3_
 refine ⟨_, rfl, ?_⟩
 refine hK.out _ _ ⟨(blk_cell BK1.out 0).trans rfl, (blk_cell BK1.out 1).trans rfl, (blk_cell BK2.out 0).trans rfl, (blk_cell BK2.out 1).trans rfl⟩ (fun hHeld => ?_)
 clear hK K
 refine norm_ (a' := ?_) ?_ ?_
 rotate_left
 ·show Act.put _ (some 16) _ = _
  simp only [pz]
  rfl
 refine pu 12 4 (Go.ba 13 8191) (any_of HT_.out (by kernel_rfl)) ?_
 refine done_ (done_of HT_.out (by kernel_rfl)) ?_
 go_wp2
 go_ret
 exact ⟨rfl, HG.out⟩
end Go.Proofs.Ytdfndbegifdejaa.GNetC
end
