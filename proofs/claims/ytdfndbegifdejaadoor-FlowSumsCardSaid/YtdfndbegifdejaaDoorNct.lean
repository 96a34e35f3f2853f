/- Merged: Grp, GrpP, NetCmp, SrtP, GatS, GatP, NetF. -/
import Derived.Test.YtdfndbegifdejaaDoorGDx0
import Derived.Maps.OwnRows
import Derived.Maps.Views
import Derived.Maps.RangeWalk
import Derived.Maps.GroupsBeside
import Derived.DeepKeys4
import Derived.ChangeKeys
import Derived.Test.YtdfndbegifdejaaDoorGDx4
import Derived.Test.YtdfndbegifdejaaDoorSrt
import Derived.Shelf.SlSortCmp.WholeK
import Derived.Deep.LoopGhost
import Derived.Maps.AppendAt
import Derived.WalkKit
/-! ### Grp -/
/- Grouping by a key in a map of lists of numbers: what the map says, list by list (no program in sight). -/
namespace Go.Proofs.YtdfndbegifdejaaDoor.GD
set_option linter.unusedVariables false
set_option linter.unusedSimpArgs false
open Go.RowKit Go.ChangeShapes

open Classical
variable (kl : S32 → Lit)
noncomputable def grp (c : Lit) (l : List S32) : List Int := (l.filter (fun x => decide (kl x = c))).map (·.f2)
def gd (zs : List Int) : DataW Unit := if zs = [] then .nil else .slice (lits .i64 zs) []
structure Says (D : DataW Unit) (l : List S32) : Prop where
  map : Maps.IsMap D
  at_ : ∀ c, WideAt.IsKeyLit c → D.atKey c .nil = gd (grp kl c l)
  has : ∀ c, WideAt.IsKeyLit c → (Maps.has D c = true ↔ ∃ x ∈ l, kl x = c)

theorem grp_snoc (c : Lit) (l : List S32) (x : S32) : grp kl c (l ++ [x]) = if kl x = c then grp kl c l ++ [x.f2] else grp kl c l := by
  unfold grp
  by_cases h : kl x = c <;> simp [h]
theorem says_nil : Says kl (.map []) [] := ⟨Maps.isMap_empty, fun c hc => by simp [DataW.atKey, gd, grp], fun c hc => by simp [Maps.has]⟩
variable {kl}
theorem says_step {D : DataW Unit} {l : List S32} (h : Says kl D l) (hk : ∀ x, WideAt.IsKeyLit (kl x)) (x : S32) (d : DataW Unit) (hd : d = gd (grp kl (kl x) l ++ [x.f2])) : Says kl (D.put (kl x) d) (l ++ [x]) := by
  refine ⟨h.map.put _ _, fun c hc => ?_, fun c hc => ?_⟩
  · rw [grp_snoc]
    by_cases e : kl x = c
    · subst e
      rw [if_pos rfl, Maps.atKey_put_same h.map hc, hd]
    · rw [if_neg e, Maps.atKey_put_other (fun e2 => e e2.symm), h.at_ c hc]
  · by_cases e : kl x = c
    · subst e
      rw [Maps.has_put_same h.map hc]
      simp
    · rw [Maps.has_put_other (fun e2 => e e2.symm), h.has c hc]
      constructor
      · rintro ⟨y, hy, hyc⟩; exact ⟨y, by simp [hy], hyc⟩
      · rintro ⟨y, hy, hyc⟩
        rcases List.mem_append.1 hy with hy | hy
        · exact ⟨y, hy, hyc⟩
        · rw [List.mem_singleton.1 hy] at hyc; exact absurd hyc e
theorem lits_inj {a b : List Int} (h : (lits .i64 a : List (DataW Unit)) = lits .i64 b) : a = b := by
  unfold lits at h
  refine List.map_inj_right (f := fun x : Int => (DataW.lit (.int .i64 x) : DataW Unit)) (fun x y e => ?_) |>.1 h
  injection e with e; injection e
theorem says_at {D : DataW Unit} {l : List S32} (h : Says kl D l) {c : Lit} (hc : WideAt.IsKeyLit c) {v : Value} {zs : List Int} {w : World} {base : Nat} {e : TypeId}
    (hat : D.atKey c .nil = rowDatum .i64 v zs) (ho : w.ownsInts base e .i64 v zs) : zs = grp kl c l := by
  rw [h.at_ c hc] at hat
  rcases ho.datum (H := Unit) with ⟨h1, h2⟩ | h1
  · rw [h1] at hat
    unfold gd at hat
    split at hat
    · rename_i hg; rw [hg, h2]
    · cases hat
  · rw [h1] at hat
    unfold gd at hat
    split at hat
    · cases hat
    · injection hat with hat; exact (lits_inj hat).symm
theorem gd_pos {zs : List Int} (h : zs ≠ []) : gd zs = .slice (lits .i64 zs) [] := by unfold gd; rw [if_neg h]
end Go.Proofs.YtdfndbegifdejaaDoor.GD

/-! ### GrpP -/
/- Places (a day and a currency) as the keys of a map. -/
namespace Go.Proofs.YtdfndbegifdejaaDoor.GD
set_option linter.unusedVariables false
set_option linter.unusedSimpArgs false
open Go.RowKit Go.ChangeShapes

structure Pl where
  d : Int
  c : ByteArray
def plV (k : Pl) : Value := .agg #[.int .i64 k.d, .string k.c]
def plit (k : Pl) : Lit := .string (keyBytes [.int .i64 k.d, .string k.c.data.toList])
def PlOk (k : Pl) : Prop := k.c.size ≤ maxLen ∧ (Lit.int .i64 k.d).wf = true
def placeL (x : S32) : Lit := plit ⟨x.f0, x.f1⟩
theorem plit_key (k : Pl) : WideAt.IsKeyLit (plit k) := trivial
theorem law82 : Maps.Keyed Tryd.prog 70 := Maps.Keyed.of_law (deep_law_laid (P := Tryd.prog) (by kernel_rfl) (m := 2) (by omega) (of_decide_eq_true (by kernel_rfl)) (by kernel_rfl) (by rw [Tryd.underlying70]))
theorem ck82 : Tryd.prog.cellsOf 70 = 2 := by kernel_rfl
theorem ck3 : Tryd.prog.cellsOf 3 = 1 := by kernel_rfl
theorem ck9 : Tryd.prog.cellsOf 9 = 1 := by kernel_rfl
theorem kt82 : Tryd.prog.keyType 70 = true := by kernel_rfl
theorem lits82 (n : Nat) (k : Pl) (h : PlOk k) : Tryd.prog.keyLits (n + 2) 70 [.int .i64 k.d, .string k.c] = some [.int .i64 k.d, .string k.c.data.toList] := by
  simp [Program.keyLits, Tryd.underlying70, Tryd.underlying3, Tryd.underlying9, ck82, ck3, ck9, h.1, h.2]
theorem keyOf82 (k : Pl) (h : PlOk k) : keyOf Tryd.prog 70 (plV k) = some (plit k) := by
  have hts : Tryd.prog.types.size + 1 = (Tryd.prog.types.size - 1) + 2 := by
    have : 0 < Tryd.prog.types.size := of_decide_eq_true (by kernel_rfl)
    omega
  unfold keyOf plV
  rw [Tryd.underlying70, hts]
  simp only [kt82, Value.cells]
  rw [lits82 _ k h]
  simp [Value.formed, Tryd.underlying70, ck82, plit]
theorem size_two : ∃ n, Tryd.prog.types.size + 1 = n + 2 := by
  have h : 0 < Tryd.prog.types.size := of_decide_eq_true (by kernel_rfl)
  generalize Tryd.prog.types.size = m at h
  exact ⟨m - 1, by omega⟩
theorem keyOf82_inv {key : Value} {kl : Lit} (h : keyOf Tryd.prog 70 key = some kl) : ∃ k, key = plV k ∧ PlOk k ∧ kl = plit k := by
  obtain ⟨n, hts⟩ := size_two
  revert h
  unfold keyOf
  rw [Tryd.underlying70, hts]
  clear hts
  simp only [kt82, Bool.true_and]
  intro h
  cases key with
  | agg cs =>
    obtain ⟨l⟩ := cs
    rcases l with _ | ⟨a, _ | ⟨b, _ | ⟨c, r⟩⟩⟩
    · simp [Program.keyLits, Tryd.underlying70, ck82, Value.cells] at h
    · simp [Program.keyLits, Tryd.underlying70, ck82, Value.cells] at h
    · cases a with
      | int q d =>
        cases b with
        | string c =>
          simp [Program.keyLits, Tryd.underlying70, Tryd.underlying3, Tryd.underlying9, ck82, ck3, ck9, Value.cells] at h
          obtain ⟨_, h⟩ := h
          by_cases h1 : q = IntKind.i64 ∧ (Lit.int IntKind.i64 d).wf = true
          · rw [if_pos h1] at h
            by_cases h2 : c.size ≤ maxLen
            · rw [if_pos h2] at h
              simp at h
              obtain ⟨rfl, h1'⟩ := h1
              exact ⟨⟨d, c⟩, rfl, ⟨h2, h1'⟩, h.symm⟩
            · rw [if_neg h2] at h
              simp at h
          · rw [if_neg h1] at h
            simp at h
        | _ => simp [Program.keyLits, Tryd.underlying70, Tryd.underlying3, Tryd.underlying9, ck82, ck3, ck9, Value.cells] at h
      | _ => simp [Program.keyLits, Tryd.underlying70, Tryd.underlying3, Tryd.underlying9, ck82, ck3, ck9, Value.cells] at h
    · simp [Program.keyLits, Tryd.underlying70, ck82, Value.cells] at h
  | _ => simp [Value.formed, Tryd.underlying70] at h
theorem plit_inj {a b : Pl} (ha : PlOk a) (hb : PlOk b) (h : plit a = plit b) : a = b := by
  have := law82.inj (keyOf82 a ha) (h ▸ keyOf82 b hb)
  unfold plV at this
  cases a; cases b
  simp at this
  obtain ⟨rfl, rfl⟩ := this
  rfl
end Go.Proofs.YtdfndbegifdejaaDoor.GD

/-! ### NetCmp -/
/- The comparing closure of flow.Net: what it answers, and its world told exactly (some orders drawn, some blocks laid). -/
namespace Go.Proofs.YtdfndbegifdejaaDoor.GD
set_option linter.unusedVariables false
set_option linter.unusedSimpArgs false
open Go.RowKit Go.Proofs.YtdfndbegifdejaaDoorW.PrintWords Go.Proofs.YtdfndbegifdejaaDoorW.PrintLast Go.Proofs.YtdfndbegifdejaaDoorW.PrintMore Go.Proofs.YtdfndbegifdejaaDoorMine Go.Sort Go.Shelf
open Go.Proofs.YtdfndbegifdejaaDoor.GD (scmp Pl plV)

def c3 (a b : Int) : Int := if a < b then -1 else if b < a then 1 else 0

/-- Some orders drawn, some blocks laid. -/
def GD (w w' : World) : Prop := ∃ q os, w' = grow (w.drewN q) os
theorem GD.refl (w : World) : GD w w := ⟨0, #[], by rw [grow_empty]; rfl⟩
theorem GD.alloc {w w' : World} (h : GD w w') (o : Obj) : GD w (w'.alloc o) := by
  obtain ⟨q, os, rfl⟩ := h
  exact ⟨q, os ++ #[o], by rw [alloc_eq_grow, grow_grow]⟩
theorem GD.drewN {w w' : World} (h : GD w w') (n : Nat) : GD w (w'.drewN n) := by
  obtain ⟨q, os, rfl⟩ := h
  refine ⟨q + n, os, ?_⟩
  rw [← World.drewN_drewN]
  rfl
theorem GD.drew {w w' : World} (h : GD w w') : GD w w'.drew := h.drewN 1

def pcmp (x y : Pl) : Int := if c3 x.d y.d = 0 then scmp x.c y.c else c3 x.d y.d
theorem cmpC_f (a b : Int) : cmp_Compare_int.f a b = some (c3 a b) := by
  unfold cmp_Compare_int.f cmp_isNaN_int.f c3
  simp
  split
  · rfl
  · split <;> rfl
theorem or2 (a b : Int) : cmp_Or_int.f 5 [a, b] = some (if a = 0 then b else a) := by
  unfold cmp_Or_int.f
  by_cases h : a = 0
  · subst h
    by_cases h2 : b = 0
    · subst h2; simp [cmp_Or_int.l0, Go.Proofs.YtdfndbegifdejaaDoorW.PrintWords.rd, wrap64]
    · simp [cmp_Or_int.l0, Go.Proofs.YtdfndbegifdejaaDoorW.PrintWords.rd, wrap64, h2]
  · simp [cmp_Or_int.l0, Go.Proofs.YtdfndbegifdejaaDoorW.PrintWords.rd, h]
theorem two_C (w : World) (a b : Int) : Kd.C (Kd.int .i64) (w.alloc (.cells #[.int .i64 a, .int .i64 b] 3 (0, 0))) (some ⟨w.heap.size, 0, none⟩) 2 [a, b] := by
  have hb := blk_new w (.cells #[.int .i64 a, .int .i64 b] 3 (0, 0))
  have ho : (w.alloc (.cells #[.int .i64 a, .int .i64 b] 3 (0, 0))).ownsRow 0 3 1 (.slice (some ⟨w.heap.size, 0, none⟩) 2 2) 2 [.int .i64 a, .int .i64 b] :=
    ⟨rfl, .inr ⟨w.heap.size, 2, #[.int .i64 a, .int .i64 b], rfl, Nat.zero_le _, hb, Nat.le_refl _, by unfold maxLen; omega, rfl, rfl⟩⟩
  exact (Kd.R_reads' (Kd.R_of_own (enc := Value.int .i64) (h1 := fun _ => rfl) (xs := [a, b]) (ok := fun _ => True) ho (fun _ _ => trivial))).2.2

set_option maxHeartbeats 2000000 in
set_option maxRecDepth 100000 in
theorem netCmp (x y : Pl) (w : World) : Calls Tryd.prog 35 #[plV x, plV y] w fun e w' => e = .returned (.int .i64 (pcmp x y)) ∧ GD w w' := by
  unfold plV
  have hu70 := Tryd.underlying70
  go_enter Tryd.func35, Tryd.ntmps35
  go_wp2_with fail
  have BK1 := Aside0.mk (blk_drew (blk_alloc (blk_new w (.cells #[.int .i64 x.d, .string x.c] 70 (0, 0))) (.cells #[.int .i64 y.d, .string y.c] 70 (0, 0))))
  have BK2 := Aside0.mk (blk_drew (blk_new (w.alloc (.cells #[.int .i64 x.d, .string x.c] 70 (0, 0))) (.cells #[.int .i64 y.d, .string y.c] 70 (0, 0))))
  have HG := Aside0.mk ((((GD.refl w).alloc (.cells #[.int .i64 x.d, .string x.c] 70 (0, 0))).alloc (.cells #[.int .i64 y.d, .string y.c] 70 (0, 0))).drew)
  rw [show (w.alloc (.cells #[.int .i64 x.d, .string x.c] 70 (0, 0))).heap.size = w.heap.size + 1 by simp] at BK2
  refine start_ (n := 13) (S := fun w' => w'.cell? ⟨w.heap.size, 0, none⟩ = some (.int .i64 x.d) ∧ w'.cell? ⟨w.heap.size, 1, none⟩ = some (.string x.c) ∧ w'.cell? ⟨w.heap.size + 1, 0, none⟩ = some (.int .i64 y.d) ∧ w'.cell? ⟨w.heap.size + 1, 1, none⟩ = some (.string y.c)) (ds := []) #[false, false, false, false, false, false, false, false, false, false, false, false, false] (by kernel_rfl) rfl rfl ⟨(blk_cell BK1.out 0).trans rfl, (blk_cell BK1.out 1).trans rfl, (blk_cell BK2.out 0).trans rfl, (blk_cell BK2.out 1).trans rfl⟩ (fun hHeld => ?_); refine with_tabW flow_Net_2.tab1 flow_Net_2.bits1 (fun HT_ HW_ => ?_)
  generalize ((w.alloc (.cells #[.int .i64 x.d, .string x.c] 70 (0, 0))).alloc (.cells #[.int .i64 y.d, .string y.c] 70 (0, 0))).drew = w8 at BK1 BK2 HG hHeld ⊢
  refine pure_ (i := 0) (N := some 5) (v := ?_) (a' := ?_) #[true, false, false, false, false, false, false, false, false, false, false, false, false] rfl rfl (any_of HT_.out (by kernel_rfl)) (fun _ _ _ h => h) (Or.inl ⟨by rfl, ?_⟩) ?_ ?_
  rotate_left
  · intro w'
    go_simp
    with_reducible rfl
  rotate_left
  · simp only [Act.put, List.setIfInBounds_toArray, List.set_cons_zero, List.set_cons_succ, i64_w, i32_w]
    rfl
  refine pure_ (i := 2) (N := some 7) (v := ?_) (a' := ?_) #[true, false, true, false, false, false, false, false, false, false, false, false, false] rfl rfl (any_of HT_.out (by kernel_rfl)) (fun _ _ _ h => h) (Or.inl ⟨by rfl, ?_⟩) ?_ ?_
  rotate_left
  · intro w'
    go_simp
    with_reducible rfl
  rotate_left
  · simp only [Act.put, List.setIfInBounds_toArray, List.set_cons_zero, List.set_cons_succ, i64_w, i32_w]
    rfl
  refine pure_ (i := 5) (N := some 10) (v := ?_) (a' := ?_) #[true, false, true, false, false, true, false, false, false, false, false, false, false] rfl rfl (any_of HT_.out (by kernel_rfl)) (fun _ _ _ h => h) (Or.inl ⟨by rfl, ?_⟩) ?_ ?_
  rotate_left
  · intro w'
    go_simp
    with_reducible rfl
  rotate_left
  · simp only [Act.put, List.setIfInBounds_toArray, List.set_cons_zero, List.set_cons_succ, i64_w, i32_w]
    rfl
  refine pure_ (i := 7) (N := some 12) (v := ?_) (a' := ?_) #[true, false, true, false, false, true, false, true, false, false, false, false, false] rfl rfl (any_of HT_.out (by kernel_rfl)) (fun _ _ _ h => h) (Or.inl ⟨by rfl, ?_⟩) ?_ ?_
  rotate_left
  · intro w'
    go_simp
    with_reducible rfl
  rotate_left
  · simp only [Act.put, List.setIfInBounds_toArray, List.set_cons_zero, List.set_cons_succ, i64_w, i32_w]
    rfl
  refine take_ (i := 1) (N := some 6) (v := ?_) (a' := ?_) #[true, true, true, false, false, true, false, true, false, false, false, false, false] rfl rfl (take_ofW HT_.out HW_.out (by kernel_rfl)) (fun _ _ _ h => h) (Or.inl ⟨by rfl, ?_⟩) hHeld ?_ ?_
  rotate_left
  · rintro w' ⟨s0, s1, s2, s3⟩
    go_simp
    with_reducible rfl
  rotate_left
  · simp only [Act.put, List.setIfInBounds_toArray, List.set_cons_zero, List.set_cons_succ, i64_w, i32_w]
    rfl
  refine take_ (i := 3) (N := some 8) (v := ?_) (a' := ?_) #[true, true, true, true, false, true, false, true, false, false, false, false, false] rfl rfl (take_ofW HT_.out HW_.out (by kernel_rfl)) (fun _ _ _ h => h) (Or.inl ⟨by rfl, ?_⟩) hHeld ?_ ?_
  rotate_left
  · rintro w' ⟨s0, s1, s2, s3⟩
    go_simp
    with_reducible rfl
  rotate_left
  · simp only [Act.put, List.setIfInBounds_toArray, List.set_cons_zero, List.set_cons_succ, i64_w, i32_w]
    rfl
  refine take_ (i := 6) (N := some 11) (v := ?_) (a' := ?_) #[true, true, true, true, false, true, true, true, false, false, false, false, false] rfl rfl (take_ofW HT_.out HW_.out (by kernel_rfl)) (fun _ _ _ h => h) (Or.inl ⟨by rfl, ?_⟩) hHeld ?_ ?_
  rotate_left
  · rintro w' ⟨s0, s1, s2, s3⟩
    go_simp
    with_reducible rfl
  rotate_left
  · simp only [Act.put, List.setIfInBounds_toArray, List.set_cons_zero, List.set_cons_succ, i64_w, i32_w]
    rfl
  refine take_ (i := 8) (N := some 13) (v := ?_) (a' := ?_) #[true, true, true, true, false, true, true, true, true, false, false, false, false] rfl rfl (take_ofW HT_.out HW_.out (by kernel_rfl)) (fun _ _ _ h => h) (Or.inl ⟨by rfl, ?_⟩) hHeld ?_ ?_
  rotate_left
  · rintro w' ⟨s0, s1, s2, s3⟩
    go_simp
    with_reducible rfl
  rotate_left
  · simp only [Act.put, List.setIfInBounds_toArray, List.set_cons_zero, List.set_cons_succ, i64_w, i32_w]
    rfl
  refine one_ (i := 4) (N := some 9) #[true, true, true, true, true, true, true, true, true, false, false, false, false] rfl rfl (one_of HT_.out (by kernel_rfl)) (by decide) (fun K hK => ?_)
  refine goes_ Tryd.func37 (by kernel_rfl) rfl #[.int .i64 x.d, .int .i64 y.d] (by rfl) rfl rfl (by (try simp only [List.map_toArray, List.map_cons, List.map_nil]); first | done | rfl | (simp only [List.length_drop, List.length_take]; rfl)) ?_
  with_reducible refine (cmp_Compare_int.calls x.d y.d (c3 x.d y.d) _ (cmpC_f _ _)).mono ?_
  rintro e w' ⟨rfl, ⟨nd, rfl⟩⟩
  have n1_ := Aside0.mk (blk_drewN BK1.out nd); have n2_ := Aside0.mk (blk_drewN BK2.out nd); have n3_ := Aside0.mk (HG.out.drewN nd)
  clear BK1 BK2 HG
  have BK1 := n1_; have BK2 := n2_; have HG := n3_
  clear n1_ n2_ n3_
  refine ⟨_, rfl, ?_⟩
  refine hK.out _ _ ⟨(blk_cell BK1.out 0).trans rfl, (blk_cell BK1.out 1).trans rfl, (blk_cell BK2.out 0).trans rfl, (blk_cell BK2.out 1).trans rfl⟩ (fun hHeld => ?_)
  clear hK K
  refine norm_ (a' := ?_) ?_ ?_
  rotate_left
  · show Act.put _ (some 9) _ = _
    simp only [Act.put, List.setIfInBounds_toArray, List.set_cons_zero, List.set_cons_succ, i64_w, i32_w]
    rfl
  generalize w8.drewN nd = w9 at BK1 BK2 HG hHeld ⊢
  refine one_ (i := 9) (N := some 14) #[true, true, true, true, true, true, true, true, true, true, false, false, false] rfl rfl (one_of HT_.out (by kernel_rfl)) (by decide) (fun K hK => ?_)
  refine goes_ Tryd.func38 (by kernel_rfl) rfl #[.string x.c, .string y.c] (by rfl) rfl rfl (by (try simp only [List.map_toArray, List.map_cons, List.map_nil]); first | done | rfl | (simp only [List.length_drop, List.length_take]; rfl)) ?_
  with_reducible refine (strings_Compare.calls x.c y.c (scmp x.c y.c) _ rfl).mono ?_
  rintro e w' ⟨rfl, ⟨nd, rfl⟩⟩
  have n1_ := Aside0.mk (blk_drewN BK1.out nd); have n2_ := Aside0.mk (blk_drewN BK2.out nd); have n3_ := Aside0.mk (HG.out.drewN nd)
  clear BK1 BK2 HG
  have BK1 := n1_; have BK2 := n2_; have HG := n3_
  clear n1_ n2_ n3_
  refine ⟨_, rfl, ?_⟩
  refine hK.out _ _ ⟨(blk_cell BK1.out 0).trans rfl, (blk_cell BK1.out 1).trans rfl, (blk_cell BK2.out 0).trans rfl, (blk_cell BK2.out 1).trans rfl⟩ (fun hHeld => ?_)
  clear hK K
  refine norm_ (a' := ?_) ?_ ?_
  rotate_left
  · show Act.put _ (some 14) _ = _
    simp only [Act.put, List.setIfInBounds_toArray, List.set_cons_zero, List.set_cons_succ, i64_w, i32_w]
    rfl
  generalize w9.drewN nd = w10 at BK1 BK2 HG hHeld ⊢
  refine one_ (i := 10) (N := some 15) #[true, true, true, true, true, true, true, true, true, true, true, false, false] rfl rfl (one_of HT_.out (by kernel_rfl)) (by decide) (fun K hK => ?_)
  refine value_ (w1 := ?_) (v := ?_) (by rfl) rfl ?_ ?_
  rotate_left 2
  · go_simp
    constructor
    · rfl
    · rfl
  have n1_ := Aside0.mk (blk_alloc BK1.out (.cells #[.int .i64 (c3 x.d y.d), .int .i64 (scmp x.c y.c)] 3 (0, 0))); have n2_ := Aside0.mk (blk_alloc BK2.out (.cells #[.int .i64 (c3 x.d y.d), .int .i64 (scmp x.c y.c)] 3 (0, 0))); have n3_ := Aside0.mk (HG.out.alloc (.cells #[.int .i64 (c3 x.d y.d), .int .i64 (scmp x.c y.c)] 3 (0, 0)))
  have HC := Aside0.mk (two_C w10 (c3 x.d y.d) (scmp x.c y.c))
  clear BK1 BK2 HG
  have BK1 := n1_; have BK2 := n2_; have HG := n3_
  clear n1_ n2_ n3_
  refine hK.out _ _ ⟨(blk_cell BK1.out 0).trans rfl, (blk_cell BK1.out 1).trans rfl, (blk_cell BK2.out 0).trans rfl, (blk_cell BK2.out 1).trans rfl⟩ (fun hHeld => ?_)
  clear hK K
  refine norm_ (a' := ?_) ?_ ?_
  rotate_left
  · show Act.put _ (some 15) _ = _
    simp only [Act.put, List.setIfInBounds_toArray, List.set_cons_zero, List.set_cons_succ, i64_w, i32_w]
    rfl
  have hor := Aside0.mk (show Calls Tryd.prog 36 #[.slice (some ⟨w10.heap.size, 0, none⟩) 2 2] (w10.alloc (.cells #[.int .i64 (c3 x.d y.d), .int .i64 (scmp x.c y.c)] 3 (0, 0))) (fun e w' => e = .returned (.int .i64 (pcmp x y)) ∧ Drawn0 (w10.alloc (.cells #[.int .i64 (c3 x.d y.d), .int .i64 (scmp x.c y.c)] 3 (0, 0))) w') from (cmp_Or_int.calls 5 _ 2 [c3 x.d y.d, scmp x.c y.c] (pcmp x y) _ HC.out (Nat.le_refl _) (or2 _ _)))
  refine one_ (i := 11) (N := some 16) #[true, true, true, true, true, true, true, true, true, true, true, true, false] rfl rfl (one_of HT_.out (by kernel_rfl)) (by decide) (fun K hK => ?_)
  refine goes_ Tryd.func36 (by kernel_rfl) rfl #[.slice (some ⟨w10.heap.size, 0, none⟩) 2 2] (by rfl) rfl rfl (by (try simp only [List.map_toArray, List.map_cons, List.map_nil]); first | done | rfl | (simp only [List.length_drop, List.length_take]; rfl)) ?_
  with_reducible refine (hor.out).mono ?_
  rintro e w' ⟨rfl, ⟨nd, rfl⟩⟩
  have n3_ := Aside0.mk (HG.out.drewN nd)
  have n1_ := Aside0.mk (blk_drewN BK1.out nd); have n2_ := Aside0.mk (blk_drewN BK2.out nd)
  clear BK1 BK2 HG
  have BK1 := n1_; have BK2 := n2_; have HG := n3_
  refine ⟨_, rfl, ?_⟩
  refine hK.out _ _ ⟨(blk_cell BK1.out 0).trans rfl, (blk_cell BK1.out 1).trans rfl, (blk_cell BK2.out 0).trans rfl, (blk_cell BK2.out 1).trans rfl⟩ (fun hHeld => ?_)
  clear hK K
  refine norm_ (a' := ?_) ?_ ?_
  rotate_left
  · show Act.put _ (some 16) _ = _
    simp only [Act.put, List.setIfInBounds_toArray, List.set_cons_zero, List.set_cons_succ, i64_w, i32_w]
    rfl
  refine pure_ (i := 12) (N := some 4) (v := ?_) (a' := ?_) #[true, true, true, true, true, true, true, true, true, true, true, true, true] rfl rfl (any_of HT_.out (by kernel_rfl)) (fun _ _ _ h => h) (Or.inl ⟨by rfl, ?_⟩) ?_ ?_
  rotate_left
  · intro w'
    go_simp
    with_reducible rfl
  rotate_left
  · simp only [Act.put, List.setIfInBounds_toArray, List.set_cons_zero, List.set_cons_succ, i64_w, i32_w]
    rfl
  refine done_ (done_of HT_.out (by kernel_rfl)) ?_
  go_wp2
  go_ret
  exact ⟨rfl, HG.out⟩
end Go.Proofs.YtdfndbegifdejaaDoor.GD

/-! ### SrtP -/
/- The library's sorting of places (a day and a currency) by flow.Net's comparing closure, of a row of one's own. -/
namespace Go.Proofs.YtdfndbegifdejaaDoor.GD
set_option linter.unusedVariables false
set_option linter.unusedSimpArgs false
open Go.RowKit Go.Proofs.YtdfndbegifdejaaDoorW.PrintWords Go.Proofs.YtdfndbegifdejaaDoorW.PrintLast Go.Proofs.YtdfndbegifdejaaDoorW.PrintMore Go.Proofs.YtdfndbegifdejaaDoorMine Go.Proofs Go.Shelf Go.Sort Go.Lib
open Go.Proofs.YtdfndbegifdejaaDoor.GD (pcmp netCmp c3)

instance : Inhabited Pl := ⟨⟨0, ByteArray.empty⟩⟩
def encP (x : Pl) : List Value := [.int .i64 x.d, .string x.c]
def k70 : Kd Pl := Kd.iso (Kd.pair (Kd.int .i64) Kd.string) (fun x : Pl => (x.d, x.c))
theorem k70_open {w : World} {x : Pl} {cs : List Value} (h : k70.K w x cs) : cs = [.int .i64 x.d, .string x.c] := by
  obtain ⟨_, _, rfl, rfl, rfl⟩ := h
  exact rfl
theorem k70_openM {w : World} {base : Nat} {ok : Nat → Prop} {x : Pl} {cs : List Value} (h : k70.M w base ok x cs) : cs = [.int .i64 x.d, .string x.c] := by
  obtain ⟨_, _, rfl, rfl, rfl⟩ := h
  exact rfl
theorem k70_mk (w : World) (x : Pl) : k70.K w x [.int .i64 x.d, .string x.c] := ⟨[.int .i64 x.d], [.string x.c], rfl, rfl, rfl⟩
theorem k70_mkM (w : World) (base : Nat) (ok : Nat → Prop) (x : Pl) : k70.M w base ok x [.int .i64 x.d, .string x.c] := ⟨[.int .i64 x.d], [.string x.c], rfl, rfl, rfl⟩
def z82 : Pl := ⟨0, ⟨#[]⟩⟩
def rd_T70 (xs : List Pl) (i : Int) : Pl := xs.getD i.toNat z82
theorem at_T70 {w : World} {A : Option Addr} {n : Nat} {xs : List Pl} (h : Kd.C k70 w A n xs) (i : Int) (h0 : 0 ≤ i) (h1 : i < n) : ∃ ad , A = some ad ∧ w.cell? (ad.add (i.toNat * 2)) = some (.int .i64 (rd_T70 xs i).d) ∧ w.cell? ⟨(ad.add (i.toNat * 2)).block, (ad.add (i.toNat * 2)).off + 1, none⟩ = some (.string (rd_T70 xs i).c) := by
  obtain ⟨ad, c, e, _, hK, hc0⟩ := Kd.C_get h z82 i h0 h1
  have hc : ∀ j u, c[j]? = some u → w.cell? (ad.add (i.toNat * 2 + j)) = some u := hc0
  obtain rfl := k70_open hK
  exact ⟨ad, e, hc 0 _ rfl, by rw [← add_field _ _ 1 (by omega)]; exact hc 1 _ rfl⟩
theorem flat82 : Flat0 k70 encP := ⟨fun h => k70_open h, fun w b ok x => k70_mkM w b ok x⟩

/-- The order of places. -/
def pless (a b : Pl) : Bool := decide (a.d < b.d) || (decide (a.d = b.d) && sless a.c b.c)
theorem ltOf_pcmp : ltOf pcmp = pless := by
  funext a b
  have hs : ∀ x y, decide (scmp x y < 0) = sless x y := fun x y => congrFun (congrFun ltOf_scmp x) y
  unfold ltOf pcmp pless
  rw [← hs]
  unfold c3
  by_cases h1 : a.d < b.d
  · simp [h1]
  · by_cases h2 : b.d < a.d
    · have h3 : a.d ≠ b.d := by omega
      simp [h1, h2, h3]
    · have h3 : a.d = b.d := by omega
      simp [h1, h2, h3]
theorem sless_trans {a b c : ByteArray} (h1 : sless a b = true) (h2 : sless b c = true) : sless a c = true := swo_sless.trans a b c h1 h2
theorem swo_pless : SWO pless where
  irrefl a := by simp [pless, swo_sless.irrefl]
  trans a b c h1 h2 := by
    simp only [pless, Bool.or_eq_true, Bool.and_eq_true, decide_eq_true_eq] at *
    rcases h1 with h1 | ⟨h1, h1'⟩ <;> rcases h2 with h2 | ⟨h2, h2'⟩
    · left; omega
    · left; omega
    · left; omega
    · exact .inr ⟨by omega, sless_trans h1' h2'⟩
  ntrans a b c h1 h2 := by
    simp only [pless, Bool.or_eq_false_iff, Bool.and_eq_false_iff, decide_eq_false_iff_not] at *
    obtain ⟨h1, h1'⟩ := h1
    obtain ⟨h2, h2'⟩ := h2
    refine ⟨by omega, ?_⟩
    by_cases e : a.d = c.d
    · right
      have e1 : a.d = b.d := by omega
      have e2 : b.d = c.d := by omega
      rcases h1' with h1' | h1'
      · exact absurd e1 h1'
      rcases h2' with h2' | h2'
      · exact absurd e2 h2'
      exact swo_sless.ntrans _ _ _ h1' h2'
    · exact .inl e
theorem pless_ext {a b : Pl} (h1 : pless a b = false) (h2 : pless b a = false) : a = b := by
  simp only [pless, Bool.or_eq_false_iff, Bool.and_eq_false_iff, decide_eq_false_iff_not] at h1 h2
  obtain ⟨d, c⟩ := a
  obtain ⟨d', c'⟩ := b
  simp only at h1 h2
  have e : d = d' := by omega
  subst e
  have : c = c' := sless_ext (by simpa using h1.2) (by simpa using h2.2)
  rw [this]

theorem netCmp.lays (blk off size : Nat) (w : World) : CmpLays Tryd.prog 35 #[] encP 2 pcmp blk off size w := fun m os dk hs x y => by
  refine (netCmp x y _).mono ?_
  rintro e w' ⟨rfl, q, os', rfl⟩
  exact ⟨rfl, q, os', rfl⟩

theorem sortPls_none (w : World) : Calls Tryd.prog 54 #[.slice none 0 0, .func (.func 35) #[] #[]] w fun e w' => e = .returned (.tuple #[]) ∧ w' = w :=
  AnyF.slices_SortFunc_none (P := Tryd.prog) (ρ := sortPlacesRen) sortPlaces none 0 _ w

set_option maxHeartbeats 1000000 in
theorem sortPls_row (W : World) (base : Nat) (ok : Nat → Prop) (v : Value) (xs : List Pl) (hr : k70.R 70 W base ok v xs) (hn : xs.length < 4611686018427387904) :
    Calls Tryd.prog 54 #[v, .func (.func 35) #[] #[]] W fun e w' => e = .returned (.tuple #[]) ∧ ∃ m : List Pl, m.length = xs.length ∧ k70.R 70 w' base ok v m ∧ W.grownBy w' v.ownBlock ∧ m.Perm xs ∧ m.Pairwise (fun a b => pless b a = false) := by
  obtain ⟨inner, hown⟩ := Kd.R_own hr
  rcases hown.2 with ⟨rfl, h0⟩ | ⟨g, cap, cur, rfl, _⟩
  · obtain rfl := List.eq_nil_of_length_eq_zero h0
    refine (sortPls_none W).mono ?_
    rintro e w' ⟨rfl, rfl⟩
    exact ⟨rfl, [], rfl, hr, World.grownBy.refl _ _, List.Perm.refl _, List.Pairwise.nil⟩
  · obtain ⟨⟨_, _, hH, hlt⟩, _⟩ := flat82.sort_in (by decide) hr
    have hc := AnyQ.slices_SortFunc sortPlaces 2 Tryd.isAgg70 Tryd.sizeOf70 encP (fun _ => rfl) (fun x v hv => by
      simp only [encP, List.mem_cons, List.not_mem_nil, or_false] at hv
      rcases hv with rfl | rfl <;> rfl) pcmp (by rw [ltOf_pcmp]; exact swo_pless) 35 #[] g 0 cap xs.toArray W (enters_of Tryd.func35 (by kernel_rfl) rfl) (netCmp.lays _ _ _ _) hH hlt (by simpa using hn)
    rw [List.size_toArray] at hc
    refine hc.mono ?_
    rintro e w' ⟨rfl, dk, n, os, hp, hso, rfl⟩
    have hl : dk.size = xs.length := by have := hp.1; simpa using this
    obtain ⟨h1, h2⟩ := flat82.sort_out (by decide) hr ⟨n, os, rfl⟩ hl
    refine ⟨rfl, dk.toList, by simpa using hl, h1, h2, ?_, ?_⟩
    · have h3 := hp.2.2
      have e1 : dk.extract 0 xs.length = dk := by rw [← hl]; exact Array.extract_size
      have e2 : xs.toArray.extract 0 xs.length = xs.toArray := Array.extract_size
      rw [e1, e2] at h3
      simpa using h3
    · rw [List.pairwise_iff_getElem]
      intro i j hi hj hij
      have := hso i j (Nat.zero_le _) hij (by simp at hj; omega)
      rw [ltOf_pcmp, getElem!_pos _ j (by simpa using hj), getElem!_pos _ i (by simpa using hi)] at this
      simpa using this
end Go.Proofs.YtdfndbegifdejaaDoor.GD

/-! ### GatS -/
/- flow.gather at strings (flow.Totals): its contract. -/
namespace Go.Proofs.YtdfndbegifdejaaDoor.GD
set_option linter.unusedVariables false
set_option linter.unusedSimpArgs false
open Go.RowKit Go.Proofs.YtdfndbegifdejaaDoorW.PrintWords Go.Proofs.YtdfndbegifdejaaDoorW.PrintLast Go.Proofs.YtdfndbegifdejaaDoorW.PrintMore Go.Proofs.YtdfndbegifdejaaDoorMine Go.ChangeShapes

def slit (s : ByteArray) : Lit := .string s.data.toList
def curL (x : S32) : Lit := slit x.f1
theorem info79 : (Tryd.prog.info? 79).map (fun i => (i.zero, i.size, i.bytes)) = some (some (.agg #[.string ⟨#[]⟩, .int .i64 0]), 2, 24) := by kernel_rfl
theorem slit_key (s : ByteArray) : WideAt.IsKeyLit (slit s) := trivial
theorem slit_inj {a b : ByteArray} (h : slit a = slit b) : a = b := by
  unfold slit at h; injection h with h
  exact ByteArray.ext (Array.ext' h)
theorem keyOf9 (s : ByteArray) (h : s.size ≤ maxLen) : keyOf Tryd.prog 9 (.string s) = some (slit s) := by
  simp [keyOf, Tryd.underlying9, mapKey, slit, h]
theorem law9 : Maps.Keyed Tryd.prog 9 := Maps.string_keyed Tryd.underlying9
theorem zero74 (w : World) : (zeroValue 93).run Tryd.prog w = .ok (.slice none 0 0) w := Tryd.zeroValue93 w
def WfA (l : List S32) : Prop := ∀ x ∈ l, x.f1.size ≤ maxLen ∧ (Lit.int .i64 x.f2).wf = true

theorem Tot1.calls (x : S32) (w : World) : Calls Tryd.prog 41 #[.agg #[.int .i64 x.f0, .string x.f1, .int .i64 x.f2]] w fun e w' => e = .returned (.string x.f1) ∧ Below w.heap.size w w' := by
  go_enter Tryd.func41, Tryd.ntmps41
  go_wp2
  go_ret
  exact ⟨rfl, below_alloc (Below.refl _ _) _⟩
theorem Tot2.calls (k : ByteArray) (s : Int) (w : World) : Calls Tryd.prog 42 #[.string k, .int .i64 s] w fun e w' => e = .returned (.agg #[.string k, .int .i64 s]) ∧ Below w.heap.size w w' := by
  go_enter Tryd.func42, Tryd.ntmps42
  go_wp2
  exact bodyPost_ret (v := .agg #[.string k, .int .i64 s]) (by simp [results, Tryd.results42, go_sem]) rfl ⟨rfl, below_alloc (Below.refl _ _) _⟩

theorem info9 : (Tryd.prog.info? 9).map (fun i => (i.zero, i.size, i.bytes)) = some (some (.string ⟨#[]⟩), 1, 16) := by kernel_rfl
/-- The keys that have come so far. -/
structure Keys (D : DataW Unit) (left : Lit → Bool) (ks : List ByteArray) : Prop where
  nodup : ks.Nodup
  mem : ∀ c, c ∈ ks ↔ (Maps.has D (slit c) = true ∧ left (slit c) = false)
theorem keys_start (D : DataW Unit) : Keys D (Maps.has D) [] := ⟨List.nodup_nil, fun c => by simp⟩
theorem keys_step {D : DataW Unit} {left : Lit → Bool} {ks : List ByteArray} (h : Keys D left ks) (x : ByteArray) (hl : left (slit x) = true) (hh : Maps.has D (slit x) = true) :
    Keys D (fun z => left z && !z.sameKey (slit x)) (ks ++ [x]) := by
  have hx : x ∉ ks := fun hm => by have := ((h.mem x).1 hm).2; rw [hl] at this; cases this
  refine ⟨?_, fun c => ?_⟩
  · rw [List.nodup_append]
    exact ⟨h.nodup, by simp, fun a ha b hb => by rw [List.mem_singleton.1 hb]; intro e; subst e; exact hx ha⟩
  · rw [List.mem_append, List.mem_singleton, h.mem]
    by_cases e : c = x
    · subst e
      have : (slit c).sameKey (slit c) = true := WideAt.sameKey_self (slit_key c)
      simp [this, hh]
    · have : (slit c).sameKey (slit x) = false := Maps.sameKey_ne (fun e2 => e (slit_inj e2))
      simp [this, e]

theorem keyOf9_inv {x : ByteArray} {kl : Lit} (h : keyOf Tryd.prog 9 (.string x) = some kl) : x.size ≤ maxLen ∧ kl = slit x := by
  simp [keyOf, Tryd.underlying9, mapKey] at h
  exact ⟨h.1, h.2.symm⟩
theorem keyOf9_str {key : Value} {kl : Lit} (h : keyOf Tryd.prog 9 key = some kl) : ∃ x, key = .string x := by
  cases key <;> first | exact ⟨_, rfl⟩ | (simp [keyOf, Tryd.underlying9, mapKey] at h)

/-- What a list of numbers adds up to; the second: the fault. -/
def sumF : Int → List Int → Int × Int
  | s, [] => (s, 0)
  | s, x :: r => if ((decide (x ≥ 0)) != (decide ((wrap64 (s + x)) ≥ s))) = true then (0, 1) else sumF (wrap64 (s + x)) r

theorem sumF_two : ∀ (l : List Int) (s : Int), (sumF s l).2 = 0 ∨ sumF s l = (0, 1)
  | [], s => .inl rfl
  | x :: r, s => by
    unfold sumF
    split
    · exact .inr rfl
    · exact sumF_two r _
theorem numSum_f (zs : List Int) (hz : zs.length ≤ 4398046511104) : ∃ k, num_Sum.f k zs = some (sumF 0 zs) := by
  have key : ∀ (d i : Nat) (s : Int), zs.length - i = d → i ≤ zs.length → ∃ k, num_Sum.l0 k s zs (zs.length : Int) (i : Int) = some (sumF s (zs.drop i)) := by
    intro d
    induction d with
    | zero =>
      intro i s hd hi
      obtain rfl : i = zs.length := by omega
      exact ⟨1, by simp only [num_Sum.l0]; rw [if_neg (by omega), List.drop_length]; rfl⟩
    | succ d ih =>
      intro i s hd hi
      have hlt : i < zs.length := by omega
      have e1 : rd zs (i : Int) = zs[i] := by simp [rd, hlt]
      have e2 : wrap64 ((i : Int) + 1) = ((i + 1 : Nat) : Int) := by unfold wrap64; omega
      rw [List.drop_eq_getElem_cons hlt]
      unfold sumF
      by_cases hc : ((decide (zs[i] ≥ 0)) != (decide ((wrap64 (s + zs[i])) ≥ s))) = true
      · refine ⟨1, ?_⟩
        simp only [num_Sum.l0]
        rw [if_pos (by omega), if_pos (by omega), if_pos (by omega), e1]
        unfold num_Add.f
        rw [if_pos hc, if_pos hc]
        rfl
      · obtain ⟨k, hk⟩ := ih (i + 1) (wrap64 (s + zs[i])) (by omega) (by omega)
        refine ⟨k + 1, ?_⟩
        simp only [num_Sum.l0]
        rw [if_pos (by omega), if_pos (by omega), if_pos (by omega), e1]
        unfold num_Add.f
        rw [if_neg hc, if_neg hc]
        simp only [Option.bind_some, if_true]
        rw [e2]
        exact hk
  obtain ⟨k, hk⟩ := key zs.length 0 0 (by omega) (by omega)
  exact ⟨k, by unfold num_Sum.f; exact hk⟩

theorem str_ne62 : ∀ q, q ∈ 9 :: Kd.string.E → q ≠ 79 := by
  intro q hq
  have : q = 9 := by simpa [Kd.string, Kd.scalar] using hq
  omega

/-- What is added up of each key. -/
noncomputable def tots (l0 : List S32) (ks : List ByteArray) : List S79 := ks.map (fun k => ⟨k, (sumF 0 (grp curL (slit k) l0)).1⟩)
/-- The keys, each once, in order. -/
structure KeyList (l0 : List S32) (ks : List ByteArray) : Prop where
  nodup : ks.Nodup
  mem : ∀ c, c ∈ ks ↔ ∃ x ∈ l0, curL x = slit c
  sorted : ks.Pairwise (fun a b => sless b a = false)
/-- The answer of gather. -/
def TotGood (l0 : List S32) (ts : List S79) (f : Int) : Prop :=
  ∃ ks, KeyList l0 ks ∧ ((f = 0 ∧ ts = tots l0 ks ∧ ∀ k ∈ ks, (sumF 0 (grp curL (slit k) l0)).2 = 0) ∨ (f = 1 ∧ ts = [] ∧ ∃ k ∈ ks, (sumF 0 (grp curL (slit k) l0)).2 = 1))

set_option maxHeartbeats 4000000 in
set_option maxRecDepth 100000 in
theorem gatherS.calls (A0 : Option Addr) (c0 : Nat) (l0 : List S32) (w : World) (hr0 : Kd.C k32 w A0 l0.length l0) (hc0 : l0.length ≤ c0) (hsz : l0.length * 32 ≤ 140737488351232) (hwf : WfA l0) :
    Calls Tryd.prog 40 #[.slice A0 l0.length c0, .func (.func 41) #[] #[], .func (.func 38) #[] #[], .func (.func 42) #[] #[]] w fun e w' => ∃ (v : Value) (ts : List S79) (f : Int), e = .returned (.tuple #[v, .int .i64 f]) ∧ Kd.R k79 79 w' w.heap.size (fun _ => True) v ts ∧ Below w.heap.size w w' ∧ ts.length ≤ l0.length ∧ TotGood l0 ts f := by
  have HR0 := Aside0.mk hr0
  have HC0 := Aside0.mk hc0
  have HWF := Aside0.mk hwf
  have hmm := @run_makeMap Tryd.prog
  clear hr0 hc0 hwf
  obtain ⟨i0, hi, hz0, hz1, hz2⟩ := info_parts info3
  go_enter Tryd.func40, Tryd.ntmps40
  go_wp2
  go_loopg [24] l0.length (fun kx s24 wr => ∃ (i : Nat), s24 = .int .i64 i ∧ i ≤ l0.length ∧ l0.length - i ≤ kx ∧ Aside0 (∃ D : DataW Unit, wr.ownsGroups Tryd.prog 9 (w.heap.size + 1) 3 .i64 w.heap.size i D ∧ Says curL D (l0.take i)) ∧ Aside0 (Below w.heap.size w wr))
  case atStart => exact ⟨0, rfl, Nat.zero_le _, by omega, Aside0.mk ⟨_, World.ownsGroups_made _ _ _ _ _, says_nil _⟩, Aside0.mk (below_alloc (Below.refl _ _) _)⟩
  case round =>
    obtain ⟨i, rfl, hi2, hkx, HD, HB⟩ := hrel
    obtain ⟨wo, rfl⟩ : ∃ wo : World, wo = wr := ⟨_, rfl⟩
    by_cases hlt : i < l0.length
    · have hltz : (i : Int) < (l0.length : Int) := by omega
      obtain ⟨ad, hA, hx0, hx1, hx2⟩ := at_T32 (Kd.C_below HR0.out HB.out) (i : Int) (by omega) hltz
      rw [Int.toNat_natCast] at hx0 hx1 hx2
      have hmem : rd_T32 l0 (i : Int) ∈ l0 := by simp [rd_T32, hlt]
      have HWX := Aside0.mk (HWF.out _ hmem)
      have HTK := Aside0.mk (show l0.take (i + 1) = l0.take i ++ [rd_T32 l0 (i : Int)] by rw [List.take_succ_eq_append_getElem hlt]; simp [rd_T32, hlt])
      generalize hxx : rd_T32 l0 (i : Int) = x at *
      clear hmem hxx
      subst hA
      go_wp2_with fail
      refine (Tot1.calls x _).mono ?_
      rintro e w1 ⟨rfl, hb1⟩
      have HB1 := Aside0.mk hb1
      have hbx : Below (wo.alloc (Obj.cells #[.int .i64 x.f0, .string x.f1, .int .i64 x.f2] 32 (0, 0))).heap.size (wo.alloc (Obj.cells #[.int .i64 x.f0, .string x.f1, .int .i64 x.f2] 32 (0, 0))) w1 := hb1
      have HB2 := Aside0.mk (HB.out.trans (Below.mono ((below_alloc (Below.refl wo.heap.size wo) _).trans (hbx.mono (by simp))) HB.out.size))
      have hc2 : w1.cell? ⟨wo.heap.size, 2, none⟩ = some (.int .i64 x.f2) := (hbx.cell (p := ⟨wo.heap.size, 2, none⟩) (by simp)).trans ((blk_cell (blk_new wo _) 2).trans rfl)
      obtain ⟨D, hown, hsay⟩ := HD.out
      have hown1 := hown.kept (grown_of_below ((below_alloc (Below.refl wo.heap.size wo) _).trans (hbx.mono (by simp))) none) (by simp) (fun es clock hb x hx => by cases x.val.ownBlock <;> simp)
      have HSY := Aside0.mk hsay
      have hkey := keyOf9 x.f1 HWX.out.1
      have hw1z : w.heap.size < w1.heap.size := by
        have h1 := HB.out.size
        have h2 := hbx.size
        simp at h2
        obtain ⟨es, clock, h3, _⟩ := hown
        have := (Array.getElem?_eq_some_iff.1 h3).1
        omega
      clear hb1 hbx hown hsay
      go_wp2_with (first | (at_lookup; refine wpList_lookup_groups _ rfl _ _ 99 rfl 9 93 3 .i64 law9 Tryd.underlying99 (zero74 _) (w.heap.size + 1) w.heap.size i D rfl hown1 (by unfold maxLen; omega) _ _ rfl hkey ?_; intro v zs hat hoi hzl hback; have hzs : Aside0 (zs = grp curL (curL x) (l0.take i)) := Aside0.mk (says_at HSY.out (slit_key _) hat hoi); clear hat hown1) | (at_builtin; refine wpList_append_own_at _ rfl _ _ 93 rfl (w.heap.size + 1) 3 i0 (.int .i64 0) 1 8 Tryd.underlying93 hi hz0 hz1 hz2 rfl (by decide) _ _ _ rfl (hoi.1.alloc _) ⟨w1.heap.size, 0, none⟩ 1 1 [.int .i64 x.f2] rfl rfl (cell_one_new _ _ _) (ints_oneCell .i64 [x.f2]) (by unfold maxLen; omega) (by omega) (by simp; omega) ?_; intro v' w2 hown' hgrow hnil hloc) | (at_mapUpdate; refine wpList_mapUpdate_back (v' := v') _ rfl _ _ _ 99 rfl hback rfl rfl rfl ((World.grownBy_alloc _ _ _).trans hgrow) (hoi.appended hown' HWX.out.2) (by simp; omega) (hloc.imp id (fun h => ⟨_, h, by simp⟩)) ?_; intro w3 hown3 hgrow3))
      have HB3 := Aside0.mk (Below.groups HB2.out hoi ((World.grownBy_alloc _ _ _).trans hgrow) hgrow3 (by omega) (by omega) (Nat.le_refl _))
      have HOW := Aside0.mk (show ∃ D : DataW Unit, w3.ownsGroups Tryd.prog 9 (w.heap.size + 1) 3 .i64 w.heap.size (i + 1) D ∧ Says curL D (l0.take (i + 1)) from ⟨_, hown3, by
        rw [HTK.out]
        refine says_step HSY.out (fun y => slit_key _) x _ ?_
        have h1 := (hoi.appended hown' HWX.out.2).datum_pos (H := Unit) (by simp)
        rw [h1, hzs.out, gd_pos (by simp)]⟩)
      clear hown3 hgrow3 hown' hgrow hnil hloc hback hoi hzl
      go_roundg (l0.length - (i + 1))
      case measure => omega
      case rel => exact ⟨i + 1, by go_num, by omega, Nat.le_refl _, HOW, HB3⟩
    · have hltz : ¬ (i : Int) < (l0.length : Int) := by omega
      obtain rfl : i = l0.length := by omega
      rw [List.take_length] at HD
      obtain ⟨D, hown, hsay⟩ := HD.out
      have HSY := Aside0.mk hsay
      have HOG := Aside0.mk hown
      have hmap : wo.ownsMap Tryd.prog 9 (rowElem wo (w.heap.size + 1) 3 .i64) w.heap.size l0.length D := by
        obtain ⟨es, clock, h1, h2, h3, h4, _⟩ := hown
        exact ⟨es, clock, h1, h2, h3, h4⟩
      clear hown hsay HD hi2 hkx hltz hlt
      have hshun : wo.Shuns w.heap.size (fun g => wo.heap.size ≤ g) := by
        obtain ⟨es, clock, h1, F, _⟩ := HOG.out
        intro es' clock' h2 y hy g hg
        rw [h1] at h2
        cases h2
        obtain ⟨z, hz⟩ := F.reads y hy
        obtain ⟨u, hu, _⟩ := WideElems.rd_val hz
        obtain ⟨zs, ho, _⟩ := rowElem_inv hu
        have := (ho.1.lt g hg).2
        omega
      have hdl : Maps.size D ≤ l0.length := by
        obtain ⟨es, clock, h1, F, h3, rfl, _⟩ := HOG.out
        rw [Maps.size_eq, length_sorted]
        simpa using h3
      have hbz : w.heap.size < wo.heap.size := by
        obtain ⟨es, clock, h3, _⟩ := HOG.out
        exact (Array.getElem?_eq_some_iff.1 h3).1
      have HSH := Aside0.mk hshun
      clear hshun
      go_wp2_with (at_range; refine wpList_range_own _ rfl _ 99 rfl 9 93 law9 Tryd.underlying99 _ w.heap.size l0.length D rfl hmap ?_; intro w1 hrg hgr hsz1)
      have HRG := Aside0.mk hrg
      have HOG1 := Aside0.mk (HOG.out.kept hgr (by simp) (fun es clock hb x hx => by cases x.val.ownBlock <;> simp))
      have HSH1 := Aside0.mk (HSH.out.kept hgr hbz (by simp))
      have HB1 := Aside0.mk (HB.out.grown hgr HB.out.size (fun j hj => by cases hj))
      have hw1z : w1.heap.size = wo.heap.size + 1 := hsz1
      clear hrg hgr HOG HSH hmap hsz1
      generalize wo.heap.size = r at *
      have hw1a : r < w1.heap.size := by omega
      clear hw1z
      go_frame
      go_loopg [14] (Maps.size D) (fun kx s14 wr => ∃ (left : Lit → Bool) (cnt : Nat) (ks : List ByteArray), cnt ≤ kx ∧ ks.length + cnt ≤ l0.length ∧ Aside0 (wr.ranges Tryd.prog 9 (rowElem wo (w.heap.size + 1) 3 .i64) w.heap.size r l0.length D left cnt) ∧ Aside0 (Kd.string.R 9 wr (r + 1) (fun _ => True) s14 ks) ∧ Aside0 (Keys D left ks) ∧ Aside0 (wr.ownsGroups Tryd.prog 9 (w.heap.size + 1) 3 .i64 w.heap.size l0.length D) ∧ Aside0 (wr.Shuns w.heap.size (fun g => r ≤ g)) ∧ Aside0 (Below w.heap.size w wr ∧ r < wr.heap.size))
      case atStart => exact ⟨_, _, [], Nat.le_refl _, by simpa using hdl, HRG, Aside0.mk (Kd.R_nil _ _ _ _ _), Aside0.mk (keys_start D), HOG1, HSH1, Aside0.mk ⟨HB1.out, hw1a⟩⟩
      case round =>
        clear HRG HOG1 HSH1 HB1
        obtain ⟨left, cnt, ks, hcnt, hkl, HRG, HK, HKS, HOG, HSH, HB1⟩ := hrel
        obtain ⟨wi, rfl⟩ : ∃ wi : World, wi = wr := ⟨_, rfl⟩
        have HRR := HRG.out
        go_wp2_with (at_next; refine wpList_next_ranges _ rfl _ rfl 9 law9 (rowElem wo (w.heap.size + 1) 3 .i64) Value.string (id : Value → Value) ?_ (fun v y _ => ⟨v, rfl⟩) w.heap.size r l0.length D left cnt rfl HRR ?_ ?_)
        · intro key kl hk; exact keyOf9_str hk
        · -- nothing is left
          intro hc0 hl0
          have HKL : Aside0 (∀ c, c ∈ ks ↔ ∃ x ∈ l0, curL x = slit c) := Aside0.mk (fun c => by
            rw [HKS.out.mem, hl0, HSY.out.has _ (slit_key c)]; simp)
          have hks0 : ks.length ≤ l0.length := by omega
          clear hc0 hl0 HRR HRG hkl hcnt
          obtain ⟨Ak, ck, rfl⟩ := Kd.R_slice HK.out
          go_upto_region 14 with (go_at_call 58; refine (sortStrs_row wi (r + 1) (fun _ => True) (.slice Ak ks.length ck) ks HK.out (by omega)).mono ?_; rintro e w2 ⟨rfl, m, hml, hR, hg, hperm, hsrt⟩; have HM := Aside0.mk hR; have HG2 := Aside0.mk hg; have HP := Aside0.mk hperm; have HS := Aside0.mk hsrt; have HML := Aside0.mk hml; clear hR hg hperm hsrt hml)
          have hbs : w.heap.size < wi.heap.size ∧ r < wi.heap.size ∧ w.heap.size < r := by
            obtain ⟨es, clock, h3, _⟩ := HOG.out
            exact ⟨(Array.getElem?_eq_some_iff.1 h3).1, HB1.out.2, hbz⟩
          have hrow : ∀ j, (Value.slice Ak ks.length ck).ownBlock = some j → r + 1 ≤ j := fun j hj => Kd.R_base HK.out j hj
          have HOG2 := Aside0.mk (HOG.out.kept HG2.out (fun e => by have := hrow _ e.symm; omega) (HSH.out.rowsOff (fun j hj => by have := hrow _ hj; omega)))
          have HSH2 := Aside0.mk (HSH.out.kept HG2.out hbs.1 (fun e => by have := hrow _ e.symm; omega))
          have HB2 := Aside0.mk (show Below w.heap.size w w2 ∧ r < w2.heap.size from ⟨HB1.out.1.grown HG2.out (by omega) (fun j hj => by have := hrow _ hj; omega), by have := HG2.out.size; omega⟩)
          have HKEY : Aside0 (KeyList l0 m) := Aside0.mk ⟨(HP.out.nodup_iff).2 HKS.out.nodup, fun c => by rw [HP.out.mem_iff]; exact HKL.out c, HS.out⟩
          clear HOG HSH HB1 HKS HKL HP HS HK HG2 hrow
          go_wp2
          go_loopg [16, 56] ks.length (fun kx s16 s56 wr => ∃ (j : Nat), s56 = .int .i64 j ∧ j ≤ ks.length ∧ ks.length - j ≤ kx ∧ Aside0 (k79.R 79 wr (r + 1) (fun _ => True) s16 (tots l0 (m.take j))) ∧ Aside0 (∀ k ∈ m.take j, (sumF 0 (grp curL (slit k) l0)).2 = 0) ∧ Aside0 (Kd.string.R 9 wr (r + 1) (fun _ => True) (.slice Ak ks.length ck) m) ∧ Aside0 (wr.ownsGroups Tryd.prog 9 (w.heap.size + 1) 3 .i64 w.heap.size l0.length D) ∧ Aside0 (wr.Shuns w.heap.size (fun g => r ≤ g)) ∧ Aside0 (Below w.heap.size w wr ∧ r < wr.heap.size))
          case atStart => exact ⟨0, rfl, Nat.zero_le _, by omega, Aside0.mk (Kd.R_nil _ _ _ _ _), Aside0.mk (by simp), HM, HOG2, HSH2, HB2⟩
          case round =>
            clear HM HOG2 HSH2 HB2
            obtain ⟨j, rfl, hj, hkx, HO, HZ, HM, HOG, HSH, HB⟩ := hrel
            obtain ⟨wl, rfl⟩ : ∃ wl : World, wl = wr := ⟨_, rfl⟩
            by_cases hlt : j < ks.length
            · have hltz : (j : Int) < (ks.length : Int) := by omega
              have hjm : j < m.length := by rw [HML.out]; exact hlt
              have hM := HM.out
              rw [← HML.out] at hM
              obtain ⟨g, cap, hv, _⟩ := Kd.R_form hM (by omega)
              injection hv with hv1 _ hv3
              subst hv1
              subst hv3
              have hcell := (Kd.R_cell ByteArray.empty hM (j : Int) (by omega) (by omega)).1
              rw [Int.toNat_natCast, show rdOf ByteArray.empty m (j : Int) = m[j] by simp [rdOf, hjm]] at hcell
              have hkm : m[j] ∈ m := List.getElem_mem hjm
              obtain ⟨x0, hx0, hx1⟩ := (HKEY.out.mem _).1 hkm
              have hsz1 : m[j].size ≤ maxLen := by
                have h1 := slit_inj (show slit x0.f1 = slit m[j] from hx1)
                rw [← h1]; exact (HWF.out x0 hx0).1
              have HTK := Aside0.mk (show m.take (j + 1) = m.take j ++ [m[j]] from List.take_succ_eq_append_getElem hjm)
              have HKM := Aside0.mk hkm
              generalize m[j] = key at *
              clear hkm hx0 hx1 hM x0
              have hkey := keyOf9 key hsz1
              obtain ⟨sm, ft, hsf⟩ : ∃ sm ft, sumF 0 (grp curL (slit key) l0) = (sm, ft) := ⟨_, _, rfl⟩
              have HSF := Aside0.mk hsf
              have hft := sumF_two (grp curL (slit key) l0) 0
              rw [hsf] at hft
              have HFT := Aside0.mk hft
              clear hsf hft hsz1
              have hown1 := HOG.out
              go_upto_region 19 with (first | (at_lookup; refine wpList_lookup_groups _ rfl _ _ 99 rfl 9 93 3 .i64 law9 Tryd.underlying99 (zero74 _) (w.heap.size + 1) w.heap.size l0.length D rfl hown1 (by unfold maxLen; omega) _ _ rfl hkey ?_; intro v zs hat hoi hzl hback; obtain ⟨Az, cz, rfl⟩ := Kd.R_slice (Kd.R_of_own (enc := Value.int .i64) (h1 := fun _ => rfl) (ok := fun _ => True) hoi.1 (fun _ _ => trivial)); have hzs := says_at HSY.out (slit_key _) hat hoi; have HRZ := Aside0.mk (Kd.R_of_own (enc := Value.int .i64) (h1 := fun _ => rfl) (ok := fun _ => True) hoi.1 (fun _ _ => trivial)); have HZS := Aside0.mk hzs; clear hat hown1 hback hoi hzs) | (go_at_call 55; obtain ⟨kk, hkk⟩ := numSum_f zs (by omega); refine (num_Sum.calls kk Az cz zs sm ft _ (Kd.R_reads' HRZ.out).2.2 (Kd.R_reads' HRZ.out).2.1 (by rw [hkk, HZS.out, HSF.out])).mono ?_; clear hkk kk; rintro e w3 ⟨rfl, hd⟩; have HD3 := Aside0.mk hd.below; clear hd))
              have HBB := Aside0.mk (HB.out.1.trans (HD3.out.mono (by have := HB.out.2; omega)))
              rcases HFT.out with h0 | h1
              · obtain rfl : ft = 0 := h0
                have HO3 := Aside0.mk (Kd.R_below HO.out HD3.out)
                have HM3 := Aside0.mk (Kd.R_below HM.out HD3.out)
                have HOG3 := Aside0.mk (HOG.out.kept (grown_of_below HD3.out none) (by simp) (fun es clock hb x hx => by cases x.val.ownBlock <;> simp))
                have HSH3 := Aside0.mk (HSH.out.kept (grown_of_below HD3.out none) (by have := HB.out.2; omega) (by simp))
                have hr3 : r < w3.heap.size := by have := HD3.out.size; have := HB.out.2; omega
                have hlen : (tots l0 (m.take j)).length ≤ l0.length := by unfold tots; rw [List.length_map, List.length_take]; omega
                clear HO HM HOG HSH HFT HRZ HZS hcell hkey
                go_wp2_with (first | (go_at_call 42; refine (Tot2.calls key sm _).mono ?_; rintro e w4 ⟨rfl, hb4⟩; have HB4 := Aside0.mk hb4; have HO4 := Aside0.mk (Kd.R_below HO3.out HB4.out); have hwz4 : r + 1 ≤ w4.heap.size := (by have := hb4.size; omega); clear hb4) | ((with_reducible refine gate_builtin (b := .append) (xs := #[.tmp 70, .tmp 75]) rfl ?_); at_builtin; refine Kd.R_append k79 (w0 := w4) (r + 1) rfl (.tmp 70) (.tmp 75) 40 79 (.agg #[(.string ⟨#[]⟩), (.int .i64 0)]) 24 rfl Tryd.underlying40 info79 rfl (by decide) (by omega) u16 (tots l0 (m.take j)) ⟨key, sm⟩ [.string key, .int .i64 sm] (fun _ => True) (fun _ => False) rfl rfl (k79_mkM _ _ _ ⟨key, sm⟩) (fun _ h => h.elim) (fun _ _ => trivial) HO4.out (Below.refl _ _) hwz4 (by omega) ?_; intro v' w5 ho hb hg hat2; have HO5 := Aside0.mk ho; have HG5 := Aside0.mk hg; clear ho hb hg hat2))
                have hrow : ∀ q, u16.ownBlock = some q → r + 1 ≤ q := fun q hq => Kd.R_base HO4.out q hq
                have hbs : w.heap.size < w3.heap.size := by omega
                have HG4 := Aside0.mk (grown_of_below HB4.out none)
                have HSH4 := Aside0.mk (HSH3.out.kept HG4.out hbs (by simp))
                have HOG5 := Aside0.mk ((HOG3.out.kept HG4.out (by simp) (fun es clock hb x hx => by cases x.val.ownBlock <;> simp)).kept HG5.out (fun e => by have := hrow _ e.symm; omega) (HSH4.out.rowsOff (fun q hq => by have := hrow _ hq; omega)))
                have HSH5 := Aside0.mk (HSH4.out.kept HG5.out (by omega) (fun e => by have := hrow _ e.symm; omega))
                have HB5 := Aside0.mk (show Below w.heap.size w w5 ∧ r < w5.heap.size from ⟨(HBB.out.trans (HB4.out.mono (by omega))).grown HG5.out (by omega) (fun q hq => by have := hrow _ hq; omega), by have := HG5.out.size; omega⟩)
                have HM5 := Aside0.mk (Kd.R_over (Kd.R_below HM3.out HB4.out) HO4.out str_ne62 HG5.out)
                go_roundg (ks.length - (j + 1))
                case measure => omega
                case rel =>
                  refine ⟨j + 1, by go_num, by omega, Nat.le_refl _, Aside0.mk ?_, Aside0.mk ?_, HM5, HOG5, HSH5, HB5⟩
                  · rw [HTK.out]
                    have e : tots l0 (m.take j ++ [key]) = tots l0 (m.take j) ++ [⟨key, sm⟩] := by
                      unfold tots; rw [List.map_append, List.map_singleton, HSF.out]
                    rw [e]; exact HO5.out
                  · intro k hk
                    rw [HTK.out, List.mem_append] at hk
                    rcases hk with hk | hk
                    · exact HZ.out k hk
                    · rw [List.mem_singleton.1 hk, HSF.out]
              · cases h1
                go_wp2
                go_ret2
                exact ⟨_, [], 1, rfl, Kd.R_nil _ _ _ _ _, HBB.out, by simp, m, HKEY.out, .inr ⟨rfl, rfl, key, HKM.out, by rw [HSF.out]⟩⟩
            · have hltz : ¬ (j : Int) < (ks.length : Int) := by omega
              obtain rfl : j = ks.length := by omega
              rw [← HML.out, List.take_length] at HO HZ
              go_wp2
              go_ret2
              exact ⟨_, tots l0 m, 0, rfl, Kd.R_lower HO.out (by omega), HB.out.1, by unfold tots; rw [List.length_map, HML.out]; exact hks0, m, HKEY.out, .inl ⟨rfl, rfl, HZ.out⟩⟩
        · -- a key has come
          intro x c kl y1 y2 w1 cnt1 hkx hlk hR hat hrg1 hlt hg1 hs1 hen
          obtain ⟨hxs, rfl⟩ := keyOf9_inv hkx
          have hhas := Maps.has_true_of_atKey hat
          have HKS2 := Aside0.mk (keys_step HKS.out x hlk hhas)
          have HK1 := Aside0.mk (Kd.R_mono (Kd.R_grown (Kd.R_bound HK.out) hg1 (fun k hk e => by cases e; have := hk.2.1; omega)) (ok' := fun _ => True) (fun _ _ => trivial))
          have hbs : w.heap.size < wi.heap.size ∧ r < wi.heap.size ∧ w.heap.size < r := by
            obtain ⟨es, clock, h3, _⟩ := HOG.out
            exact ⟨(Array.getElem?_eq_some_iff.1 h3).1, HB1.out.2, hbz⟩
          have HOG2 := Aside0.mk (HOG.out.kept hg1 (fun e => by cases e; omega) (HSH.out.rowsOff (fun j hj => by cases hj; exact Nat.le_refl _)))
          have HSH2 := Aside0.mk (HSH.out.kept hg1 hbs.1 (fun e => by cases e; omega))
          have HB2 := Aside0.mk (HB1.out.1.grown hg1 (by omega) (fun j hj => by cases hj; omega))
          have HRG2 := Aside0.mk hrg1
          clear hrg1 HRG HRR HK HKS HOG HSH hR hat hg1 hkx hlk hhas
          have hwz : r + 1 ≤ w1.heap.size := by omega
          clear hs1
          go_wp2_with ((with_reducible refine gate_builtin (b := .append) (xs := #[.tmp 47, .tmp 49]) rfl ?_); at_builtin; refine Kd.R_append Kd.string (w0 := w1) (r + 1) rfl (.tmp 47) (.tmp 49) 100 9 (.string ⟨#[]⟩) 16 rfl Tryd.underlying100 info9 rfl (by decide) (by omega) u14 ks x [.string x] (fun _ => True) (fun _ => False) rfl rfl rfl (fun _ h => h.elim) (fun _ _ => trivial) HK1.out (Below.refl _ _) hwz (by omega) ?_; intro v' w2 ho hb hg hat2; have HK2 := Aside0.mk ho; have HG := Aside0.mk hg; clear ho hb hg hat2)
          have hrow : ∀ j, u14.ownBlock = some j → r + 1 ≤ j := fun j hj => Kd.R_base HK1.out j hj
          have HRG3 := Aside0.mk (HRG2.out.kept HG.out (fun e => by have := hrow _ e.symm; omega) (fun e => by have := hrow _ e.symm; omega))
          have HOG3 := Aside0.mk (HOG2.out.kept HG.out (fun e => by have := hrow _ e.symm; omega) (HSH2.out.rowsOff (fun j hj => by have := hrow _ hj; omega)))
          have HSH3 := Aside0.mk (HSH2.out.kept HG.out (by omega) (fun e => by have := hrow _ e.symm; omega))
          have HB3 := Aside0.mk (show Below w.heap.size w w2 ∧ r < w2.heap.size from ⟨HB2.out.grown HG.out (by omega) (fun j hj => by have := hrow _ hj; omega), by have := HG.out.size; omega⟩)
          go_roundg cnt1
          case measure => omega
          case rel => exact ⟨_, cnt1, ks ++ [x], Nat.le_refl _, by simp; omega, HRG3, HK2, HKS2, HOG3, HSH3, HB3⟩
end Go.Proofs.YtdfndbegifdejaaDoor.GD

/-! ### GatP -/
/- flow.gather at places (flow.Net): words of its walk, and its contract. -/
namespace Go.Proofs.YtdfndbegifdejaaDoorMine
set_option linter.unusedVariables false
set_option linter.unusedSimpArgs false
open Go.RowKit Go.Proofs.YtdfndbegifdejaaDoorW.PrintWords Go.Proofs.YtdfndbegifdejaaDoorW.PrintLast
variable {P : Program} {ops : Array Oper} {Q : Exit → Act → World → Prop}
/-- What a look-up gives stays while the map's block stays. -/
theorem lookup_stays {P : Program} {H : Type} {w w' : World} {k E e : TypeId} {base : Nat} {q : IntKind} {b n : Nat} {D : DataW H} {t : TypeId} {key : Value} {kl : Lit} {v : Value}
    (hown : w.ownsGroups P k base e q b n D) (K : Maps.Keyed P k) (ht : P.underlying t = some (.map k E)) (hz : ∀ W, (zeroValue E).run P W = .ok (.slice none 0 0) W) (hkey : keyOf P k key = some kl)
    (hb : w'.heap[b]? = w.heap[b]?) (h : (Instr.lookup t (.map (some b)) key false).run P w = .ok v w) : (Instr.lookup t (.map (some b)) key false).run P w' = .ok v w' := by
  obtain ⟨es, clock, h1, F, _⟩ := hown
  have hap := Maps.fit_apart K F
  have he : ∀ x ∈ es.toList, ∀ y ∈ es.toList, x.key = key → y.key = key → x = y := by
    intro x hx y hy e1 e2
    have hr : ∀ z ∈ es.toList, z.key = key → (WideElems.rg P k (rowElem (H := H) w base e q) z).1 = kl := by
      intro z hz e3
      obtain ⟨y0, hy0⟩ := F.reads z hz
      have m := WideElems.rd_key hy0
      rw [e3, hkey] at m
      rw [WideElems.rg_of hy0]
      exact (Option.some.inj m).symm
    obtain ⟨i, hi, rfl⟩ := List.getElem_of_mem hx
    obtain ⟨j, hj, rfl⟩ := List.getElem_of_mem hy
    have hp := List.pairwise_iff_getElem.1 hap
    rcases Nat.lt_trichotomy i j with hij | hij | hij
    · refine absurd ?_ (hp i j (by simpa using hi) (by simpa using hj) hij)
      rw [List.getElem_map, List.getElem_map, hr _ hx e1, hr _ hy e2]
    · subst hij; rfl
    · refine absurd ?_ (hp j i (by simpa using hj) (by simpa using hi) hij)
      rw [List.getElem_map, List.getElem_map, hr _ hx e1, hr _ hy e2]
  rcases Maps.fit_look false K ht (hz w) h1 F hkey with ⟨r1, n1, _⟩ | ⟨e0, y0, m0, k0, r1, _⟩ <;> rcases Maps.fit_look false K ht (hz w') (hb.trans h1) F hkey with ⟨r2, n2, _⟩ | ⟨e1, y1, m1, k1, r2, _⟩
  · rw [h] at r1
    injection r1 with r1 _
    rw [r2, r1]
  · exact absurd k1 (n1 _ m1)
  · exact absurd k0 (n2 _ m0)
  · obtain rfl := he _ m0 _ m1 k0 k1
    rw [h] at r1
    injection r1 with r1 _
    rw [r2, r1]
/-- The append of one's own row, in a region that draws. -/
theorem append_ {oi : Oper} {N : Option Tmp} {a : Act} {w : World} {K : Act → World → Prop} (hw : Region.wanted oi (yielded ops a.tmps) = true) (hN : oi.dst = N) (s x : Operand) (t : TypeId)
    (ho : oi.op = .call { callee := .builtin .append, args := #[s, x], argTypes := #[t, t] })
    (base : Nat) (e : TypeId) (i : TypeInfo) (z : Value) (size bytes : Nat) (ht : P.underlying t = some (.slice e)) (hi : P.info? e = some i) (hz : i.zero = some z)
    (hsize : i.size = size) (hby : i.bytes = bytes) (hzs : z.cells.size = size) (hsz : 0 < size)
    (v : Value) (n : Nat) (xs : List Value) (hs : a.eval s = v) (hown : w.ownsRow base e size v n xs)
    (ad : Addr) (m c : Nat) (news : List Value) (hx : a.eval x = .slice (some ad) m c) (hl : news.length = m * size) (hnews : ∀ j u, news[j]? = some u → w.cell? (ad.add j) = some u) (h1 : ∀ u ∈ news, u.oneCell' = true)
    (h63 : n + m ≤ maxLen) (hbytes : (n + m) * bytes ≤ 140737488355328) (hbase : base ≤ w.heap.size)
    (h : ∀ v' w', w'.ownsRow base e size v' (n + m) (xs ++ news) → w.grownBy w' v.ownBlock → (v'.ownBlock = v.ownBlock ∨ v'.ownBlock = some w.heap.size) → K (a.put N v') w') :
    if Region.wanted oi (yielded ops a.tmps) = true then Oper.wp P oi a w K Q else K (a.put N undef) w := by
  rw [if_pos hw]
  subst hN
  obtain ⟨v', w', hr, h2, h3, h4, h5⟩ := run_append_own_at (P := P) w base t oi.type e i z size bytes ht hi hz hsize hby hzs hsz v n xs hown ad m c news hl hnews h1 h63 hbytes hbase
  unfold Oper.wp execOp
  simp only [ho, resolve, invoke, builtin, Sem.run_bind, Sem.run_pure, Result.andThen_ok, List.map_toArray, List.map_cons, List.map_nil, hs, hx, hr]
  exact h v' w' h2 h3 h5
/-- The store into the map by the way back, in a region that draws. -/
theorem mapUpdate_ {oi : Oper} {a : Act} {w : World} {K : Act → World → Prop} (hw : Region.wanted oi (yielded ops a.tmps) = true) (hN : oi.dst = none) (m x v : Operand) (t : TypeId) (hop : oi.op = Op.mapUpdate t m x v)
    {w0 : World} {k : TypeId} {base : Nat} {e : TypeId} {q : IntKind} {b n : Nat} {D : DataW Unit} {key : Value} {kl : Lit} {u : Value} (v' : Value) {zs' : List Int}
    (hback : w0.groupBack P t k base e q b n D key kl u) (hm : a.eval m = .map (some b)) (hx : a.eval x = key) (hv : a.eval v = v')
    (hgr : w0.grownBy w u.ownBlock) (hown' : w.ownsInts base e q v' zs') (hl' : zs'.length ≤ n + 1) (hloc : v'.ownBlock = u.ownBlock ∨ ∃ g, v'.ownBlock = some g ∧ w0.heap.size ≤ g)
    (hK : ∀ w2, w2.ownsGroups P k base e q b (n + 1) (D.put kl (rowDatum q v' zs')) → w.grownBy w2 (some b) → K (a.put none undef) w2) :
    if Region.wanted oi (yielded ops a.tmps) = true then Oper.wp P oi a w K Q else K (a.put none undef) w := by
  rw [if_pos hw]
  obtain ⟨w2, hrun, r1, r2⟩ := hback w v' zs' hgr hown' hl' hloc
  unfold Oper.wp
  simp [execOp, hop, hm, hx, hv, hrun, Result.andThen]
  show K (a.put oi.dst undef) w2
  rw [hN]
  exact hK w2 r1 r2
end Go.Proofs.YtdfndbegifdejaaDoorMine
namespace Go.Proofs.YtdfndbegifdejaaDoor.GD
set_option linter.unusedVariables false
set_option linter.unusedSimpArgs false
open Go.RowKit Go.Proofs.YtdfndbegifdejaaDoorW.PrintWords Go.Proofs.YtdfndbegifdejaaDoorW.PrintLast Go.Proofs.YtdfndbegifdejaaDoorW.PrintMore Go.Proofs.YtdfndbegifdejaaDoorMine Go.ChangeShapes

theorem Net1.calls (x : S32) (w : World) : Calls Tryd.prog 34 #[.agg #[.int .i64 x.f0, .string x.f1, .int .i64 x.f2]] w fun e w' => e = .returned (.agg #[.int .i64 x.f0, .string x.f1]) ∧ Below w.heap.size w w' :=
  flow_Net_1.calls x.f0 x.f1 x.f2 x.f0 x.f1 w rfl
theorem Net3.calls (k : Pl) (s : Int) (w : World) : Calls Tryd.prog 39 #[.agg #[.int .i64 k.d, .string k.c], .int .i64 s] w fun e w' => e = .returned (.agg #[.int .i64 k.d, .string k.c, .int .i64 s]) ∧ Below w.heap.size w w' :=
  flow_Net_3.calls k.d k.c s k.d k.c s w rfl
theorem info70 : (Tryd.prog.info? 70).map (fun i => (i.zero, i.size, i.bytes)) = some (some (.agg #[.int .i64 0, .string ⟨#[]⟩]), 2, 24) := by kernel_rfl
/-- The keys that have come so far. -/
structure KeysP (D : DataW Unit) (left : Lit → Bool) (ks : List Pl) : Prop where
  nodup : ks.Nodup
  ok : ∀ c ∈ ks, PlOk c
  mem : ∀ c, PlOk c → (c ∈ ks ↔ (Maps.has D (plit c) = true ∧ left (plit c) = false))
theorem keysP_start (D : DataW Unit) : KeysP D (Maps.has D) [] := ⟨List.nodup_nil, by simp, fun c _ => by simp⟩
theorem keysP_step {D : DataW Unit} {left : Lit → Bool} {ks : List Pl} (h : KeysP D left ks) (x : Pl) (ho : PlOk x) (hl : left (plit x) = true) (hh : Maps.has D (plit x) = true) :
    KeysP D (fun z => left z && !z.sameKey (plit x)) (ks ++ [x]) := by
  have hx : x ∉ ks := fun hm => by have := ((h.mem x ho).1 hm).2; rw [hl] at this; cases this
  refine ⟨?_, ?_, fun c hc => ?_⟩
  · rw [List.nodup_append]
    exact ⟨h.nodup, by simp, fun a ha b hb => by rw [List.mem_singleton.1 hb]; intro e; subst e; exact hx ha⟩
  · intro c hc
    rcases List.mem_append.1 hc with hc | hc
    · exact h.ok c hc
    · rw [List.mem_singleton.1 hc]; exact ho
  · rw [List.mem_append, List.mem_singleton, h.mem c hc]
    by_cases e : c = x
    · subst e
      have : (plit c).sameKey (plit c) = true := WideAt.sameKey_self (plit_key c)
      simp [this, hh]
    · have : (plit c).sameKey (plit x) = false := Maps.sameKey_ne (fun e2 => e (plit_inj hc ho e2))
      simp [this, e]
def WfP (l : List S32) : Prop := ∀ x ∈ l, PlOk ⟨x.f0, x.f1⟩ ∧ (Lit.int .i64 x.f2).wf = true
theorem pl_ne32 : ∀ q, q ∈ 70 :: k70.E → q ≠ 32 := by
  intro q hq
  have : k70.E = [] := rfl
  rw [this] at hq
  have : q = 70 := by simpa using hq
  omega
theorem keyOf82_of {x : Pl} {kl : Lit} (h : keyOf Tryd.prog 70 (plV x) = some kl) : PlOk x ∧ kl = plit x := by
  obtain ⟨k, e, ho, hl⟩ := keyOf82_inv h
  unfold plV at e
  cases x; cases k
  simp at e
  obtain ⟨rfl, rfl⟩ := e
  exact ⟨ho, hl⟩
/-- What is added up of each place. -/
noncomputable def nets (l0 : List S32) (ks : List Pl) : List S32 := ks.map (fun k => ⟨k.d, k.c, (sumF 0 (grp placeL (plit k) l0)).1⟩)
/-- The places, each once, in order. -/
structure PlaceList (l0 : List S32) (ks : List Pl) : Prop where
  nodup : ks.Nodup
  ok : ∀ c ∈ ks, PlOk c
  mem : ∀ c, PlOk c → (c ∈ ks ↔ ∃ x ∈ l0, placeL x = plit c)
  sorted : ks.Pairwise (fun a b => pless b a = false)
/-- The answer of gather. -/
def NetGood (l0 : List S32) (ts : List S32) (f : Int) : Prop :=
  ∃ ks, PlaceList l0 ks ∧ ((f = 0 ∧ ts = nets l0 ks ∧ ∀ k ∈ ks, (sumF 0 (grp placeL (plit k) l0)).2 = 0) ∨ (f = 1 ∧ ts = [] ∧ ∃ k ∈ ks, (sumF 0 (grp placeL (plit k) l0)).2 = 1))
end Go.Proofs.YtdfndbegifdejaaDoor.GD
namespace Go.Proofs.YtdfndbegifdejaaDoor.GD
set_option linter.unusedVariables false
set_option linter.unusedSimpArgs false
open Go.RowKit Go.Proofs.YtdfndbegifdejaaDoorW.PrintWords Go.Proofs.YtdfndbegifdejaaDoorW.PrintLast Go.Proofs.YtdfndbegifdejaaDoorW.PrintMore Go.Proofs.YtdfndbegifdejaaDoorMine Go.ChangeShapes

set_option maxHeartbeats 4000000 in
set_option maxRecDepth 100000 in
theorem gatherP.calls (A0 : Option Addr) (c0 : Nat) (l0 : List S32) (w : World) (hr0 : Kd.C k32 w A0 l0.length l0) (hc0 : l0.length ≤ c0) (hsz : l0.length * 32 ≤ 140737488351232) (hwf : WfP l0) :
    Calls Tryd.prog 33 #[.slice A0 l0.length c0, .func (.func 34) #[] #[], .func (.func 35) #[] #[], .func (.func 39) #[] #[]] w fun e w' => ∃ (v : Value) (ts : List S32) (f : Int), e = .returned (.tuple #[v, .int .i64 f]) ∧ Kd.R k32 32 w' w.heap.size (fun _ => True) v ts ∧ Below w.heap.size w w' ∧ ts.length ≤ l0.length ∧ NetGood l0 ts f := by
  have HR0 := Aside0.mk hr0
  have HC0 := Aside0.mk hc0
  have HWF := Aside0.mk hwf
  have hmm := @run_makeMap Tryd.prog
  have hu70 := Tryd.underlying70
  clear hr0 hc0 hwf
  obtain ⟨i0, hi, hz0, hz1, hz2⟩ := info_parts info3
  go_enter Tryd.func33, Tryd.ntmps33
  go_wp2
  go_loopg [24] l0.length (fun kx s24 wr => ∃ (i : Nat), s24 = .int .i64 i ∧ i ≤ l0.length ∧ l0.length - i ≤ kx ∧ Aside0 (∃ D : DataW Unit, wr.ownsGroups Tryd.prog 70 (w.heap.size + 1) 3 .i64 w.heap.size i D ∧ Says placeL D (l0.take i)) ∧ Aside0 (Below w.heap.size w wr))
  case atStart => exact ⟨0, rfl, Nat.zero_le _, by omega, Aside0.mk ⟨_, World.ownsGroups_made _ _ _ _ _, says_nil _⟩, Aside0.mk (below_alloc (Below.refl _ _) _)⟩
  case round =>
    obtain ⟨i, rfl, hi2, hkx, HD, HB⟩ := hrel
    obtain ⟨wo, rfl⟩ : ∃ wo : World, wo = wr := ⟨_, rfl⟩
    by_cases hlt : i < l0.length
    · have hltz : (i : Int) < (l0.length : Int) := by omega
      obtain ⟨ad, hA, hx0, hx1, hx2⟩ := at_T32 (Kd.C_below HR0.out HB.out) (i : Int) (by omega) hltz
      rw [Int.toNat_natCast] at hx0 hx1 hx2
      have hmem : rd_T32 l0 (i : Int) ∈ l0 := by simp [rd_T32, hlt]
      have HWX := Aside0.mk (HWF.out _ hmem)
      have HTK := Aside0.mk (show l0.take (i + 1) = l0.take i ++ [rd_T32 l0 (i : Int)] by rw [List.take_succ_eq_append_getElem hlt]; simp [rd_T32, hlt])
      generalize hxx : rd_T32 l0 (i : Int) = x at *
      clear hmem hxx
      subst hA
      go_wp2_with fail
      refine (Net1.calls x _).mono ?_
      rintro e w1 ⟨rfl, hb1⟩
      have hbx : Below (wo.alloc (Obj.cells #[.int .i64 x.f0, .string x.f1, .int .i64 x.f2] 32 (0, 0))).heap.size (wo.alloc (Obj.cells #[.int .i64 x.f0, .string x.f1, .int .i64 x.f2] 32 (0, 0))) w1 := hb1
      have HB1 := Aside0.mk hbx
      have HB2 := Aside0.mk (HB.out.trans (Below.mono ((below_alloc (Below.refl wo.heap.size wo) _).trans (hbx.mono (by simp))) HB.out.size))
      have HW1 := Aside0.mk (show wo.heap.size < w1.heap.size by have := hbx.size; simp at this; omega)
      have BK12 := Aside0.mk (blk_below (blk_new wo (.cells #[.int .i64 x.f0, .string x.f1, .int .i64 x.f2] 32 (0, 0))) hbx)
      clear hb1 hbx
      go_wp2_with fail
      obtain ⟨D, hown, hsay⟩ := HD.out
      have HSY := Aside0.mk hsay
      have hkey : keyOf Tryd.prog 70 (.agg #[.int .i64 x.f0, .string x.f1]) = some (placeL x) := keyOf82 ⟨x.f0, x.f1⟩ HWX.out.1
      obtain ⟨v, zs, hlk0, hat, hoi, hzl, hback⟩ := hown.at law82 (t := 92) Tryd.underlying92 (zero74 _) (by unfold maxLen; omega) hkey
      have HZS : Aside0 (zs = grp placeL (placeL x) (l0.take i)) := Aside0.mk (says_at HSY.out (plit_key _) hat hoi)
      have hbz : w.heap.size < wo.heap.size := by
        obtain ⟨es, clock, h3, _⟩ := hown
        exact (Array.getElem?_eq_some_iff.1 h3).1
      have hvm : v.ownBlock ≠ some w.heap.size := fun e => by have := (hoi.1.lt _ e).1; omega
      have hvb12 : v.ownBlock ≠ some wo.heap.size := fun e => by have := (hoi.1.lt _ e).2; omega
      have hw1z := HW1.out
      have hvb13 : v.ownBlock ≠ some w1.heap.size := fun e => by have := (hoi.1.lt _ e).2; omega
      have hlk : ∀ w' : World, wo.grownBy w' v.ownBlock → (Instr.lookup 92 (.map (some w.heap.size)) (.agg #[.int .i64 x.f0, .string x.f1]) false).run Tryd.prog w' = .ok v w' :=
        fun w' hg => lookup_stays hown law82 Tryd.underlying92 zero74 hkey (hg.block _ hbz (fun e => hvm e.symm)) hlk0
      have hb2 : Below wo.heap.size wo (w1.alloc (.cells #[.int .i64 x.f0, .string x.f1] 70 (0, 0))).drew := ((below_alloc (below_alloc (Below.refl wo.heap.size wo) _ |>.trans (HB1.out.mono (by simp))) _)).drew
      have HGB := Aside0.mk (grown_of_below hb2 v.ownBlock)
      have HOI := Aside0.mk (hoi.kept (grown_of_below hb2 none) (by cases v.ownBlock <;> simp))
      have BK13 := Aside0.mk (blk_drew (blk_new w1 (.cells #[.int .i64 x.f0, .string x.f1] 70 (0, 0))))
      have n0_ := Aside0.mk (blk_drew (blk_alloc BK12.out (.cells #[.int .i64 x.f0, .string x.f1] 70 (0, 0))))
      have hw2z : wo.heap.size < (w1.alloc (.cells #[.int .i64 x.f0, .string x.f1] 70 (0, 0))).drew.heap.size := by have := HGB.out.size; have := blk_lt BK13.out; omega
      clear BK12 hat hlk0 hown HD hb2
      have BK12 := n0_
      clear n0_
      refine start_ (n := 10) (S := fun w' => wo.grownBy w' v.ownBlock ∧ w'.cell? ⟨w1.heap.size, 0, none⟩ = some (.int .i64 x.f0) ∧ w'.cell? ⟨w1.heap.size, 1, none⟩ = some (.string x.f1) ∧ w'.cell? ⟨wo.heap.size, 2, none⟩ = some (.int .i64 x.f2)) (ds := [9]) #[false, false, false, false, false, false, false, false, false, false] (by kernel_rfl) rfl rfl ⟨HGB.out, (blk_cell BK13.out 0).trans rfl, (blk_cell BK13.out 1).trans rfl, (blk_cell BK12.out 2).trans rfl⟩ (fun hHeld => ?_)
      generalize (w1.alloc (.cells #[.int .i64 x.f0, .string x.f1] 70 (0, 0))).drew = w2 at HGB HOI BK13 BK12 hHeld hw2z ⊢
      refine pure_ (i := 0) (N := some 31) (v := ?_) (a' := ?_) #[true, false, false, false, false, false, false, false, false, false] rfl rfl (by kernel_rfl) (fun _ _ _ h => h) (Or.inl ⟨by rfl, ?_⟩) ?_ ?_
      rotate_left
      · intro w'
        go_simp
        with_reducible rfl
      rotate_left
      · simp only [Act.put, List.setIfInBounds_toArray, List.set_cons_zero, List.set_cons_succ, i64_w, i32_w]
        rfl
      refine pure_ (i := 2) (N := some 33) (v := ?_) (a' := ?_) #[true, false, true, false, false, false, false, false, false, false] rfl rfl (by kernel_rfl) (fun _ _ _ h => h) (Or.inl ⟨by rfl, ?_⟩) ?_ ?_
      rotate_left
      · intro w'
        go_simp
        with_reducible rfl
      rotate_left
      · simp only [Act.put, List.setIfInBounds_toArray, List.set_cons_zero, List.set_cons_succ, i64_w, i32_w]
        rfl
      refine pure_ (i := 5) (N := some 36) (v := ?_) (a' := ?_) #[true, false, true, false, false, true, false, false, false, false] rfl rfl (by kernel_rfl) (fun _ _ _ h => h) (Or.inl ⟨by rfl, ?_⟩) ?_ ?_
      rotate_left
      · intro w'
        go_simp
        with_reducible rfl
      rotate_left
      · simp only [Act.put, List.setIfInBounds_toArray, List.set_cons_zero, List.set_cons_succ, i64_w, i32_w]
        rfl
      refine take_ (i := 1) (N := some 32) (v := ?_) (a' := ?_) #[true, true, true, false, false, true, false, false, false, false] rfl rfl (by kernel_rfl) (fun _ _ _ h => h) (Or.inl ⟨by rfl, ?_⟩) hHeld ?_ ?_
      rotate_left
      · rintro w' ⟨s0, s1, s2, s3⟩
        go_simp
        with_reducible rfl
      rotate_left
      · simp only [Act.put, List.setIfInBounds_toArray, List.set_cons_zero, List.set_cons_succ, i64_w, i32_w]
        rfl
      refine take_ (i := 3) (N := some 34) (v := ?_) (a' := ?_) #[true, true, true, true, false, true, false, false, false, false] rfl rfl (by kernel_rfl) (fun _ _ _ h => h) (Or.inl ⟨by rfl, ?_⟩) hHeld ?_ ?_
      rotate_left
      · rintro w' ⟨s0, s1, s2, s3⟩
        go_simp
        with_reducible rfl
      rotate_left
      · simp only [Act.put, List.setIfInBounds_toArray, List.set_cons_zero, List.set_cons_succ, i64_w, i32_w]
        rfl
      refine take_ (i := 6) (N := some 37) (v := ?_) (a' := ?_) #[true, true, true, true, false, true, true, false, false, false] rfl rfl (by kernel_rfl) (fun _ _ _ h => h) (Or.inl ⟨by rfl, ?_⟩) hHeld ?_ ?_
      rotate_left
      · rintro w' ⟨s0, s1, s2, s3⟩
        go_simp
        with_reducible rfl
      rotate_left
      · simp only [Act.put, List.setIfInBounds_toArray, List.set_cons_zero, List.set_cons_succ, i64_w, i32_w]
        rfl
      refine take_ (i := 4) (N := some 35) (v := ?_) (a' := ?_) #[true, true, true, true, true, true, true, false, false, false] rfl rfl (by kernel_rfl) (fun _ _ _ h => h) (Or.inl ⟨by rfl, ?_⟩) hHeld ?_ ?_
      rotate_left
      · rintro w' ⟨s0, s1, s2, s3⟩
        have hrun_ := hlk w' s0
        go_simp
        with_reducible rfl
      rotate_left
      · simp only [Act.put, List.setIfInBounds_toArray, List.set_cons_zero, List.set_cons_succ, i64_w, i32_w]
        rfl
      refine one_ (i := 7) (N := some 38) #[true, true, true, true, true, true, true, true, false, false] rfl rfl (by kernel_rfl) (by decide) (fun K hK => ?_)
      refine value_ (w1 := ?_) (v := ?_) (by rfl) rfl ?_ ?_
      rotate_left 2
      · go_simp
        constructor
        · rfl
        · rfl
      have n0_ := Aside0.mk (HGB.out.trans (World.grownBy_alloc w2 (.cells #[.int .i64 x.f2] 3 (0, 0)) v.ownBlock))
      have n1_ := Aside0.mk (blk_alloc BK13.out (.cells #[.int .i64 x.f2] 3 (0, 0))); have n2_ := Aside0.mk (blk_alloc BK12.out (.cells #[.int .i64 x.f2] 3 (0, 0)))
      have HOI2 := Aside0.mk (HOI.out.alloc (.cells #[.int .i64 x.f2] 3 (0, 0)))
      clear HGB BK13 BK12
      have HGB := n0_; have BK13 := n1_; have BK12 := n2_
      clear n0_ n1_ n2_
      refine hK.out _ _ ⟨HGB.out, (blk_cell BK13.out 0).trans rfl, (blk_cell BK13.out 1).trans rfl, (blk_cell BK12.out 2).trans rfl⟩ (fun hHeld => ?_)
      clear hK K
      refine norm_ (a' := ?_) ?_ ?_
      rotate_left
      · show Act.put _ (some 38) _ = _
        simp only [Act.put, List.setIfInBounds_toArray, List.set_cons_zero, List.set_cons_succ, i64_w, i32_w]
        rfl
      refine one_ (i := 8) (N := some 39) #[true, true, true, true, true, true, true, true, true, false] rfl rfl (by kernel_rfl) (by decide) (fun K hK => ?_)
      refine append_ (by rfl) rfl _ _ 93 rfl (w.heap.size + 1) 3 i0 (.int .i64 0) 1 8 Tryd.underlying93 hi hz0 hz1 hz2 rfl (by decide) _ _ _ rfl HOI2.out.1 ⟨w2.heap.size, 0, none⟩ 1 1 [.int .i64 x.f2] rfl rfl (cell_one_new _ _ _) (ints_oneCell .i64 [x.f2]) (by unfold maxLen; omega) (by omega) (by simp; omega) ?_
      intro v' w3 hown' hgrow hloc
      have n0_ := Aside0.mk (HGB.out.trans hgrow)
      have n1_ := Aside0.mk ((hgrow.block _ (blk_lt BK13.out) (fun e => hvb13 e.symm)).trans BK13.out); have n2_ := Aside0.mk ((hgrow.block _ (blk_lt BK12.out) (fun e => hvb12 e.symm)).trans BK12.out)
      have HLOC := Aside0.mk (show v'.ownBlock = v.ownBlock ∨ ∃ g, v'.ownBlock = some g ∧ wo.heap.size ≤ g from hloc.imp id (fun h => ⟨_, h, by simp; omega⟩))
      have HOI3 := Aside0.mk (HOI.out.appended hown' HWX.out.2)
      clear HGB BK13 BK12 hown' hgrow hloc
      have HGB := n0_; have BK13 := n1_; have BK12 := n2_
      clear n0_ n1_ n2_
      refine hK.out _ _ ⟨HGB.out, (blk_cell BK13.out 0).trans rfl, (blk_cell BK13.out 1).trans rfl, (blk_cell BK12.out 2).trans rfl⟩ (fun hHeld => ?_)
      clear hK K
      refine norm_ (a' := ?_) ?_ ?_
      rotate_left
      · show Act.put _ (some 39) _ = _
        simp only [Act.put, List.setIfInBounds_toArray, List.set_cons_zero, List.set_cons_succ, i64_w, i32_w]
        rfl
      refine last_ (i := 9) (N := none) #[true, true, true, true, true, true, true, true, true, true] rfl rfl (by kernel_rfl) (by decide) (fun K hK => ?_)
      refine mapUpdate_ (by rfl) rfl _ _ _ 92 rfl v' hback rfl rfl rfl HGB.out HOI3.out (by simp; omega) HLOC.out ?_
      intro w4 hown3 hgrow3
      have HO4 := Aside0.mk hown3
      have HG4 := Aside0.mk hgrow3
      clear hown3 hgrow3
      refine hK.out _ _ ?_
      clear hK K
      refine norm_ (a' := ?_) ?_ ?_
      rotate_left
      · show Act.put _ (none) _ = _
        simp only [Act.put, List.setIfInBounds_toArray, List.set_cons_zero, List.set_cons_succ, i64_w, i32_w]
        rfl
      refine done_ (by kernel_rfl) ?_
      go_wp2_with fail
      have HB3 := Aside0.mk (Below.groups HB.out hoi HGB.out HG4.out (by omega) (by omega) (Nat.le_refl _))
      have HOW := Aside0.mk (show ∃ D : DataW Unit, w4.ownsGroups Tryd.prog 70 (w.heap.size + 1) 3 .i64 w.heap.size (i + 1) D ∧ Says placeL D (l0.take (i + 1)) from ⟨_, HO4.out, by
        rw [HTK.out]
        refine says_step HSY.out (fun y => plit_key _) x _ ?_
        have h1 := HOI3.out.datum_pos (H := Unit) (by simp)
        rw [h1, HZS.out, gd_pos (by simp)]⟩)
      clear hback hoi hzl HGB BK13 BK12 HOI HOI2 HOI3 HLOC HO4 HG4 hlk hvm hvb12 hvb13
      go_roundg (l0.length - (i + 1))
      case measure => omega
      case rel => exact ⟨i + 1, by go_num, by omega, Nat.le_refl _, HOW, HB3⟩
    · have hltz : ¬ (i : Int) < (l0.length : Int) := by omega
      obtain rfl : i = l0.length := by omega
      rw [List.take_length] at HD
      obtain ⟨D, hown, hsay⟩ := HD.out
      have HSY := Aside0.mk hsay
      have HOG := Aside0.mk hown
      have hmap : wo.ownsMap Tryd.prog 70 (rowElem wo (w.heap.size + 1) 3 .i64) w.heap.size l0.length D := by
        obtain ⟨es, clock, h1, h2, h3, h4, _⟩ := hown
        exact ⟨es, clock, h1, h2, h3, h4⟩
      clear hown hsay HD hi2 hkx hltz hlt
      have hshun : wo.Shuns w.heap.size (fun g => wo.heap.size ≤ g) := by
        obtain ⟨es, clock, h1, F, _⟩ := HOG.out
        intro es' clock' h2 y hy g hg
        rw [h1] at h2
        cases h2
        obtain ⟨z, hz⟩ := F.reads y hy
        obtain ⟨u, hu, _⟩ := WideElems.rd_val hz
        obtain ⟨zs, ho, _⟩ := rowElem_inv hu
        have := (ho.1.lt g hg).2
        omega
      have hdl : Maps.size D ≤ l0.length := by
        obtain ⟨es, clock, h1, F, h3, rfl, _⟩ := HOG.out
        rw [Maps.size_eq, length_sorted]
        simpa using h3
      have hbz : w.heap.size < wo.heap.size := by
        obtain ⟨es, clock, h3, _⟩ := HOG.out
        exact (Array.getElem?_eq_some_iff.1 h3).1
      have HSH := Aside0.mk hshun
      clear hshun
      go_wp2_with (at_range; refine wpList_range_own _ rfl _ 92 rfl 70 93 law82 Tryd.underlying92 _ w.heap.size l0.length D rfl hmap ?_; intro w1 hrg hgr hsz1)
      have HRG := Aside0.mk hrg
      have HOG1 := Aside0.mk (HOG.out.kept hgr (by simp) (fun es clock hb x hx => by cases x.val.ownBlock <;> simp))
      have HSH1 := Aside0.mk (HSH.out.kept hgr hbz (by simp))
      have HB1 := Aside0.mk (HB.out.grown hgr HB.out.size (fun j hj => by cases hj))
      have hw1z : w1.heap.size = wo.heap.size + 1 := hsz1
      clear hrg hgr HOG HSH hmap hsz1
      generalize wo.heap.size = r at *
      have hw1a : r < w1.heap.size := by omega
      clear hw1z
      go_frame
      go_loopg [14] (Maps.size D) (fun kx s14 wr => ∃ (left : Lit → Bool) (cnt : Nat) (ks : List Pl), cnt ≤ kx ∧ ks.length + cnt ≤ l0.length ∧ Aside0 (wr.ranges Tryd.prog 70 (rowElem wo (w.heap.size + 1) 3 .i64) w.heap.size r l0.length D left cnt) ∧ Aside0 (k70.R 70 wr (r + 1) (fun _ => True) s14 ks) ∧ Aside0 (KeysP D left ks) ∧ Aside0 (wr.ownsGroups Tryd.prog 70 (w.heap.size + 1) 3 .i64 w.heap.size l0.length D) ∧ Aside0 (wr.Shuns w.heap.size (fun g => r ≤ g)) ∧ Aside0 (Below w.heap.size w wr ∧ r < wr.heap.size))
      case atStart => exact ⟨_, _, [], Nat.le_refl _, by simpa using hdl, HRG, Aside0.mk (Kd.R_nil _ _ _ _ _), Aside0.mk (keysP_start D), HOG1, HSH1, Aside0.mk ⟨HB1.out, hw1a⟩⟩
      case round =>
        clear HRG HOG1 HSH1 HB1
        obtain ⟨left, cnt, ks, hcnt, hkl, HRG, HK, HKS, HOG, HSH, HB1⟩ := hrel
        obtain ⟨wi, rfl⟩ : ∃ wi : World, wi = wr := ⟨_, rfl⟩
        have HRR := HRG.out
        go_wp2_with (at_next; refine wpList_next_ranges _ rfl _ rfl 70 law82 (rowElem wo (w.heap.size + 1) 3 .i64) plV (id : Value → Value) ?_ (fun v y _ => ⟨v, rfl⟩) w.heap.size r l0.length D left cnt rfl HRR ?_ ?_)
        · intro key kl hk
          obtain ⟨k, rfl, _⟩ := keyOf82_inv hk
          exact ⟨k, rfl⟩
        · -- nothing is left
          intro hc0 hl0
          have HKL : Aside0 (∀ c, PlOk c → (c ∈ ks ↔ ∃ x ∈ l0, placeL x = plit c)) := Aside0.mk (fun c hc => by
            rw [HKS.out.mem c hc, hl0, HSY.out.has _ (plit_key c)]; simp)
          have hks0 : ks.length ≤ l0.length := by omega
          clear hc0 hl0 HRR HRG hkl hcnt
          obtain ⟨Ak, ck, rfl⟩ := Kd.R_slice HK.out
          go_upto_region 14 with (go_at_call 54; refine (sortPls_row wi (r + 1) (fun _ => True) (.slice Ak ks.length ck) ks HK.out (by omega)).mono ?_; rintro e w2 ⟨rfl, m, hml, hR, hg, hperm, hsrt⟩; have HM := Aside0.mk hR; have HG2 := Aside0.mk hg; have HP := Aside0.mk hperm; have HS := Aside0.mk hsrt; have HML := Aside0.mk hml; clear hR hg hperm hsrt hml)
          have hbs : w.heap.size < wi.heap.size ∧ r < wi.heap.size ∧ w.heap.size < r := by
            obtain ⟨es, clock, h3, _⟩ := HOG.out
            exact ⟨(Array.getElem?_eq_some_iff.1 h3).1, HB1.out.2, hbz⟩
          have hrow : ∀ j, (Value.slice Ak ks.length ck).ownBlock = some j → r + 1 ≤ j := fun j hj => Kd.R_base HK.out j hj
          have HOG2 := Aside0.mk (HOG.out.kept HG2.out (fun e => by have := hrow _ e.symm; omega) (HSH.out.rowsOff (fun j hj => by have := hrow _ hj; omega)))
          have HSH2 := Aside0.mk (HSH.out.kept HG2.out hbs.1 (fun e => by have := hrow _ e.symm; omega))
          have HB2 := Aside0.mk (show Below w.heap.size w w2 ∧ r < w2.heap.size from ⟨HB1.out.1.grown HG2.out (by omega) (fun j hj => by have := hrow _ hj; omega), by have := HG2.out.size; omega⟩)
          have HKEY : Aside0 (PlaceList l0 m) := Aside0.mk ⟨(HP.out.nodup_iff).2 HKS.out.nodup, fun c hc => HKS.out.ok c (HP.out.mem_iff.1 hc), fun c hc => by rw [HP.out.mem_iff]; exact HKL.out c hc, HS.out⟩
          clear HOG HSH HB1 HKS HKL HP HS HK HG2 hrow
          go_wp2
          go_loopg [16, 56] ks.length (fun kx s16 s56 wr => ∃ (j : Nat), s56 = .int .i64 j ∧ j ≤ ks.length ∧ ks.length - j ≤ kx ∧ Aside0 (k32.R 32 wr (r + 1) (fun _ => True) s16 (nets l0 (m.take j))) ∧ Aside0 (∀ k ∈ m.take j, (sumF 0 (grp placeL (plit k) l0)).2 = 0) ∧ Aside0 (k70.R 70 wr (r + 1) (fun _ => True) (.slice Ak ks.length ck) m) ∧ Aside0 (wr.ownsGroups Tryd.prog 70 (w.heap.size + 1) 3 .i64 w.heap.size l0.length D) ∧ Aside0 (wr.Shuns w.heap.size (fun g => r ≤ g)) ∧ Aside0 (Below w.heap.size w wr ∧ r < wr.heap.size))
          case atStart => exact ⟨0, rfl, Nat.zero_le _, by omega, Aside0.mk (Kd.R_nil _ _ _ _ _), Aside0.mk (by simp), HM, HOG2, HSH2, HB2⟩
          case round =>
            clear HM HOG2 HSH2 HB2
            obtain ⟨j, rfl, hj, hkx, HO, HZ, HM, HOG, HSH, HB⟩ := hrel
            obtain ⟨wl, rfl⟩ : ∃ wl : World, wl = wr := ⟨_, rfl⟩
            by_cases hlt : j < ks.length
            · have hltz : (j : Int) < (ks.length : Int) := by omega
              have hjm : j < m.length := by rw [HML.out]; exact hlt
              have hM := HM.out
              rw [← HML.out] at hM
              obtain ⟨ad, hA, hx0, hx1⟩ := at_T70 (Kd.R_reads' hM).2.2 (j : Int) (by omega) (by omega)
              rw [Int.toNat_natCast, show rd_T70 m (j : Int) = m[j] by simp [rd_T70, hjm]] at hx0 hx1
              have hkm : m[j] ∈ m := List.getElem_mem hjm
              have hok : PlOk m[j] := HKEY.out.ok _ hkm
              have HTK := Aside0.mk (show m.take (j + 1) = m.take j ++ [m[j]] from List.take_succ_eq_append_getElem hjm)
              have HKM := Aside0.mk hkm
              generalize m[j] = key at *
              clear hkm hM
              subst hA
              have hkey : keyOf Tryd.prog 70 (.agg #[.int .i64 key.d, .string key.c]) = some (plit key) := keyOf82 key hok
              obtain ⟨sm, ft, hsf⟩ : ∃ sm ft, sumF 0 (grp placeL (plit key) l0) = (sm, ft) := ⟨_, _, rfl⟩
              have HSF := Aside0.mk hsf
              have hft := sumF_two (grp placeL (plit key) l0) 0
              rw [hsf] at hft
              have HFT := Aside0.mk hft
              clear hsf hft hok
              have hba : Below wl.heap.size wl (wl.alloc (.cells #[.int .i64 key.d, .string key.c] 70 (0, 0))) := below_alloc (Below.refl _ _) _
              have HOa := Aside0.mk (Kd.R_below HO.out hba)
              have HMa := Aside0.mk (Kd.R_below HM.out hba)
              have HOGa := Aside0.mk (HOG.out.kept (grown_of_below hba none) (by simp) (fun es clock hb x hx => by cases x.val.ownBlock <;> simp))
              have HSHa := Aside0.mk (HSH.out.kept (grown_of_below hba none) (by have := HB.out.2; omega) (by simp))
              have HBa := Aside0.mk (show Below w.heap.size w (wl.alloc (.cells #[.int .i64 key.d, .string key.c] 70 (0, 0))) ∧ r < (wl.alloc (.cells #[.int .i64 key.d, .string key.c] 70 (0, 0))).heap.size from ⟨HB.out.1.trans (hba.mono (by have := HB.out.2; omega)), by have := HB.out.2; simp; omega⟩)
              have BKk := Aside0.mk (blk_new wl (.cells #[.int .i64 key.d, .string key.c] 70 (0, 0)))
              clear HO HM HOG HSH HB hba
              have hown1 := HOGa.out
              go_upto_region 19 with (first | (at_lookup; refine wpList_lookup_groups _ rfl _ _ 92 rfl 70 93 3 .i64 law82 Tryd.underlying92 (zero74 _) (w.heap.size + 1) w.heap.size l0.length D rfl hown1 (by unfold maxLen; omega) _ _ rfl hkey ?_; intro v zs hat hoi hzl hback; obtain ⟨Az, cz, rfl⟩ := Kd.R_slice (Kd.R_of_own (enc := Value.int .i64) (h1 := fun _ => rfl) (ok := fun _ => True) hoi.1 (fun _ _ => trivial)); have hzs := says_at HSY.out (plit_key _) hat hoi; have HRZ := Aside0.mk (Kd.R_of_own (enc := Value.int .i64) (h1 := fun _ => rfl) (ok := fun _ => True) hoi.1 (fun _ _ => trivial)); have HZS := Aside0.mk hzs; clear hat hown1 hback hoi hzs) | (go_at_call 55; obtain ⟨kk, hkk⟩ := numSum_f zs (by omega); refine (num_Sum.calls kk Az cz zs sm ft _ (Kd.R_reads' HRZ.out).2.2 (Kd.R_reads' HRZ.out).2.1 (by rw [hkk, HZS.out, HSF.out])).mono ?_; clear hkk kk; rintro e w3 ⟨rfl, hd⟩; have HD3 := Aside0.mk hd.below; clear hd))
              have HBB := Aside0.mk (HBa.out.1.trans (HD3.out.mono (by have := HBa.out.2; omega)))
              rcases HFT.out with h0 | h1
              · obtain rfl : ft = 0 := h0
                have HO3 := Aside0.mk (Kd.R_below HOa.out HD3.out)
                have HM3 := Aside0.mk (Kd.R_below HMa.out HD3.out)
                have HOG3 := Aside0.mk (HOGa.out.kept (grown_of_below HD3.out none) (by simp) (fun es clock hb x hx => by cases x.val.ownBlock <;> simp))
                have HSH3 := Aside0.mk (HSHa.out.kept (grown_of_below HD3.out none) (by have := HBa.out.2; omega) (by simp))
                have hr3 : r < w3.heap.size := by have := HD3.out.size; have := HBa.out.2; omega
                have hlen : (nets l0 (m.take j)).length ≤ l0.length := by unfold nets; rw [List.length_map, List.length_take]; omega
                have hk3 := blk_below BKk.out HD3.out
                have hkd : w3.cell? ⟨wl.heap.size, 0, none⟩ = some (.int .i64 key.d) := (blk_cell hk3 0).trans rfl
                have hkc : w3.cell? ⟨wl.heap.size, 1, none⟩ = some (.string key.c) := (blk_cell hk3 1).trans rfl
                clear HOa HMa HOGa HSHa HFT HRZ HZS hx0 hx1 hkey hk3 BKk
                go_wp2_with (first | (go_at_call 39; refine (Net3.calls key sm _).mono ?_; rintro e w4 ⟨rfl, hb4⟩; have HB4 := Aside0.mk hb4; have HO4 := Aside0.mk (Kd.R_below HO3.out HB4.out); have hwz4 : r + 1 ≤ w4.heap.size := (by have := hb4.size; omega); clear hb4) | ((with_reducible refine gate_builtin (b := .append) (xs := #[.tmp 70, .tmp 75]) rfl ?_); at_builtin; refine Kd.R_append k32 (w0 := w4) (r + 1) rfl (.tmp 70) (.tmp 75) 22 32 (.agg #[.int .i64 0, .string ⟨#[]⟩, .int .i64 0]) 32 rfl Tryd.underlying22 info32 rfl (by decide) (by omega) u16 (nets l0 (m.take j)) ⟨key.d, key.c, sm⟩ [.int .i64 key.d, .string key.c, .int .i64 sm] (fun _ => True) (fun _ => False) rfl rfl (k32_mkM _ _ _ ⟨key.d, key.c, sm⟩) (fun _ h => h.elim) (fun _ _ => trivial) HO4.out (Below.refl _ _) hwz4 (by omega) ?_; intro v' w5 ho hb hg hat2; have HO5 := Aside0.mk ho; have HG5 := Aside0.mk hg; clear ho hb hg hat2))
                have hrow : ∀ q, u16.ownBlock = some q → r + 1 ≤ q := fun q hq => Kd.R_base HO4.out q hq
                have hbs : w.heap.size < w3.heap.size := by omega
                have HG4 := Aside0.mk (grown_of_below HB4.out none)
                have HSH4 := Aside0.mk (HSH3.out.kept HG4.out hbs (by simp))
                have HOG5 := Aside0.mk ((HOG3.out.kept HG4.out (by simp) (fun es clock hb x hx => by cases x.val.ownBlock <;> simp)).kept HG5.out (fun e => by have := hrow _ e.symm; omega) (HSH4.out.rowsOff (fun q hq => by have := hrow _ hq; omega)))
                have HSH5 := Aside0.mk (HSH4.out.kept HG5.out (by omega) (fun e => by have := hrow _ e.symm; omega))
                have HB5 := Aside0.mk (show Below w.heap.size w w5 ∧ r < w5.heap.size from ⟨(HBB.out.trans (HB4.out.mono (by omega))).grown HG5.out (by omega) (fun q hq => by have := hrow _ hq; omega), by have := HG5.out.size; omega⟩)
                have HM5 := Aside0.mk (Kd.R_over (Kd.R_below HM3.out HB4.out) HO4.out pl_ne32 HG5.out)
                go_roundg (ks.length - (j + 1))
                case measure => omega
                case rel =>
                  refine ⟨j + 1, by go_num, by omega, Nat.le_refl _, Aside0.mk ?_, Aside0.mk ?_, HM5, HOG5, HSH5, HB5⟩
                  · rw [HTK.out]
                    have e : nets l0 (m.take j ++ [key]) = nets l0 (m.take j) ++ [⟨key.d, key.c, sm⟩] := by
                      unfold nets; rw [List.map_append, List.map_singleton, HSF.out]
                    rw [e]; exact HO5.out
                  · intro k hk
                    rw [HTK.out, List.mem_append] at hk
                    rcases hk with hk | hk
                    · exact HZ.out k hk
                    · rw [List.mem_singleton.1 hk, HSF.out]
              · cases h1
                go_wp2
                go_ret2
                exact ⟨_, [], 1, rfl, Kd.R_nil _ _ _ _ _, HBB.out, by simp, m, HKEY.out, .inr ⟨rfl, rfl, key, HKM.out, by rw [HSF.out]⟩⟩
            · have hltz : ¬ (j : Int) < (ks.length : Int) := by omega
              obtain rfl : j = ks.length := by omega
              rw [← HML.out, List.take_length] at HO HZ
              go_wp2
              go_ret2
              exact ⟨_, nets l0 m, 0, rfl, Kd.R_lower HO.out (by omega), HB.out.1, by unfold nets; rw [List.length_map, HML.out]; exact hks0, m, HKEY.out, .inl ⟨rfl, rfl, HZ.out⟩⟩
        · -- a key has come
          intro x c kl y1 y2 w1 cnt1 hkx hlk hR hat hrg1 hlt hg1 hs1 hen
          obtain ⟨hxs, rfl⟩ := keyOf82_of hkx
          have hhas := Maps.has_true_of_atKey hat
          have HKS2 := Aside0.mk (keysP_step HKS.out x hxs hlk hhas)
          have hg1a : wi.grownBy (w1.alloc (.cells #[.int .i64 x.d, .string x.c] 70 (0, 0))) (some r) := hg1.trans (World.grownBy_alloc w1 _ _)
          have HK1 := Aside0.mk (Kd.R_mono (Kd.R_grown (Kd.R_bound HK.out) hg1a (fun k hk e => by cases e; have := hk.2.1; omega)) (ok' := fun _ => True) (fun _ _ => trivial))
          have hbs : w.heap.size < wi.heap.size ∧ r < wi.heap.size ∧ w.heap.size < r := by
            obtain ⟨es, clock, h3, _⟩ := HOG.out
            exact ⟨(Array.getElem?_eq_some_iff.1 h3).1, HB1.out.2, hbz⟩
          have HOG2 := Aside0.mk (HOG.out.kept hg1a (fun e => by cases e; omega) (HSH.out.rowsOff (fun j hj => by cases hj; exact Nat.le_refl _)))
          have HSH2 := Aside0.mk (HSH.out.kept hg1a hbs.1 (fun e => by cases e; omega))
          have HB2 := Aside0.mk (HB1.out.1.grown hg1a (by omega) (fun j hj => by cases hj; omega))
          have HRG2 := Aside0.mk (hrg1.kept (World.grownBy_alloc w1 (.cells #[.int .i64 x.d, .string x.c] 70 (0, 0)) none) (by simp) (by simp))
          have hwz : r + 1 ≤ (w1.alloc (.cells #[.int .i64 x.d, .string x.c] 70 (0, 0))).heap.size := by simp; omega
          clear hrg1 HRG HRR HK HKS HOG HSH hR hat hg1 hg1a hkx hlk hhas hs1
          unfold plV at hen ⊢
          have hsW := Aside0.mk (show (w1.alloc (.cells #[.int .i64 x.d, .string x.c] 70 (0, 0))).heap.size = w1.heap.size + 1 by simp)
          go_wp2_with ((with_reducible refine gate_builtin (b := .append) (xs := #[.tmp 47, .tmp 49]) rfl ?_); at_builtin; refine Kd.R_append k70 (w0 := (w1.alloc (.cells #[.int .i64 x.d, .string x.c] 70 (0, 0)))) (r + 1) rfl (.tmp 47) (.tmp 49) 94 70 (.agg #[.int .i64 0, .string ⟨#[]⟩]) 24 rfl Tryd.underlying94 info70 rfl (by decide) (by omega) u14 ks x [.int .i64 x.d, .string x.c] (fun _ => True) (fun _ => False) rfl (by rw [hsW.out]; rfl) (k70_mkM _ _ _ x) (fun _ h => h.elim) (fun _ _ => trivial) HK1.out (Below.refl _ _) hwz (by omega) ?_; intro v' w2 ho hb hg hat2; have HK2 := Aside0.mk ho; have HG := Aside0.mk hg; clear ho hb hg hat2)
          have hrow : ∀ j, u14.ownBlock = some j → r + 1 ≤ j := fun j hj => Kd.R_base HK1.out j hj
          have HRG3 := Aside0.mk (HRG2.out.kept HG.out (fun e => by have := hrow _ e.symm; omega) (fun e => by have := hrow _ e.symm; omega))
          have HOG3 := Aside0.mk (HOG2.out.kept HG.out (fun e => by have := hrow _ e.symm; omega) (HSH2.out.rowsOff (fun j hj => by have := hrow _ hj; omega)))
          have HSH3 := Aside0.mk (HSH2.out.kept HG.out (by omega) (fun e => by have := hrow _ e.symm; omega))
          have HB3 := Aside0.mk (show Below w.heap.size w w2 ∧ r < w2.heap.size from ⟨HB2.out.grown HG.out (by omega) (fun j hj => by have := hrow _ hj; omega), by have := HG.out.size; omega⟩)
          go_roundg cnt1
          case measure => omega
          case rel => exact ⟨_, cnt1, ks ++ [x], Nat.le_refl _, by simp; omega, HRG3, HK2, HKS2, HOG3, HSH3, HB3⟩
end Go.Proofs.YtdfndbegifdejaaDoor.GD

/-! ### NetF -/
/- flow.Net: what it answers, as a function (its answer is determined); its contract in that form. -/
namespace Go.Proofs.YtdfndbegifdejaaDoor.GD
set_option linter.unusedVariables false
set_option linter.unusedSimpArgs false
open Go.RowKit Go.Proofs.YtdfndbegifdejaaDoorW.PrintWords Go.Sort
open Classical

theorem sortedP_eq {a b : List Pl} (ha : a.Nodup) (hb : b.Nodup) (hm : ∀ c, c ∈ a ↔ c ∈ b) (hsa : a.Pairwise (fun x y => pless y x = false)) (hsb : b.Pairwise (fun x y => pless y x = false)) : a = b := by
  refine List.Perm.eq_of_pairwise (le := fun x y => pless y x = false) (fun x y _ _ h1 h2 => pless_ext h2 h1) hsa hsb ?_
  exact (List.perm_ext_iff_of_nodup ha hb).2 hm
theorem PlaceList.uniq {l : List S32} {a b : List Pl} (ha : PlaceList l a) (hb : PlaceList l b) : a = b :=
  sortedP_eq ha.nodup hb.nodup (fun c => ⟨fun h => (hb.mem c (ha.ok c h)).2 ((ha.mem c (ha.ok c h)).1 h), fun h => (ha.mem c (hb.ok c h)).2 ((hb.mem c (hb.ok c h)).1 h)⟩) ha.sorted hb.sorted
theorem NetGood.uniq {l : List S32} {a b : List S32} {f g : Int} (h1 : NetGood l a f) (h2 : NetGood l b g) : a = b ∧ f = g := by
  obtain ⟨k1, p1, h1⟩ := h1
  obtain ⟨k2, p2, h2⟩ := h2
  obtain rfl := p1.uniq p2
  rcases h1 with ⟨rfl, rfl, z1⟩ | ⟨rfl, rfl, q, hq, z1⟩
  · rcases h2 with ⟨rfl, rfl, z2⟩ | ⟨rfl, rfl, q2, hq2, z2⟩
    · exact ⟨rfl, rfl⟩
    · have := z1 q2 hq2; omega
  · rcases h2 with ⟨rfl, rfl, z2⟩ | ⟨rfl, rfl, q2, hq2, z2⟩
    · have := z2 q hq; omega
    · exact ⟨rfl, rfl⟩
/-- What Net answers, of a list whose day, currency and amount are such as memory holds. -/
noncomputable def flow_Net.f (l : List S32) : Option (List S32 × Int) :=
  if h : (WfP l ∧ l.length * 32 ≤ 140737488351232) ∧ ∃ p : List S32 × Int, NetGood l p.1 p.2 then some (Classical.choose h.2) else none
theorem flow_Net.good {l ts : List S32} {f : Int} (h : flow_Net.f l = some (ts, f)) : WfP l ∧ l.length * 32 ≤ 140737488351232 ∧ NetGood l ts f := by
  unfold flow_Net.f at h
  split at h
  · rename_i h0
    have h1 := Classical.choose_spec h0.2
    rw [Option.some.inj h] at h1
    exact ⟨h0.1.1, h0.1.2, h1⟩
  · cases h
theorem flow_Net.of_good {l ts : List S32} {f : Int} (hw : WfP l) (hn : l.length * 32 ≤ 140737488351232) (h : NetGood l ts f) : flow_Net.f l = some (ts, f) := by
  have h0 : (WfP l ∧ l.length * 32 ≤ 140737488351232) ∧ ∃ p : List S32 × Int, NetGood l p.1 p.2 := ⟨⟨hw, hn⟩, (ts, f), h⟩
  unfold flow_Net.f
  rw [dif_pos h0]
  have h1 := (Classical.choose_spec h0.2).uniq h
  congr 1
  exact Prod.ext h1.1 h1.2

set_option maxHeartbeats 1000000 in
theorem flow_Net.calls0 (A0 : Option Addr) (c0 : Nat) (l0 : List S32) (w : World) (hr0 : Kd.C k32 w A0 l0.length l0) (hc0 : l0.length ≤ c0) (hsz : l0.length * 32 ≤ 140737488351232) (hwf : WfP l0) :
    Calls Tryd.prog 18 #[.slice A0 l0.length c0] w fun e w' => ∃ (v : Value) (ts : List S32) (f : Int), e = .returned (.tuple #[v, .int .i64 f]) ∧ Kd.R k32 32 w' w.heap.size (fun _ => True) v ts ∧ Below w.heap.size w w' ∧ ts.length ≤ l0.length ∧ NetGood l0 ts f := by
  have hcall := gatherP.calls A0 c0 l0 w hr0 hc0 hsz hwf
  have HC := Aside0.mk hcall
  clear hr0 hc0 hwf hcall
  go_enter Tryd.func18, Tryd.ntmps18
  go_wp2_with (go_at_call 33; refine HC.out.mono ?_; rintro e w1 ⟨v, ts, f, rfl, h1, h2, h3, h4⟩)
  go_ret2
  exact ⟨_, ts, f, rfl, h1, h2, h3, h4⟩
theorem flow_Net.calls (A0 : Option Addr) (c0 : Nat) (l0 : List S32) (r1 : List S32) (r2 : Int) (w : World) (hr0 : Kd.C k32 w A0 l0.length l0) (hc0 : l0.length ≤ c0) (h : flow_Net.f l0 = some (r1, r2)) :
    Calls Tryd.prog 18 #[.slice A0 l0.length c0] w fun e w' => ∃ v0_ : Value, e = .returned (.tuple #[v0_, .int .i64 r2]) ∧ Kd.R k32 32 w' w.heap.size (fun _ => True) v0_ r1 ∧ Below w.heap.size w w' := by
  obtain ⟨hw, hn, hg⟩ := flow_Net.good h
  refine (flow_Net.calls0 A0 c0 l0 w hr0 hc0 hn hw).mono ?_
  rintro e w' ⟨v, ts, f, rfl, h1, h2, _, h4⟩
  obtain ⟨rfl, rfl⟩ := h4.uniq hg
  exact ⟨v, rfl, h1, h2⟩
/-- Net answers. -/
theorem flow_Net.some {l : List S32} (hw : WfP l) (hn : l.length * 32 ≤ 140737488351232) {ks : List Pl} (hk : PlaceList l ks) : ∃ ts f, flow_Net.f l = some (ts, f) ∧ NetGood l ts f := by
  by_cases h : ∀ k ∈ ks, (sumF 0 (grp placeL (plit k) l)).2 = 0
  · have hg : NetGood l (nets l ks) 0 := ⟨ks, hk, .inl ⟨rfl, rfl, h⟩⟩
    exact ⟨_, _, flow_Net.of_good hw hn hg, hg⟩
  · have hex : ∃ k ∈ ks, (sumF 0 (grp placeL (plit k) l)).2 = 1 := by
      apply Classical.byContradiction
      intro hno
      apply h
      intro k hk2
      rcases sumF_two (grp placeL (plit k) l) 0 with h1 | h1
      · exact h1
      · exact absurd ⟨k, hk2, by rw [h1]⟩ hno
    have hg : NetGood l [] 1 := ⟨ks, hk, .inr ⟨rfl, rfl, hex⟩⟩
    exact ⟨_, _, flow_Net.of_good hw hn hg, hg⟩
end Go.Proofs.YtdfndbegifdejaaDoor.GD
