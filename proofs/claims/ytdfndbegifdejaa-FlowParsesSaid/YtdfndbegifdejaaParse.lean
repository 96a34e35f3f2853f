/- flow.Parse: its contract: line by line over the reader, as far as it goes. -/
import Derived.Test.YtdfndbegifdejaaLine
namespace Go.Proofs.Ytdfndbegifdejaa.GParses
set_option linter.unusedVariables false
set_option linter.unusedSimpArgs false
open Go.RowKit Go.Proofs.YtdfndbegifdejaaW.PrintWords Go.Proofs.YtdfndbegifdejaaW.PrintLast Go.Proofs.YtdfndbegifdejaaW.PrintMore
attribute [local go_sem] max2_int min2_int max_two min_two max_three min_three max_four min_four

def flow_Parse.l0 : Nat → ByteArray → List (S32) → ByteArray → Int → Option ((List (S32)) × Int × Int)
  | 0, _, _, _, _ => none
  | k + 1, x0, x5, s, x6 => if x6 < (x0.size : Int) then ((flow_reader_line.f k s x6).bind fun b => (if b.2.2.2.1 = true then (if x5.length < 4398046511104 then (flow_Parse.l0 k x0 (x5 ++ [(⟨b.1, b.2.1, b.2.2.1⟩ : S32)]) b.2.2.2.2.1 b.2.2.2.2.2) else (none)) else (some (([] : List (S32)), b.2.2.2.2.2, 31)))) else (some (x5, 0, 0))
def flow_Parse.f (k : Nat) (a0 : ByteArray) : Option ((List (S32)) × Int × Int) := if (a0.size : Int) > 1048576 then (some (([] : List (S32)), 0, 6)) else (flow_Parse.l0 k a0 ([] : List (S32)) a0 0)
theorem flow_Parse.mono_l : ∀ k, (∀ y0 y1 y2 y3, LeO (flow_Parse.l0 k y0 y1 y2 y3) (flow_Parse.l0 (k + 1) y0 y1 y2 y3))
  | 0 => fun _ _ _ _ r h => by simp [flow_Parse.l0] at h
  | k + 1 => by
    have ih0 := flow_Parse.mono_l k
    · intro y0 y1 y2 y3
      unfold flow_Parse.l0
      repeat' first
      | (with_reducible exact ih0 _ _ _ _)
      | (with_reducible exact flow_reader_line.mono _ _ _)
      | (with_reducible exact LeO.refl _)
      | (with_reducible exact LeO.none _)
      | (with_reducible refine LeO.ite ?_ ?_)
      | (with_reducible refine LeO.bind ?_ (fun _ => ?_))
theorem flow_Parse.mono : ∀ a0 k, LeO (flow_Parse.f k a0) (flow_Parse.f (k + 1) a0) := by
  intro a0 k
  unfold flow_Parse.f
  exact LeO.ite (LeO.refl _) (flow_Parse.mono_l k _ _ _ _)

set_option maxHeartbeats 4000000 in
set_option maxRecDepth 100000 in
theorem flow_Parse.calls (k : Nat) (a0 : ByteArray) (r1 : List (S32)) (r2 : Int) (r3 : Int) (w : World) (h : flow_Parse.f k a0 = some (r1, r2, r3)) :
    Calls Try.prog 20 #[.string a0] w fun e w' => ∃ v0_ : Value, e = .returned (.tuple #[v0_, .int .i64 r2, .int .i64 r3]) ∧ Kd.R k32 32 w' w.heap.size (fun _ => True) v0_ r1 ∧ Below w.heap.size w w' := by
  have hu32 := Try.underlying32
  have HB := Aside0.mk (Below.refl w.heap.size w)
  unfold flow_Parse.f at h
  by_cases c2 : (a0.size : Int) > 1048576
  · rw [if_pos c2] at h
    have c2b0 : decide (1048576 < (a0.size : Int)) = true := decide_eq_true c2
    have c2b1 : decide (1048576 < a0.size) = true := decide_eq_true (by omega)
    clear c2
    simp only [Option.some.injEq, Prod.mk.injEq] at h
    obtain ⟨rfl, rfl, rfl⟩ := h
    go_enter Try.func20, Try.ntmps20
    go_wp2
    go_ret3
    exact ⟨_, rfl, Kd.R_nil _ _ _ _ _, HB.out⟩
  · rw [if_neg c2] at h
    have c2b0 : decide (1048576 < (a0.size : Int)) = false := decide_eq_false c2
    have c2b1 : decide (1048576 < a0.size) = false := decide_eq_false (by omega)
    clear c2
    have H' := Aside0.mk h
    clear h
    go_enter Try.func20, Try.ntmps20
    go_wp2_with (first | ((with_reducible refine gate_dst (N := 14) rfl ?_); refine box_event ?hg (N := 14) ?hd (cs := #[.string a0, .int .i64 0]) (t := 68) ?hr ?_; (case hd => rfl); (case hg => rfl); (case hr => first | (go_simp; done) | (go_simp; rfl)); intro gb hg w1 hbox hb; have HI := Aside0.mk (show IsS68 w w1 gb a0 0 from ⟨hbox, Nat.le_of_eq hg.symm⟩); clear HB; have HB := Aside0.mk hb; clear hb hbox hg))
    go_loopg [6] k (fun kq v6 w' => ∃ (out : List S32) (s : ByteArray) (at_ : Int), Aside0 (flow_Parse.l0 kq a0 out s at_ = some (r1, r2, r3)) ∧ Aside0 (kq ≤ k) ∧ Aside0 (Kd.R k32 32 w' w.heap.size (fun k_ => k_ ≠ gb) v6 out) ∧ Aside0 (IsS68 w w' gb s at_) ∧ Aside0 (Below w.heap.size w w'))
    case atStart => exact ⟨[], a0, 0, H', ⟨Nat.le_refl _⟩, ⟨Kd.R_nil _ _ _ _ _⟩, HI, HB⟩
    case round =>
      clear H' HI HB
      obtain ⟨out, s, at_, HA, HK1, HO, HI, HB⟩ := hrel
      cases gk with
      | zero => exact absurd HA.out (by simp [flow_Parse.l0])
      | succ k1 =>
        have H := HA.out
        clear HA
        simp only [flow_Parse.l0] at H
        have hc0 := (blk_cell HI.out.1 1).trans rfl
        by_cases c3 : at_ < (a0.size : Int)
        · rw [if_pos c3] at H
          have c3b0 : decide (at_ < (a0.size : Int)) = true := decide_eq_true c3
          clear c3
          replace H := Option.bind_eq_some_iff.mp H
          obtain ⟨⟨t1, t2, t3, t4, t5, t6⟩, A4, H⟩ := H
          have A4 := Aside0.mk A4
          cases t4 with
          | true =>
            simp only [if_true] at H
            by_cases c6 : out.length < 4398046511104
            · rw [if_pos c6] at H
              have LM := Aside0.mk c6
              clear c6
              have H' := Aside0.mk H
              clear H
              go_wp2_with (first | (go_at_call 38; refine (flow_reader_line.calls k1 gb s at_ t1 t2 t3 true t5 t6 w _ HI.out HB.out A4.out).mono ?_; rintro e w2 ⟨rfl, hi, hb, hk⟩; have HO' := Aside0.mk (Kd.R_keep HO.out hk (fun _ h => h)); clear HO HB HI hc0; have HO := HO'; have HI := Aside0.mk hi; have HB := Aside0.mk hb; clear hi hb hk HO') | ((with_reducible refine gate_dst (N := 7) rfl ?_); refine box_event ?hg (N := 7) ?hd (cs := #[.int .i64 0, .string (⟨#[]⟩ : ByteArray), .int .i64 0]) (t := 32) ?hr ?_; (case hd => rfl); (case hg => rfl); (case hr => first | (go_simp; done) | (go_simp; rfl)); intro g7 hg w8 hbox hb; have HO' := Aside0.mk (Kd.R_below (Kd.R_elderB HO.out g7 (Nat.le_of_eq hg.symm)) hb); have NE := Aside0.mk (show gb ≠ g7 by have := blk_lt HI.out.1; omega); have HI' := Aside0.mk (show IsS68 w w8 gb t5 t6 from ⟨blk_below HI.out.1 hb, HI.out.2⟩); have HB' := Aside0.mk (below_step HB.out hb); have GE := Aside0.mk (show w.heap.size ≤ g7 by rw [hg]; exact HB.out.size); have BK := Aside0.mk hbox; clear HO HI HB hg hb hbox; have HO := HO'; have HI := HI'; have HB := HB'; clear HO' HI' HB'; have hz0 := (blk_cell BK.out 0).trans rfl; have hz1 := (blk_cell BK.out 1).trans rfl; have hz2 := (blk_cell BK.out 2).trans rfl; have hf0 := blk_frozen BK.out 0; have hf1 := blk_frozen BK.out 1; have hf2 := blk_frozen BK.out 2) | ((with_reducible refine gate_builtin (b := .append) (xs := #[.tmp 33, .tmp 35]) rfl ?_); at_builtin; refine Kd.R_append k32 (w0 := w) w.heap.size rfl (.tmp 33) (.tmp 35) 22 32 (.agg #[(.int .i64 0), (.string ⟨#[]⟩), (.int .i64 0)]) 32 rfl Try.underlying22 info32 rfl (by decide) (by omega) u6 out (⟨t1, t2, t3⟩ : S32) [.int .i64 t1, .string t2, .int .i64 t3] (fun k_ => k_ ≠ gb) (fun _ => False) rfl (by first | (go_simp; done) | (go_simp; rfl)) ?aP (fun _ hk => hk.elim) ?aF ?aO ?aB ?aS ?aL ?_; (case aP => exact k32_mkM _ _ _ (⟨t1, t2, t3⟩ : S32)); (case aF => exact fun k_ hk => Kd.freshB (blk_far (p := ⟨g7, 2, none⟩) (blk_far (p := ⟨g7, 1, none⟩) (blk_far (p := ⟨g7, 0, none⟩) HI.out.1 NE.out _) NE.out _) NE.out _) k_ hk); (case aO => exact Kd.R_mono (Kd.R_far (p := ⟨g7, 2, none⟩) (Kd.R_far (p := ⟨g7, 1, none⟩) (Kd.R_far (p := ⟨g7, 0, none⟩) HO.out (fun _ hk => hk.2) _) (fun _ hk => hk.2) _) (fun _ hk => hk.2) _) (fun _ hk => hk.1)); (case aB => exact below_set (below_set (below_set HB.out GE.out) GE.out) GE.out); (case aS => exact (below_set (below_set (below_set HB.out GE.out) GE.out) GE.out).size); (case aL => have := LM.out; omega); intro v10 w10 ho hb hg hat; have HI' := Aside0.mk (show IsS68 w w10 gb t5 t6 from ⟨blk_grown (blk_far (p := ⟨g7, 2, none⟩) (blk_far (p := ⟨g7, 1, none⟩) (blk_far (p := ⟨g7, 0, none⟩) HI.out.1 NE.out _) NE.out _) NE.out _) hg (fun he => (HO.out.1 gb he.symm).1 rfl), HI.out.2⟩); clear HO HI HB BK; have HO := Aside0.mk ho; have HI := HI'; have HB := Aside0.mk hb; clear ho hb hg hat HI'))
              go_roundg k1
              case measure => have := HK1.out; omega
              case rel => exact ⟨_, t5, t6, H', ⟨by have := HK1.out; omega⟩, HO, HI, HB⟩
            · rw [if_neg c6] at H
              cases H
          | false =>
            simp only [Bool.false_eq_true, if_false, Option.some.injEq, Prod.mk.injEq] at H
            obtain ⟨rfl, rfl, rfl⟩ := H
            go_wp2_with (first | (go_at_call 38; refine (flow_reader_line.calls k1 gb s at_ t1 t2 t3 false t5 t6 w _ HI.out HB.out A4.out).mono ?_; rintro e w2 ⟨rfl, hi, hb, hk⟩; have HO' := Aside0.mk (Kd.R_keep HO.out hk (fun _ h => h)); clear HO HB HI hc0; have HO := HO'; have HI := Aside0.mk hi; have HB := Aside0.mk hb; clear hi hb hk HO') | ((with_reducible refine gate_dst (N := 7) rfl ?_); refine box_event ?hg (N := 7) ?hd (cs := #[.int .i64 0, .string (⟨#[]⟩ : ByteArray), .int .i64 0]) (t := 32) ?hr ?_; (case hd => rfl); (case hg => rfl); (case hr => first | (go_simp; done) | (go_simp; rfl)); intro g7 hg w8 hbox hb; have HO' := Aside0.mk (Kd.R_below (Kd.R_elderB HO.out g7 (Nat.le_of_eq hg.symm)) hb); have NE := Aside0.mk (show gb ≠ g7 by have := blk_lt HI.out.1; omega); have HI' := Aside0.mk (show IsS68 w w8 gb t5 t6 from ⟨blk_below HI.out.1 hb, HI.out.2⟩); have HB' := Aside0.mk (below_step HB.out hb); have GE := Aside0.mk (show w.heap.size ≤ g7 by rw [hg]; exact HB.out.size); have BK := Aside0.mk hbox; clear HO HI HB hg hb hbox; have HO := HO'; have HI := HI'; have HB := HB'; clear HO' HI' HB'; have hz0 := (blk_cell BK.out 0).trans rfl; have hz1 := (blk_cell BK.out 1).trans rfl; have hz2 := (blk_cell BK.out 2).trans rfl; have hf0 := blk_frozen BK.out 0; have hf1 := blk_frozen BK.out 1; have hf2 := blk_frozen BK.out 2))
            have hq := (blk_cell (blk_far (p := ⟨g7, 2, none⟩) (blk_far (p := ⟨g7, 1, none⟩) (blk_far (p := ⟨g7, 0, none⟩) HI.out.1 NE.out (.int .i64 t1)) NE.out (.string t2)) NE.out (.int .i64 t3)) 1).trans rfl
            go_quiet (fail)
            go_wp2
            go_ret3
            exact ⟨_, rfl, Kd.R_nil _ _ _ _ _, pw_below_drewN (below_set (below_set (below_set HB.out GE.out) GE.out) GE.out) _⟩
        · rw [if_neg c3] at H
          have c3b0 : decide (at_ < (a0.size : Int)) = false := decide_eq_false c3
          clear c3
          simp only [Option.some.injEq, Prod.mk.injEq] at H
          obtain ⟨rfl, rfl, rfl⟩ := H
          go_wp2
          go_ret3
          exact ⟨_, rfl, Kd.R_mono HO.out (fun _ _ => trivial), HB.out⟩
end Go.Proofs.Ytdfndbegifdejaa.GParses
