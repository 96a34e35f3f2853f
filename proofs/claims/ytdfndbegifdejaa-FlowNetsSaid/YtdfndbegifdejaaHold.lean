/- The helper hold of the flow laws: it writes two lists full and appends to them; its contract. -/
import Derived.Test.YtdfndbegifdejaaRoomy
namespace Go.Proofs.Ytdfndbegifdejaa.PFlowExact
set_option linter.unusedVariables false
set_option linter.unusedSimpArgs false
open Go.RowKit Go.Proofs.YtdfndbegifdejaaW.PrintWords Go.Proofs.YtdfndbegifdejaaW.PrintLast Go.Proofs.YtdfndbegifdejaaW.PrintMore Go.Proofs.YtdfndbegifdejaaMine
attribute [local go_sem] max2_int min2_int max_two min_two max_three min_three max_four min_four

def heldS : ByteArray := ⟨#[72, 69, 76, 68]⟩
def heldF (m : Int) : S32 := ⟨m, heldS, 0⟩
def heldT (m : Int) : S62 := ⟨heldS, m⟩
def over {α : Type} (x : α) (l : List α) (j : Nat) : List α := List.replicate j x ++ l.drop j
theorem over_zero {α : Type} (x : α) (l : List α) : over x l 0 = l := by simp [over]
theorem over_len {α : Type} (x : α) (l : List α) (j : Nat) (h : j ≤ l.length) : (over x l j).length = l.length := by simp [over]; omega
theorem over_all {α : Type} (x : α) (l : List α) : over x l l.length = List.replicate l.length x := by simp [over]
theorem over_set {α : Type} (x : α) (l : List α) (j : Nat) (h : j < l.length) : (over x l j).set j x = over x l (j + 1) := by
  unfold over
  rw [List.set_append_right _ _ (by simp), List.length_replicate, Nat.sub_self, List.drop_eq_getElem_cons h, List.set_cons_zero, List.replicate_succ']
  simp
theorem kflatT (W' W'' : World) (base : Nat) (ok : Nat → Prop) (x : S62) (cs : List Value) (h : k62.K W' x cs) : k62.M W'' base ok x cs := by
  obtain rfl := k62_open h
  exact k62_mkM _ _ _ x

def HeldPost (w : World) (base : Nat) (okf okt : Nat → Prop) (fv tv : Value) (f : List S32) (t : List S62) (m : Int) (e : Ending) (w' : World) : Prop :=
  e = .returned (.agg #[fv, tv, .int .i64 m]) ∧ Kd.R k32 32 w' base okf fv (List.replicate f.length (heldF m)) ∧ Kd.R k62 62 w' base okt tv (List.replicate t.length (heldT m)) ∧ Spared w w' fv.ownBlock tv.ownBlock

set_option maxHeartbeats 2000000 in
set_option maxRecDepth 100000 in
theorem hold.calls (fv tv : Value) (f : List S32) (t : List S62) (m : Int) (base : Nat) (okf okt : Nat → Prop) (w w0 : World) (hf : Kd.R k32 32 w base okf fv f) (ht : Kd.R k62 62 w base okt tv t)
    (hbase : base ≤ w.heap.size) (hfs : f.length * 32 ≤ 140737488351232) (hts : t.length * 24 ≤ 140737488351232) :
    Calls Try.prog 14 #[fv, tv, .int .i64 m] w (HeldPost w base okf okt fv tv f t m) := by
  obtain ⟨Af, cf, rfl⟩ := Kd.R_slice hf
  obtain ⟨At, ct, rfl⟩ := Kd.R_slice ht
  have HF := Aside0.mk hf
  have HT := Aside0.mk ht
  clear hf ht
  have hfn : (f.length : Int) ≤ 4398046510976 := by omega
  have htn : (t.length : Int) ≤ 5864062014634 := by omega
  go_enter Try.func14, Try.ntmps14
  go_wp2_with (first | ((with_reducible refine gate_dst (N := 6) rfl ?_); refine box_event ?hg (N := 6) ?hd (cs := #[.slice none 0 0, .slice none 0 0, .int .i64 0]) (t := 28) ?hr ?_; (case hd => rfl); (case hg => rfl); (case hr => first | (go_simp; done) | (go_simp; rfl)); intro gb hg w1 hbox hb; have HF1 := Aside0.mk (Kd.R_below HF.out hb); have HT1 := Aside0.mk (Kd.R_below HT.out hb); have HX := Aside0.mk (Spared.of_below hb (Value.slice Af f.length cf).ownBlock (Value.slice At t.length ct).ownBlock); have BK := Aside0.mk hbox; have GE := Aside0.mk (show w.heap.size ≤ gb by omega); clear HF HT hb hbox hg))
  go_loopw [7] (fun i wr => ∃ j : Nat, i = .int .i64 (j : Int) ∧ Aside0 (j ≤ f.length) ∧ Aside0 (Kd.R k32 32 wr base okf (.slice Af f.length cf) (over (heldF m) f j)) ∧ Aside0 (Kd.R k62 62 wr base okt (.slice At t.length ct) t) ∧ Aside0 (Spared w wr (Value.slice Af f.length cf).ownBlock (Value.slice At t.length ct).ownBlock) ∧ Aside0 (wr.heap[gb]? = some (.cells #[.slice none 0 0, .slice none 0 0, .int .i64 0] 28 (0, 0)))) (fun i _ => f.length - (intOf i).toNat)
  case atStart => exact ⟨0, rfl, ⟨by omega⟩, ⟨by rw [over_zero]; exact HF1.out⟩, HT1, HX, BK⟩
  case round =>
    clear HF1 HT1 HX BK
    obtain ⟨j, rfl, hj, HF, HT, HX, BK⟩ := hrel
    by_cases hlt : j < f.length
    · obtain ⟨g, cap, hv, hbg, hgl, cells, hcells⟩ := Kd.R_form HF.out (by rw [over_len _ _ _ hj.out]; omega)
      injection hv with ha _ hc
      subst ha; subst hc
      have HG := Aside0.mk hbg
      clear hbg hgl hcells
      have hb1 : (0 : Int) ≤ (j : Int) := by omega
      have hb2 : (j : Int) < (f.length : Int) := by omega
      go_wp2_with (first | ((with_reducible refine gate_store (t := 32) (p := 19) rfl ?_); refine R_storeAll k32 (w0 := wr) base rfl rfl 32 (.tmp 19) (.tmp 18) rfl 32 j (over (heldF m) f j) (heldF m) (.agg #[.int .i64 m, .string heldS, .int .i64 0]) [.int .i64 m, .string heldS, .int .i64 0] okf (fun _ => False) rfl rfl rfl rfl rfl (by kernel_rfl) (by simp [Value.oneCell']) HF.out (by omega) (k32_mkM _ _ _ (heldF m)) (fun _ hk => hk.elim) (Below.refl _ _) ?_; intro w3 ho3 hb3 hg3; rw [over_set _ f j hlt] at ho3; have HT' := Aside0.mk (Kd.R_over HT.out HF.out (by decide) hg3); have HX' := Aside0.mk (HX.out.grown hg3 (fun k hk => .inl rfl)); have BK' := Aside0.mk (blk_grown BK.out hg3 (fun he => Kd.R_ne HF.out BK.out (by decide) he)); clear HF HT HX BK; have HF := Aside0.mk ho3; have HT := HT'; have HX := HX'; have BK := BK'; clear ho3 hb3 hg3 HT' HX' BK'))
      go_roundw
      case rel => exact ⟨j + 1, by go_num, ⟨by omega⟩, HF, HT, HX, BK⟩
      case measure => simp [intOf]; omega
    · have hb2 : ¬ (j : Int) < (f.length : Int) := by omega
      have hj3 : j = f.length := by have := hj.out; omega
      have HF' := Aside0.mk (show Kd.R k32 32 wr base okf (.slice Af f.length cf) (List.replicate f.length (heldF m)) by have h := HF.out; rw [hj3, over_all] at h; exact h)
      clear HF hj3
      obtain ⟨wo, rfl⟩ : ∃ wo : World, wo = wr := ⟨_, rfl⟩
      go_wp2_with fail
      go_loopw [8] (fun i wr => ∃ j : Nat, i = .int .i64 (j : Int) ∧ Aside0 (j ≤ t.length) ∧ Aside0 (Kd.R k32 32 wr base okf (.slice Af f.length cf) (List.replicate f.length (heldF m))) ∧ Aside0 (Kd.R k62 62 wr base okt (.slice At t.length ct) (over (heldT m) t j)) ∧ Aside0 (Spared w wr (Value.slice Af f.length cf).ownBlock (Value.slice At t.length ct).ownBlock) ∧ Aside0 (wr.heap[gb]? = some (.cells #[.slice none 0 0, .slice none 0 0, .int .i64 0] 28 (0, 0)))) (fun i _ => t.length - (intOf i).toNat)
      case atStart => exact ⟨0, rfl, ⟨by omega⟩, HF', ⟨by rw [over_zero]; exact HT.out⟩, HX, BK⟩
      case round =>
        clear HF' HT HX BK hj hb2 hlt
        obtain ⟨i, rfl, hi, HF, HT, HX, BK⟩ := hrel
        by_cases hlt : i < t.length
        · obtain ⟨g, cap, hv, hbg, hgl, cells, hcells⟩ := Kd.R_form HT.out (by rw [over_len _ _ _ hi.out]; omega)
          injection hv with ha _ hc
          subst ha; subst hc
          have HG := Aside0.mk hbg
          clear hbg hgl hcells
          have hb1 : (0 : Int) ≤ (i : Int) := by omega
          have hb2 : (i : Int) < (t.length : Int) := by omega
          go_wp2_with (first | ((with_reducible refine gate_store (t := 62) (p := 30) rfl ?_); refine R_storeAll k62 (w0 := wr) base rfl rfl 62 (.tmp 30) (.tmp 29) rfl 62 i (over (heldT m) t i) (heldT m) (.agg #[.string heldS, .int .i64 m]) [.string heldS, .int .i64 m] okt (fun _ => False) rfl rfl rfl rfl rfl (by kernel_rfl) (by simp [Value.oneCell']) HT.out (by omega) (k62_mkM _ _ _ (heldT m)) (fun _ hk => hk.elim) (Below.refl _ _) ?_; intro w3 ho3 hb3 hg3; rw [over_set _ t i hlt] at ho3; have HF' := Aside0.mk (Kd.R_over HF.out HT.out (by decide) hg3); have HX' := Aside0.mk (HX.out.grown hg3 (fun k hk => .inr (.inl rfl))); have BK' := Aside0.mk (blk_grown BK.out hg3 (fun he => Kd.R_ne HT.out BK.out (by decide) he)); clear HF HT HX BK; have HT := Aside0.mk ho3; have HF := HF'; have HX := HX'; have BK := BK'; clear ho3 hb3 hg3 HF' HX' BK'))
          go_roundw
          case rel => exact ⟨i + 1, by go_num, ⟨by omega⟩, HF, HT, HX, BK⟩
          case measure => simp [intOf]; omega
        · have hb2 : ¬ (i : Int) < (t.length : Int) := by omega
          have hi3 : i = t.length := by have := hi.out; omega
          have HT' := Aside0.mk (show Kd.R k62 62 wr base okt (.slice At t.length ct) (List.replicate t.length (heldT m)) by have h := HT.out; rw [hi3, over_all] at h; exact h)
          clear HT hi3
          go_wp2_with (first | ((with_reducible refine gate_dst (N := 36) rfl ?_); refine R_append_keep k32 (w0 := wr) (W0 := wr) base rfl (.tmp 31) (.tmp 35) 22 32 (.agg #[(.int .i64 0), (.string ⟨#[]⟩), (.int .i64 0)]) 32 rfl Try.underlying22 info32 rfl (by decide) (.slice Af f.length cf) (List.replicate f.length (heldF m)) _ 3 3 okf rfl rfl rfl (by simp [Value.oneCell']) HF.out (by rw [List.length_replicate]; omega) (by omega) (Below.refl _ _) (Nat.le_trans hbase HX.out.below.size) ?_; intro v3 w3 ho3 hb3 hg3; have HT2 := Aside0.mk (Kd.R_over HT'.out HF.out (by decide) hg3); have HX' := Aside0.mk (HX.out.grown hg3 (fun k hk => .inl rfl)); have BK' := Aside0.mk (blk_grown BK.out hg3 (fun he => Kd.R_ne HF.out BK.out (by decide) he)); clear HF HT' HX BK; have HF := Aside0.mk ho3; have HT := HT2; have HX := HX'; have BK := BK'; clear ho3 hb3 hg3 HT2 HX' BK') | ((with_reducible refine gate_dst (N := 41) rfl ?_); refine R_append_keep k62 (w0 := w3) (W0 := w3) base rfl (.tmp 37) (.tmp 40) 26 62 (.agg #[(.string ⟨#[]⟩), (.int .i64 0)]) 24 rfl Try.underlying26 info62 rfl (by decide) (.slice At t.length ct) (List.replicate t.length (heldT m)) _ 2 2 okt rfl rfl rfl (by simp [Value.oneCell']) HT.out (by rw [List.length_replicate]; omega) (by omega) (Below.refl _ _) (Nat.le_trans hbase HX.out.below.size) ?_; intro v4 w4 ho3 hb3 hg3; have HF2 := Aside0.mk (Kd.R_over HF.out HT.out (by decide) hg3); have HX' := Aside0.mk (HX.out.grown hg3 (fun k hk => .inr (.inl rfl))); have BK' := Aside0.mk (blk_grown BK.out hg3 (fun he => Kd.R_ne HT.out BK.out (by decide) he)); have hcz0 := (blk_cell BK'.out 0).trans rfl; have hcz1 := (blk_cell BK'.out 1).trans rfl; have hcz2 := (blk_cell BK'.out 2).trans rfl; have hfz0 := blk_frozen BK'.out 0; have hfz1 := blk_frozen BK'.out 1; have hfz2 := blk_frozen BK'.out 2; clear HF HT HX BK; have HT := Aside0.mk ho3; have HF := HF2; have HX := HX'; have BK := BK'; clear ho3 hb3 hg3 HF2 HX' BK'))
          have hbk0 := blk_put (cs := #[.slice none 0 0, .slice none 0 0, .int .i64 0]) BK.out 0 (.slice Af f.length cf) rfl
          have hbk1 := blk_put hbk0 1 (.slice At t.length ct) rfl
          have hbk2 := blk_put hbk1 2 (.int .i64 m) rfl
          refine bodyPost_ret (results_cell_row rfl _ _ _ _ _ (0, 0) _ rfl hbk2 Try.underlying28 rfl (by kernel_rfl)) rfl ?_
          exact ⟨rfl, Kd.R_set (Kd.R_set (Kd.R_set HF.out BK.out (by decide) 0 _) hbk0 (by decide) 1 _) hbk1 (by decide) 2 _, Kd.R_set (Kd.R_set (Kd.R_set HT.out BK.out (by decide) 0 _) hbk0 (by decide) 1 _) hbk1 (by decide) 2 _, ((HX.out.set GE.out _).set GE.out _).set GE.out _⟩
end Go.Proofs.Ytdfndbegifdejaa.PFlowExact
