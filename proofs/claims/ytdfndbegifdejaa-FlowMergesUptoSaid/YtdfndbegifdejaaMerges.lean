/- FlowMerges: every Merge is the document's, and what was handed in stands: the walk through the law. -/
import Derived.Test.YtdfndbegifdejaaHelp
import Derived.Test.YtdfndbegifdejaaHold
import Derived.Test.YtdfndbegifdejaaMrgF
import Derived.Test.YtdfndbegifdejaaInsR
import Derived.Deep.DeepCutAuto
namespace Go.Proofs.Ytdfndbegifdejaa.PFlowExact
set_option linter.unusedVariables false
set_option linter.unusedSimpArgs false
open Go.RowKit Go.Proofs.YtdfndbegifdejaaW.PrintWords Go.Proofs.YtdfndbegifdejaaW.PrintLast Go.Proofs.YtdfndbegifdejaaW.PrintMore Go.Proofs.YtdfndbegifdejaaMine
attribute [local go_sem] max2_int min2_int max_two min_two max_three min_three max_four min_four

theorem info22 : (Try.prog.info? 22).map (fun i => (i.zero, i.size, i.bytes)) = some (some (.slice none 0 0), 1, 24) := by kernel_rfl
def KL : Kd (List S32) := Kd.slice 32 k32
def roomed (l : List S32) : List S32 := l ++ marks l.length
theorem roomed_len (l : List S32) : (roomed l).length = l.length + 3 := by simp [roomed, marks]
theorem E32 : k32.E = [] := rfl

set_option maxHeartbeats 4000000 in
set_option maxRecDepth 100000 in
theorem FlowMerges.walk0 (A0 : Option Addr) (c0 : Nat) (l0 : List (List S32)) (w : World) (hr0 : Kd.C KL w A0 l0.length l0) (hc0 : l0.length ≤ c0) (hn0 : l0.length ≤ 1048576) (hfl : l0.flatten.length ≤ 1048576) :
    Calls Try.prog 6 #[.slice A0 l0.length c0] w fun e w' => e = .returned (.bool true) ∧ Below w.heap.size w w' := by
  have HR0 := Aside0.mk hr0
  have HC0 := Aside0.mk hc0
  have HFL := Aside0.mk hfl
  have hnz : (l0.length : Int) ≤ 1048576 := by omega
  clear hr0 hc0 hfl
  go_enter Try.func6, Try.ntmps6
  go_wp2
  go_loopg [3, 4, 5] l0.length (fun kx s3 s4 s5 wr => ∃ (i : Nat), s5 = .int .i64 i ∧ i ≤ l0.length ∧ l0.length - i ≤ kx ∧ Aside0 (KL.R 22 wr w.heap.size (fun k => True ∧ some k ≠ s4.ownBlock) s3 (l0.take i)) ∧ Aside0 (KL.R 22 wr w.heap.size (fun k => True ∧ some k ≠ s3.ownBlock) s4 ((l0.take i).map roomed)) ∧ Aside0 (Below w.heap.size w wr))
  case atStart => exact ⟨0, rfl, Nat.zero_le _, by omega, Aside0.mk (Kd.R_nil _ _ _ _ _), Aside0.mk (Kd.R_nil _ _ _ _ _), Aside0.mk (Below.refl _ _)⟩
  case round =>
    obtain ⟨i, rfl, hi, hkx, HI, HH, HB⟩ := hrel
    obtain ⟨wo, rfl⟩ : ∃ wo : World, wo = wr := ⟨_, rfl⟩
    by_cases hlt : i < l0.length
    · have hltz : (i : Int) < (l0.length : Int) := by omega
      have hle : (rd_L4 l0 i).length ≤ 1048576 := by have := flat_le l0 i hlt; have := HFL.out; omega
      obtain ⟨ad, A1, c1, hA, hc, hcc, hC⟩ := at_L4 HR0.out (i : Int) (by omega) hltz
      have HCC := Aside0.mk hcc
      have HC1 := Aside0.mk (Kd.C_below hC HB.out)
      clear hcc hC
      rw [Int.toNat_natCast] at hc
      have HTK := Aside0.mk (show l0.take (i + 1) = l0.take i ++ [rd_L4 l0 (i : Int)] by rw [rdL4 _ _ hlt, List.take_succ_eq_append_getElem hlt])
      generalize hl : rd_L4 l0 (i : Int) = l at *
      clear hl
      subst hA
      have hl0 : (l.length : Int) ≤ 1048576 := by omega
      have HCW := Aside0.mk hc
      replace hc := (HB.out.cell (World.block_lt_of_cell? _ _ hc)).trans hc
      go_wp2_with fail
      refine (roomy.calls A1 c1 l wo HC1.out HCC.out (by omega)).mono ?_
      rintro e w1 ⟨vf, rfl, ho, hb⟩
      obtain ⟨Af, cf, rfl⟩ := Kd.R_slice ho
      rw [show l ++ marks l.length = roomed l from rfl, roomed_len] at ho ⊢
      have hcf := (Kd.R_reads' ho).2.1
      have HF := Aside0.mk ho
      have HFT := Aside0.mk (Kd.R_lower (Kd.R_tight E32 ho) HB.out.size)
      have HB1 := Aside0.mk hb
      clear ho hb
      have HI1 := Aside0.mk (Kd.R_below HI.out HB1.out)
      have HH1 := Aside0.mk (Kd.R_below HH.out HB1.out)
      have HBB := Aside0.mk (HB.out.trans (HB1.out.mono HB.out.size))
      have hFI : ∀ k, some k = (Value.slice Af (l.length + 3) cf).ownBlock → (True ∧ some k ≠ u3.ownBlock) ∧ some k ≠ u4.ownBlock := fun k hk => by
        have h1 := Kd.R_base HF.out k hk.symm
        exact ⟨⟨trivial, fun h2 => by have := Kd.R_lt HI.out k h2.symm; omega⟩, fun h2 => by have := Kd.R_lt HH.out k h2.symm; omega⟩
      have HFI := Aside0.mk hFI
      have HFL1 := Aside0.mk (Kd.R_lt HF.out)
      clear hFI
      have hHL : ((l0.take i).map roomed).length = i := by rw [List.length_map, List.length_take]; omega
      have hIL : (l0.take i).length = i := by rw [List.length_take]; omega
      have HHL := Aside0.mk hHL
      have HIL := Aside0.mk hIL
      clear hHL hIL
      go_upto_region 8 with ((with_reducible refine gate_builtin (b := .append) (xs := #[.tmp 24, .tmp 26]) rfl ?_); at_builtin; refine Kd.R_append KL (w0 := w) w.heap.size rfl (.tmp 24) (.tmp 26) 40 22 (.slice none 0 0) 24 rfl Try.underlying40 info22 rfl (by decide) (by omega) u4 ((l0.take i).map roomed) (roomed l) [.slice Af (l.length + 3) cf] (fun k => True ∧ some k ≠ u3.ownBlock) (fun k => some k = (Value.slice Af (l.length + 3) cf).ownBlock) rfl rfl ⟨_, rfl, HFT.out⟩ HFI.out (fun k hk => ⟨trivial, fun h2 => by have := Kd.R_lt HI1.out k h2.symm; omega⟩) HH1.out HBB.out HBB.out.size (by rw [HHL.out]; omega) ?_; intro vh w2 ho hb hg hat; have HH2 := Aside0.mk ho; have HB2 := Aside0.mk hb; have HG2 := Aside0.mk hg; have HA2 := Aside0.mk hat; clear ho hb hg hat)
      have HI2 := Aside0.mk (Kd.R_after (ok := fun _ => True) HI1.out HG2.out HA2.out)
      have HFT2 := Aside0.mk (Kd.R_grown HFT.out HG2.out (fun k hk => (HFI.out k hk).2))
      have HFK2 := Aside0.mk (show Kd.R k32 32 w2 w.heap.size (fun k => some k = (Value.slice Af (l.length + 3) cf).ownBlock) (.slice Af l.length cf) l from by
        have := Kd.R_take HFT2.out (m := l.length) (by rw [roomed_len]; omega)
        rw [show (roomed l).take l.length = l from List.take_left] at this
        exact this)
      have HFI2 : Aside0 (∀ k, some k = (Value.slice Af (l.length + 3) cf).ownBlock → (True ∧ some k ≠ vh.ownBlock) ∧ some k ≠ u3.ownBlock) := Aside0.mk (fun k hk => by
        refine ⟨⟨trivial, fun h2 => ?_⟩, (HFI.out k hk).1.2⟩
        rcases HA2.out with h3 | ⟨b, h3, h4⟩
        · exact (HFI.out k hk).2 (h2.trans h3)
        · rw [h3] at h2
          have := HFL1.out k hk.symm
          cases h2
          omega)
      have hcw2 : w2.cell? (ad.add i) = some (.slice A1 l.length c1) := (HB2.out.cell (World.block_lt_of_cell? _ _ HCW.out)).trans HCW.out
      have hcfz : (l.length : Int) ≤ (cf : Int) := by omega
      clear hc
      go_wp2_with ((with_reducible refine gate_builtin (b := .append) (xs := #[.tmp 28, .tmp 36]) rfl ?_); at_builtin; refine Kd.R_append KL (w0 := w) w.heap.size rfl (.tmp 28) (.tmp 36) 40 22 (.slice none 0 0) 24 rfl Try.underlying40 info22 rfl (by decide) (by omega) u3 (l0.take i) l [.slice Af l.length cf] (fun k => True ∧ some k ≠ vh.ownBlock) (fun k => some k = (Value.slice Af (l.length + 3) cf).ownBlock) rfl rfl ⟨_, rfl, HFK2.out⟩ HFI2.out (fun k hk => ⟨trivial, fun h2 => by have := Kd.R_lt HH2.out k h2.symm; omega⟩) HI2.out HB2.out HB2.out.size (by rw [HIL.out]; omega) ?_; intro vi w3 ho hb hg hat; have HI3 := Aside0.mk ho; have HB3 := Aside0.mk hb; have HG3 := Aside0.mk hg; have HA3 := Aside0.mk hat; clear ho hb hg hat)
      have HH3 := Aside0.mk (Kd.R_after (ok := fun _ => True) HH2.out HG3.out HA3.out)
      go_roundg (l0.length - (i + 1))
      case measure => omega
      case rel =>
        refine ⟨i + 1, by go_num, by omega, Nat.le_refl _, Aside0.mk ?_, Aside0.mk ?_, HB3⟩
        · rw [HTK.out]; exact HI3.out
        · rw [HTK.out, List.map_append]; exact HH3.out
    · have hltz : ¬ (i : Int) < (l0.length : Int) := by omega
      obtain rfl : i = l0.length := by omega
      rw [List.take_length] at HI HH
      obtain ⟨Ai, ci, rfl⟩ := Kd.R_slice HI.out
      obtain ⟨Ah, ch, rfl⟩ := Kd.R_slice HH.out
      have hmm : (l0.map roomed).length = l0.length := List.length_map ..
      rw [hmm] at HH
      have HMM := Aside0.mk hmm
      clear hmm
      go_wp2_with fail
      refine (flow_Merge.calls insAll Ai ci l0 wo (Kd.R_reads' HI.out).2.2 (Kd.R_reads' HI.out).2.1 hn0 HFL.out).mono ?_
      rintro e w1 ⟨v1, m, r2, rfl, ho1, hb1, hml, hg1⟩
      obtain ⟨A1, c1, rfl⟩ := Kd.R_slice ho1
      obtain ⟨k, hk⟩ := refMerge l0 hn0 HFL.out m r2 hg1
      have HO1 := Aside0.mk ho1
      have HB1 := Aside0.mk hb1
      have HK := Aside0.mk hk
      clear ho1 hb1 hg1 hk
      have HR1 := Aside0.mk (Kd.C_below (Kd.C_below HR0.out HB.out) HB1.out)
      go_wp2_with fail
      refine (payoffref03_Merge.calls k A0 c0 l0 m r2 w1 HR1.out HC0.out HK.out).mono ?_
      rintro e w2 ⟨v2, rfl, ho2, hb2⟩
      obtain ⟨A2, c2, rfl⟩ := Kd.R_slice ho2
      have HO2 := Aside0.mk ho2
      have HB2 := Aside0.mk hb2
      clear ho2 hb2
      have hrr : (r2 == r2) = true := by simp
      go_wp2_with fail
      refine (payofflaw03_same.calls (m.length + 1) A1 c1 m A2 c2 m true w2 (Kd.C_below (Kd.R_reads' HO1.out).2.2 HB2.out) (Kd.R_reads' HO1.out).2.1 (Kd.R_reads' HO2.out).2.2 (Kd.R_reads' HO2.out).2.1 (same_self m (by omega) _ (by omega))).mono ?_
      rintro e w3 ⟨rfl, hd3⟩
      have HB3 := Aside0.mk hd3.below
      clear hd3
      go_wp2_with fail
      refine (hold.calls (.slice A1 m.length c1) (.slice none 0 0) m [] (-9) wo.heap.size (fun _ => True) (fun _ => True) w3 w3 (Kd.R_below (Kd.R_below HO1.out HB2.out) HB3.out) (Kd.R_nil _ _ _ _ _) (by have := HB1.out.size; have := HB2.out.size; have := HB3.out.size; omega) (by omega) (by simp)).mono ?_
      rintro e w4 ⟨rfl, _, _, hx⟩
      have HB4 := Aside0.mk (hx.to_below (B := wo.heap.size) (by have := HB1.out.size; have := HB2.out.size; have := HB3.out.size; omega) (Kd.R_base HO1.out) (fun k hk => by cases hk))
      clear hx
      have HB14 := Aside0.mk (((HB1.out.trans (HB2.out.mono HB1.out.size)).trans (HB3.out.mono (Nat.le_trans HB1.out.size HB2.out.size))).trans HB4.out)
      have HH4 := Aside0.mk (Kd.R_below HH.out HB14.out)
      have HR4 := Aside0.mk (Kd.C_below (Kd.C_below HR0.out HB.out) HB14.out)
      have HBW := Aside0.mk (HB.out.trans (HB14.out.mono HB.out.size))
      clear HO1 HO2 HI HH HB HB1 HB2 HB3 HB4 HB14 HR1
      go_wp2
      go_loopg [12] l0.length (fun kx s12 wr => ∃ (i : Nat), s12 = .int .i64 i ∧ i ≤ l0.length ∧ l0.length - i ≤ kx ∧ Aside0 (Below w4.heap.size w4 wr))
      case atStart => exact ⟨0, rfl, Nat.zero_le _, by omega, Aside0.mk (Below.refl _ _)⟩
      case round =>
        obtain ⟨i, rfl, hi2, hkx2, HB5⟩ := hrel
        obtain ⟨wi, rfl⟩ : ∃ wi : World, wi = wr := ⟨_, rfl⟩
        by_cases hlt : i < l0.length
        · have hltz : (i : Int) < (l0.length : Int) := by omega
          have hle : (rd_L4 l0 i).length ≤ 1048576 := by have := flat_le l0 i hlt; have := HFL.out; omega
          obtain ⟨ad, Ax, cx, hA, hxc, hxcc, hxC⟩ := at_L4 (Kd.C_below HR4.out HB5.out) (i : Int) (by omega) hltz
          obtain ⟨ah, Ay, cy, hAh, hyc, hycc, hyC⟩ := at_L4 (Kd.C_below (Kd.R_reads' HH4.out).2.2 HB5.out) (i : Int) (by omega) (by rw [HMM.out]; exact hltz)
          have hroom : rd_L4 (l0.map roomed) (i : Int) = roomed (rd_L4 l0 (i : Int)) := by
            rw [rdL4 _ _ (by rw [HMM.out]; exact hlt), rdL4 _ _ hlt, List.getElem_map]
          rw [hroom] at hyc hycc hyC
          rw [Int.toNat_natCast] at hxc hyc
          generalize hl : rd_L4 l0 (i : Int) = l at *
          clear hl hroom
          have hcall : ∀ q, Calls Try.prog 15 #[.slice Ay (l.length + 3) cy, .slice Ax l.length cx] (wi.drewN q) fun e w' => e = .returned (.bool true) ∧ ∃ n, w' = (wi.drewN q).drewN n := fun q => by
            have hbq := pw_below_drewN (Below.refl wi.heap.size wi) q
            have := payofflaw03_untouched.calls (l.length + 5) Ay cy (roomed l) Ax cx l true (wi.drewN q) (Kd.C_below hyC hbq) hycc (Kd.C_below hxC hbq) hxcc (untouched_room l (by omega) _ (by omega))
            rw [roomed_len] at this
            exact this.mono fun e w' ⟨h1, h2⟩ => ⟨h1, h2.out⟩
          subst hA hAh
          rw [roomed_len] at hyc
          have HCALL := Aside0.mk hcall
          clear hcall hyC hxC hycc hxcc
          go_wp2_with fail
          go_quiet ((go_at_call 15; exact Calls.quiet_of (HCALL.out _)))
          go_wp2
          go_roundg (l0.length - (i + 1))
          case measure => omega
          case rel => exact ⟨i + 1, by go_num, by omega, Nat.le_refl _, Aside0.mk (pw_below_drewN HB5.out _)⟩
        · have hltz : ¬ (i : Int) < (l0.length : Int) := by omega
          go_wp2
          go_ret
          exact ⟨rfl, HBW.out.trans (HB5.out.mono HBW.out.size)⟩
end Go.Proofs.Ytdfndbegifdejaa.PFlowExact
