/- flow.Totals: what it answers, as a function (its answer is determined); its contract in that form. -/
import Derived.Test.YtdfndbegifdejaaDoorNct
namespace Go.Proofs.YtdfndbegifdejaaDoor.GD
set_option linter.unusedVariables false
set_option linter.unusedSimpArgs false
open Go.RowKit Go.Proofs.YtdfndbegifdejaaDoorW.PrintWords Go.Sort
open Classical

theorem sortedS_eq {a b : List ByteArray} (ha : a.Nodup) (hb : b.Nodup) (hm : ∀ c, c ∈ a ↔ c ∈ b) (hsa : a.Pairwise (fun x y => sless y x = false)) (hsb : b.Pairwise (fun x y => sless y x = false)) : a = b := by
  refine List.Perm.eq_of_pairwise (le := fun x y => sless y x = false) (fun x y _ _ h1 h2 => sless_ext h2 h1) hsa hsb ?_
  exact (List.perm_ext_iff_of_nodup ha hb).2 hm
theorem KeyList.uniq {l : List S32} {a b : List ByteArray} (ha : KeyList l a) (hb : KeyList l b) : a = b :=
  sortedS_eq ha.nodup hb.nodup (fun c => ⟨fun h => (hb.mem c).2 ((ha.mem c).1 h), fun h => (ha.mem c).2 ((hb.mem c).1 h)⟩) ha.sorted hb.sorted
theorem TotGood.uniq {l : List S32} {a b : List S79} {f g : Int} (h1 : TotGood l a f) (h2 : TotGood l b g) : a = b ∧ f = g := by
  obtain ⟨k1, p1, h1⟩ := h1
  obtain ⟨k2, p2, h2⟩ := h2
  obtain rfl := p1.uniq p2
  rcases h1 with ⟨rfl, rfl, z1⟩ | ⟨rfl, rfl, q, hq, z1⟩
  · rcases h2 with ⟨rfl, rfl, z2⟩ | ⟨rfl, rfl, q2, hq2, z2⟩
    · exact ⟨rfl, rfl⟩
    · have := z1 q2 hq2; omega
  · rcases h2 with ⟨rfl, rfl, z2⟩ | ⟨rfl, rfl, q2, hq2, z2⟩
    · have := z2 q hq; omega
    · exact ⟨rfl, rfl⟩
/-- What Totals answers. -/
noncomputable def flow_Totals.f (l : List S32) : Option (List S79 × Int) :=
  if h : (WfA l ∧ l.length * 32 ≤ 140737488351232) ∧ ∃ p : List S79 × Int, TotGood l p.1 p.2 then some (Classical.choose h.2) else none
theorem flow_Totals.good {l : List S32} {ts : List S79} {f : Int} (h : flow_Totals.f l = some (ts, f)) : WfA l ∧ l.length * 32 ≤ 140737488351232 ∧ TotGood l ts f := by
  unfold flow_Totals.f at h
  split at h
  · rename_i h0
    have h1 := Classical.choose_spec h0.2
    rw [Option.some.inj h] at h1
    exact ⟨h0.1.1, h0.1.2, h1⟩
  · cases h
theorem flow_Totals.of_good {l : List S32} {ts : List S79} {f : Int} (hw : WfA l) (hn : l.length * 32 ≤ 140737488351232) (h : TotGood l ts f) : flow_Totals.f l = some (ts, f) := by
  have h0 : (WfA l ∧ l.length * 32 ≤ 140737488351232) ∧ ∃ p : List S79 × Int, TotGood l p.1 p.2 := ⟨⟨hw, hn⟩, (ts, f), h⟩
  unfold flow_Totals.f
  rw [dif_pos h0]
  have h1 := (Classical.choose_spec h0.2).uniq h
  congr 1
  exact Prod.ext h1.1 h1.2
set_option maxHeartbeats 1000000 in
theorem flow_Totals.calls0 (A0 : Option Addr) (c0 : Nat) (l0 : List S32) (w : World) (hr0 : Kd.C k32 w A0 l0.length l0) (hc0 : l0.length ≤ c0) (hsz : l0.length * 32 ≤ 140737488351232) (hwf : WfA l0) :
    Calls Tryd.prog 20 #[.slice A0 l0.length c0] w fun e w' => ∃ (v : Value) (ts : List S79) (f : Int), e = .returned (.tuple #[v, .int .i64 f]) ∧ Kd.R k79 79 w' w.heap.size (fun _ => True) v ts ∧ Below w.heap.size w w' ∧ ts.length ≤ l0.length ∧ TotGood l0 ts f := by
  have hcall := gatherS.calls A0 c0 l0 w hr0 hc0 hsz hwf
  have HC := Aside0.mk hcall
  clear hr0 hc0 hwf hcall
  go_enter Tryd.func20, Tryd.ntmps20
  go_wp2_with (go_at_call 40; refine HC.out.mono ?_; rintro e w1 ⟨v, ts, f, rfl, h1, h2, h3, h4⟩)
  go_ret2
  exact ⟨_, ts, f, rfl, h1, h2, h3, h4⟩
theorem flow_Totals.calls (A0 : Option Addr) (c0 : Nat) (l0 : List S32) (r1 : List S79) (r2 : Int) (w : World) (hr0 : Kd.C k32 w A0 l0.length l0) (hc0 : l0.length ≤ c0) (h : flow_Totals.f l0 = some (r1, r2)) :
    Calls Tryd.prog 20 #[.slice A0 l0.length c0] w fun e w' => ∃ v0_ : Value, e = .returned (.tuple #[v0_, .int .i64 r2]) ∧ Kd.R k79 79 w' w.heap.size (fun _ => True) v0_ r1 ∧ Below w.heap.size w w' := by
  obtain ⟨hw, hn, hg⟩ := flow_Totals.good h
  refine (flow_Totals.calls0 A0 c0 l0 w hr0 hc0 hn hw).mono ?_
  rintro e w' ⟨v, ts, f, rfl, h1, h2, _, h4⟩
  obtain ⟨rfl, rfl⟩ := h4.uniq hg
  exact ⟨v, rfl, h1, h2⟩
end Go.Proofs.YtdfndbegifdejaaDoor.GD
