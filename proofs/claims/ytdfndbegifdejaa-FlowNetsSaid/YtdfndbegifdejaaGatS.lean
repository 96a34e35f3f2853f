/- flow.gather at strings (flow.Totals): its contract. -/
import Derived.Test.YtdfndbegifdejaaGrp
import Derived.Test.YtdfndbegifdejaaSrtS
import Derived.Test.YtdfndbegifdejaaRefAdd
import Derived.Test.YtdfndbegifdejaaLaysR
import Derived.Deep.LoopGhost
import Derived.Maps.AppendAt
import Derived.WalkKit
namespace Go.Proofs.Ytdfndbegifdejaa.PFlowExact
set_option linter.unusedVariables false
set_option linter.unusedSimpArgs false
open Go.RowKit Go.Proofs.YtdfndbegifdejaaW.PrintWords Go.Proofs.YtdfndbegifdejaaW.PrintLast Go.Proofs.YtdfndbegifdejaaW.PrintMore Go.Proofs.YtdfndbegifdejaaMine Go.ChangeShapes

def slit (s : ByteArray) : Lit := .string s.data.toList
def curL (x : S32) : Lit := slit x.f1
theorem slit_key (s : ByteArray) : WideAt.IsKeyLit (slit s) := trivial
theorem slit_inj {a b : ByteArray} (h : slit a = slit b) : a = b := by
  unfold slit at h; injection h with h
  exact ByteArray.ext (Array.ext' h)
theorem keyOf9 (s : ByteArray) (h : s.size ≤ maxLen) : keyOf Try.prog 9 (.string s) = some (slit s) := by
  simp [keyOf, Try.underlying9, mapKey, slit, h]
theorem law9 : Maps.Keyed Try.prog 9 := Maps.string_keyed Try.underlying9
theorem zero74 (w : World) : (zeroValue 74).run Try.prog w = .ok (.slice none 0 0) w := Try.zeroValue74 w
def WfA (l : List S32) : Prop := ∀ x ∈ l, x.f1.size ≤ maxLen ∧ (Lit.int .i64 x.f2).wf = true

theorem Tot1.calls (x : S32) (w : World) : Calls Try.prog 43 #[.agg #[.int .i64 x.f0, .string x.f1, .int .i64 x.f2]] w fun e w' => e = .returned (.string x.f1) ∧ Below w.heap.size w w' := by
  go_enter Try.func43, Try.ntmps43
  go_wp2
  go_ret
  exact ⟨rfl, below_alloc (Below.refl _ _) _⟩
theorem Tot2.calls (k : ByteArray) (s : Int) (w : World) : Calls Try.prog 44 #[.string k, .int .i64 s] w fun e w' => e = .returned (.agg #[.string k, .int .i64 s]) ∧ Below w.heap.size w w' := by
  go_enter Try.func44, Try.ntmps44
  go_wp2
  exact bodyPost_ret (v := .agg #[.string k, .int .i64 s]) (by simp [results, Try.results44, go_sem]) rfl ⟨rfl, below_alloc (Below.refl _ _) _⟩

theorem info9 : (Try.prog.info? 9).map (fun i => (i.zero, i.size, i.bytes)) = some (some (.string ⟨#[]⟩), 1, 16) := by kernel_rfl
/-- The keys that have come so far. -/
structure Keys (D : DataW Unit) (left : Lit → Bool) (ks : List ByteArray) : Prop where
  nodup : ks.Nodup
  mem : ∀ c, c ∈ ks ↔ (Maps.has D (slit c) = true ∧ left (slit c) = false)
theorem keys_start (D : DataW Unit) : Keys D (Maps.has D) [] := ⟨List.nodup_nil, fun c => by simp⟩
theorem keys_step {D : DataW Unit} {left : Lit → Bool} {ks : List ByteArray} (h : Keys D left ks) (x : ByteArray) (hl : left (slit x) = true) (hh : Maps.has D (slit x) = true) :
    Keys D (fun z => left z && !z.sameKey (slit x)) (ks ++ [x]) := by
  have hx : x ∉ ks := fun hm => by have := ((h.mem x).1 hm).2; rw [hl] at this; cases this
  refine ⟨?_, fun c => ?_⟩
  · rw [List.nodup_append]
    exact ⟨h.nodup, by simp, fun a ha b hb => by rw [List.mem_singleton.1 hb]; intro e; subst e; exact hx ha⟩
  · rw [List.mem_append, List.mem_singleton, h.mem]
    by_cases e : c = x
    · subst e
      have : (slit c).sameKey (slit c) = true := WideAt.sameKey_self (slit_key c)
      simp [this, hh]
    · have : (slit c).sameKey (slit x) = false := Maps.sameKey_ne (fun e2 => e (slit_inj e2))
      simp [this, e]

theorem keyOf9_inv {x : ByteArray} {kl : Lit} (h : keyOf Try.prog 9 (.string x) = some kl) : x.size ≤ maxLen ∧ kl = slit x := by
  simp [keyOf, Try.underlying9, mapKey] at h
  exact ⟨h.1, h.2.symm⟩
theorem keyOf9_str {key : Value} {kl : Lit} (h : keyOf Try.prog 9 key = some kl) : ∃ x, key = .string x := by
  cases key <;> first | exact ⟨_, rfl⟩ | (simp [keyOf, Try.underlying9, mapKey] at h)

/-- What a list of numbers adds up to; the second: the fault. -/
def sumF : Int → List Int → Int × Int
  | s, [] => (s, 0)
  | s, x :: r => if ((decide (x ≥ 0)) != (decide ((wrap64 (s + x)) ≥ s))) = true then (0, 1) else sumF (wrap64 (s + x)) r

theorem sumF_two : ∀ (l : List Int) (s : Int), (sumF s l).2 = 0 ∨ sumF s l = (0, 1)
  | [], s => .inl rfl
  | x :: r, s => by
    unfold sumF
    split
    · exact .inr rfl
    · exact sumF_two r _
theorem numSum_f (zs : List Int) (hz : zs.length ≤ 4398046511104) : ∃ k, num_Sum.f k zs = some (sumF 0 zs) := by
  have key : ∀ (d i : Nat) (s : Int), zs.length - i = d → i ≤ zs.length → ∃ k, num_Sum.l0 k s zs (zs.length : Int) (i : Int) = some (sumF s (zs.drop i)) := by
    intro d
    induction d with
    | zero =>
      intro i s hd hi
      obtain rfl : i = zs.length := by omega
      exact ⟨1, by simp only [num_Sum.l0]; rw [if_neg (by omega), List.drop_length]; rfl⟩
    | succ d ih =>
      intro i s hd hi
      have hlt : i < zs.length := by omega
      have e1 : rd zs (i : Int) = zs[i] := by simp [rd, hlt]
      have e2 : wrap64 ((i : Int) + 1) = ((i + 1 : Nat) : Int) := by unfold wrap64; omega
      rw [List.drop_eq_getElem_cons hlt]
      unfold sumF
      by_cases hc : ((decide (zs[i] ≥ 0)) != (decide ((wrap64 (s + zs[i])) ≥ s))) = true
      · refine ⟨1, ?_⟩
        simp only [num_Sum.l0]
        rw [if_pos (by omega), if_pos (by omega), if_pos (by omega), e1]
        unfold num_Add.f
        rw [if_pos hc, if_pos hc]
        rfl
      · obtain ⟨k, hk⟩ := ih (i + 1) (wrap64 (s + zs[i])) (by omega) (by omega)
        refine ⟨k + 1, ?_⟩
        simp only [num_Sum.l0]
        rw [if_pos (by omega), if_pos (by omega), if_pos (by omega), e1]
        unfold num_Add.f
        rw [if_neg hc, if_neg hc]
        simp only [Option.bind_some, if_true]
        rw [e2]
        exact hk
  obtain ⟨k, hk⟩ := key zs.length 0 0 (by omega) (by omega)
  exact ⟨k, by unfold num_Sum.f; exact hk⟩

theorem str_ne62 : ∀ q, q ∈ 9 :: Kd.string.E → q ≠ 62 := by
  intro q hq
  have : q = 9 := by simpa [Kd.string, Kd.scalar] using hq
  omega

/-- What is added up of each key. -/
noncomputable def tots (l0 : List S32) (ks : List ByteArray) : List S62 := ks.map (fun k => ⟨k, (sumF 0 (grp curL (slit k) l0)).1⟩)
/-- The keys, each once, in order. -/
structure KeyList (l0 : List S32) (ks : List ByteArray) : Prop where
  nodup : ks.Nodup
  mem : ∀ c, c ∈ ks ↔ ∃ x ∈ l0, curL x = slit c
  sorted : ks.Pairwise (fun a b => sless b a = false)
/-- The answer of gather. -/
def TotGood (l0 : List S32) (ts : List S62) (f : Int) : Prop :=
  ∃ ks, KeyList l0 ks ∧ ((f = 0 ∧ ts = tots l0 ks ∧ ∀ k ∈ ks, (sumF 0 (grp curL (slit k) l0)).2 = 0) ∨ (f = 1 ∧ ts = [] ∧ ∃ k ∈ ks, (sumF 0 (grp curL (slit k) l0)).2 = 1))

set_option maxHeartbeats 4000000 in
set_option maxRecDepth 100000 in
theorem gatherS.calls (A0 : Option Addr) (c0 : Nat) (l0 : List S32) (w : World) (hr0 : Kd.C k32 w A0 l0.length l0) (hc0 : l0.length ≤ c0) (hsz : l0.length * 32 ≤ 140737488351232) (hwf : WfA l0) :
    Calls Try.prog 42 #[.slice A0 l0.length c0, .func (.func 43) #[] #[], .func (.func 37) #[] #[], .func (.func 44) #[] #[]] w fun e w' => ∃ (v : Value) (ts : List S62) (f : Int), e = .returned (.tuple #[v, .int .i64 f]) ∧ Kd.R k62 62 w' w.heap.size (fun _ => True) v ts ∧ Below w.heap.size w w' ∧ ts.length ≤ l0.length ∧ TotGood l0 ts f := by
  have HR0 := Aside0.mk hr0
  have HC0 := Aside0.mk hc0
  have HWF := Aside0.mk hwf
  have hmm := @run_makeMap Try.prog
  clear hr0 hc0 hwf
  obtain ⟨i0, hi, hz0, hz1, hz2⟩ := info_parts info3
  go_enter Try.func42, Try.ntmps42
  go_wp2
  go_loopg [24] l0.length (fun kx s24 wr => ∃ (i : Nat), s24 = .int .i64 i ∧ i ≤ l0.length ∧ l0.length - i ≤ kx ∧ Aside0 (∃ D : DataW Unit, wr.ownsGroups Try.prog 9 (w.heap.size + 1) 3 .i64 w.heap.size i D ∧ Says curL D (l0.take i)) ∧ Aside0 (Below w.heap.size w wr))
  case atStart => exact ⟨0, rfl, Nat.zero_le _, by omega, Aside0.mk ⟨_, World.ownsGroups_made _ _ _ _ _, says_nil _⟩, Aside0.mk (below_alloc (Below.refl _ _) _)⟩
  case round =>
    obtain ⟨i, rfl, hi2, hkx, HD, HB⟩ := hrel
    obtain ⟨wo, rfl⟩ : ∃ wo : World, wo = wr := ⟨_, rfl⟩
    by_cases hlt : i < l0.length
    · have hltz : (i : Int) < (l0.length : Int) := by omega
      obtain ⟨ad, hA, hx0, hx1, hx2⟩ := at_T32 (Kd.C_below HR0.out HB.out) (i : Int) (by omega) hltz
      rw [Int.toNat_natCast] at hx0 hx1 hx2
      have hmem : rd_T32 l0 (i : Int) ∈ l0 := by simp [rd_T32, hlt]
      have HWX := Aside0.mk (HWF.out _ hmem)
      have HTK := Aside0.mk (show l0.take (i + 1) = l0.take i ++ [rd_T32 l0 (i : Int)] by rw [List.take_succ_eq_append_getElem hlt]; simp [rd_T32, hlt])
      generalize hxx : rd_T32 l0 (i : Int) = x at *
      clear hmem hxx
      subst hA
      go_wp2_with fail
      refine (Tot1.calls x _).mono ?_
      rintro e w1 ⟨rfl, hb1⟩
      have HB1 := Aside0.mk hb1
      have hbx : Below (wo.alloc (Obj.cells #[.int .i64 x.f0, .string x.f1, .int .i64 x.f2] 32 (0, 0))).heap.size (wo.alloc (Obj.cells #[.int .i64 x.f0, .string x.f1, .int .i64 x.f2] 32 (0, 0))) w1 := hb1
      have HB2 := Aside0.mk (HB.out.trans (Below.mono ((below_alloc (Below.refl wo.heap.size wo) _).trans (hbx.mono (by simp))) HB.out.size))
      have hc2 : w1.cell? ⟨wo.heap.size, 2, none⟩ = some (.int .i64 x.f2) := (hbx.cell (p := ⟨wo.heap.size, 2, none⟩) (by simp)).trans ((blk_cell (blk_new wo _) 2).trans rfl)
      obtain ⟨D, hown, hsay⟩ := HD.out
      have hown1 := hown.kept (grown_of_below ((below_alloc (Below.refl wo.heap.size wo) _).trans (hbx.mono (by simp))) none) (by simp) (fun es clock hb x hx => by cases x.val.ownBlock <;> simp)
      have HSY := Aside0.mk hsay
      have hkey := keyOf9 x.f1 HWX.out.1
      have hw1z : w.heap.size < w1.heap.size := by
        have h1 := HB.out.size
        have h2 := hbx.size
        simp at h2
        obtain ⟨es, clock, h3, _⟩ := hown
        have := (Array.getElem?_eq_some_iff.1 h3).1
        omega
      clear hb1 hbx hown hsay
      go_wp2_with (first | (at_lookup; refine wpList_lookup_groups _ rfl _ _ 100 rfl 9 74 3 .i64 law9 Try.underlying100 (zero74 _) (w.heap.size + 1) w.heap.size i D rfl hown1 (by unfold maxLen; omega) _ _ rfl hkey ?_; intro v zs hat hoi hzl hback; have hzs : Aside0 (zs = grp curL (curL x) (l0.take i)) := Aside0.mk (says_at HSY.out (slit_key _) hat hoi); clear hat hown1) | (at_builtin; refine wpList_append_own_at _ rfl _ _ 74 rfl (w.heap.size + 1) 3 i0 (.int .i64 0) 1 8 Try.underlying74 hi hz0 hz1 hz2 rfl (by decide) _ _ _ rfl (hoi.1.alloc _) ⟨w1.heap.size, 0, none⟩ 1 1 [.int .i64 x.f2] rfl rfl (cell_one_new _ _ _) (ints_oneCell .i64 [x.f2]) (by unfold maxLen; omega) (by omega) (by simp; omega) ?_; intro v' w2 hown' hgrow hnil hloc) | (at_mapUpdate; refine wpList_mapUpdate_back (v' := v') _ rfl _ _ _ 100 rfl hback rfl rfl rfl ((World.grownBy_alloc _ _ _).trans hgrow) (hoi.appended hown' HWX.out.2) (by simp; omega) (hloc.imp id (fun h => ⟨_, h, by simp⟩)) ?_; intro w3 hown3 hgrow3))
      have HB3 := Aside0.mk (Below.groups HB2.out hoi ((World.grownBy_alloc _ _ _).trans hgrow) hgrow3 (by omega) (by omega) (Nat.le_refl _))
      have HOW := Aside0.mk (show ∃ D : DataW Unit, w3.ownsGroups Try.prog 9 (w.heap.size + 1) 3 .i64 w.heap.size (i + 1) D ∧ Says curL D (l0.take (i + 1)) from ⟨_, hown3, by
        rw [HTK.out]
        refine says_step HSY.out (fun y => slit_key _) x _ ?_
        have h1 := (hoi.appended hown' HWX.out.2).datum_pos (H := Unit) (by simp)
        rw [h1, hzs.out, gd_pos (by simp)]⟩)
      clear hown3 hgrow3 hown' hgrow hnil hloc hback hoi hzl
      go_roundg (l0.length - (i + 1))
      case measure => omega
      case rel => exact ⟨i + 1, by go_num, by omega, Nat.le_refl _, HOW, HB3⟩
    · have hltz : ¬ (i : Int) < (l0.length : Int) := by omega
      obtain rfl : i = l0.length := by omega
      rw [List.take_length] at HD
      obtain ⟨D, hown, hsay⟩ := HD.out
      have HSY := Aside0.mk hsay
      have HOG := Aside0.mk hown
      have hmap : wo.ownsMap Try.prog 9 (rowElem wo (w.heap.size + 1) 3 .i64) w.heap.size l0.length D := by
        obtain ⟨es, clock, h1, h2, h3, h4, _⟩ := hown
        exact ⟨es, clock, h1, h2, h3, h4⟩
      clear hown hsay HD hi2 hkx hltz hlt
      have hshun : wo.Shuns w.heap.size (fun g => wo.heap.size ≤ g) := by
        obtain ⟨es, clock, h1, F, _⟩ := HOG.out
        intro es' clock' h2 y hy g hg
        rw [h1] at h2
        cases h2
        obtain ⟨z, hz⟩ := F.reads y hy
        obtain ⟨u, hu, _⟩ := WideElems.rd_val hz
        obtain ⟨zs, ho, _⟩ := rowElem_inv hu
        have := (ho.1.lt g hg).2
        omega
      have hdl : Maps.size D ≤ l0.length := by
        obtain ⟨es, clock, h1, F, h3, rfl, _⟩ := HOG.out
        rw [Maps.size_eq, length_sorted]
        simpa using h3
      have hbz : w.heap.size < wo.heap.size := by
        obtain ⟨es, clock, h3, _⟩ := HOG.out
        exact (Array.getElem?_eq_some_iff.1 h3).1
      have HSH := Aside0.mk hshun
      clear hshun
      go_wp2_with (at_range; refine wpList_range_own _ rfl _ 100 rfl 9 74 law9 Try.underlying100 _ w.heap.size l0.length D rfl hmap ?_; intro w1 hrg hgr hsz1)
      have HRG := Aside0.mk hrg
      have HOG1 := Aside0.mk (HOG.out.kept hgr (by simp) (fun es clock hb x hx => by cases x.val.ownBlock <;> simp))
      have HSH1 := Aside0.mk (HSH.out.kept hgr hbz (by simp))
      have HB1 := Aside0.mk (HB.out.grown hgr HB.out.size (fun j hj => by cases hj))
      have hw1z : w1.heap.size = wo.heap.size + 1 := hsz1
      clear hrg hgr HOG HSH hmap hsz1
      generalize wo.heap.size = r at *
      have hw1a : r < w1.heap.size := by omega
      clear hw1z
      go_frame
      go_loopg [14] (Maps.size D) (fun kx s14 wr => ∃ (left : Lit → Bool) (cnt : Nat) (ks : List ByteArray), cnt ≤ kx ∧ ks.length + cnt ≤ l0.length ∧ Aside0 (wr.ranges Try.prog 9 (rowElem wo (w.heap.size + 1) 3 .i64) w.heap.size r l0.length D left cnt) ∧ Aside0 (Kd.string.R 9 wr (r + 1) (fun _ => True) s14 ks) ∧ Aside0 (Keys D left ks) ∧ Aside0 (wr.ownsGroups Try.prog 9 (w.heap.size + 1) 3 .i64 w.heap.size l0.length D) ∧ Aside0 (wr.Shuns w.heap.size (fun g => r ≤ g)) ∧ Aside0 (Below w.heap.size w wr ∧ r < wr.heap.size))
      case atStart => exact ⟨_, _, [], Nat.le_refl _, by simpa using hdl, HRG, Aside0.mk (Kd.R_nil _ _ _ _ _), Aside0.mk (keys_start D), HOG1, HSH1, Aside0.mk ⟨HB1.out, hw1a⟩⟩
      case round =>
        clear HRG HOG1 HSH1 HB1
        obtain ⟨left, cnt, ks, hcnt, hkl, HRG, HK, HKS, HOG, HSH, HB1⟩ := hrel
        obtain ⟨wi, rfl⟩ : ∃ wi : World, wi = wr := ⟨_, rfl⟩
        have HRR := HRG.out
        go_wp2_with (at_next; refine wpList_next_ranges _ rfl _ rfl 9 law9 (rowElem wo (w.heap.size + 1) 3 .i64) Value.string (id : Value → Value) ?_ (fun v y _ => ⟨v, rfl⟩) w.heap.size r l0.length D left cnt rfl HRR ?_ ?_)
        · intro key kl hk; exact keyOf9_str hk
        · -- nothing is left
          intro hc0 hl0
          have HKL : Aside0 (∀ c, c ∈ ks ↔ ∃ x ∈ l0, curL x = slit c) := Aside0.mk (fun c => by
            rw [HKS.out.mem, hl0, HSY.out.has _ (slit_key c)]; simp)
          have hks0 : ks.length ≤ l0.length := by omega
          clear hc0 hl0 HRR HRG hkl hcnt
          obtain ⟨Ak, ck, rfl⟩ := Kd.R_slice HK.out
          go_upto_region 14 with (go_at_call 60; refine (sortStrs_row wi (r + 1) (fun _ => True) (.slice Ak ks.length ck) ks HK.out (by omega)).mono ?_; rintro e w2 ⟨rfl, m, hml, hR, hg, hperm, hsrt⟩; have HM := Aside0.mk hR; have HG2 := Aside0.mk hg; have HP := Aside0.mk hperm; have HS := Aside0.mk hsrt; have HML := Aside0.mk hml; clear hR hg hperm hsrt hml)
          have hbs : w.heap.size < wi.heap.size ∧ r < wi.heap.size ∧ w.heap.size < r := by
            obtain ⟨es, clock, h3, _⟩ := HOG.out
            exact ⟨(Array.getElem?_eq_some_iff.1 h3).1, HB1.out.2, hbz⟩
          have hrow : ∀ j, (Value.slice Ak ks.length ck).ownBlock = some j → r + 1 ≤ j := fun j hj => Kd.R_base HK.out j hj
          have HOG2 := Aside0.mk (HOG.out.kept HG2.out (fun e => by have := hrow _ e.symm; omega) (HSH.out.rowsOff (fun j hj => by have := hrow _ hj; omega)))
          have HSH2 := Aside0.mk (HSH.out.kept HG2.out hbs.1 (fun e => by have := hrow _ e.symm; omega))
          have HB2 := Aside0.mk (show Below w.heap.size w w2 ∧ r < w2.heap.size from ⟨HB1.out.1.grown HG2.out (by omega) (fun j hj => by have := hrow _ hj; omega), by have := HG2.out.size; omega⟩)
          have HKEY : Aside0 (KeyList l0 m) := Aside0.mk ⟨(HP.out.nodup_iff).2 HKS.out.nodup, fun c => by rw [HP.out.mem_iff]; exact HKL.out c, HS.out⟩
          clear HOG HSH HB1 HKS HKL HP HS HK HG2 hrow
          go_wp2
          go_loopg [16, 56] ks.length (fun kx s16 s56 wr => ∃ (j : Nat), s56 = .int .i64 j ∧ j ≤ ks.length ∧ ks.length - j ≤ kx ∧ Aside0 (k62.R 62 wr (r + 1) (fun _ => True) s16 (tots l0 (m.take j))) ∧ Aside0 (∀ k ∈ m.take j, (sumF 0 (grp curL (slit k) l0)).2 = 0) ∧ Aside0 (Kd.string.R 9 wr (r + 1) (fun _ => True) (.slice Ak ks.length ck) m) ∧ Aside0 (wr.ownsGroups Try.prog 9 (w.heap.size + 1) 3 .i64 w.heap.size l0.length D) ∧ Aside0 (wr.Shuns w.heap.size (fun g => r ≤ g)) ∧ Aside0 (Below w.heap.size w wr ∧ r < wr.heap.size))
          case atStart => exact ⟨0, rfl, Nat.zero_le _, by omega, Aside0.mk (Kd.R_nil _ _ _ _ _), Aside0.mk (by simp), HM, HOG2, HSH2, HB2⟩
          case round =>
            clear HM HOG2 HSH2 HB2
            obtain ⟨j, rfl, hj, hkx, HO, HZ, HM, HOG, HSH, HB⟩ := hrel
            obtain ⟨wl, rfl⟩ : ∃ wl : World, wl = wr := ⟨_, rfl⟩
            by_cases hlt : j < ks.length
            · have hltz : (j : Int) < (ks.length : Int) := by omega
              have hjm : j < m.length := by rw [HML.out]; exact hlt
              have hM := HM.out
              rw [← HML.out] at hM
              obtain ⟨g, cap, hv, _⟩ := Kd.R_form hM (by omega)
              injection hv with hv1 _ hv3
              subst hv1
              subst hv3
              have hcell := (Kd.R_cell ByteArray.empty hM (j : Int) (by omega) (by omega)).1
              rw [Int.toNat_natCast, show rdOf ByteArray.empty m (j : Int) = m[j] by simp [rdOf, hjm]] at hcell
              have hkm : m[j] ∈ m := List.getElem_mem hjm
              obtain ⟨x0, hx0, hx1⟩ := (HKEY.out.mem _).1 hkm
              have hsz1 : m[j].size ≤ maxLen := by
                have h1 := slit_inj (show slit x0.f1 = slit m[j] from hx1)
                rw [← h1]; exact (HWF.out x0 hx0).1
              have HTK := Aside0.mk (show m.take (j + 1) = m.take j ++ [m[j]] from List.take_succ_eq_append_getElem hjm)
              have HKM := Aside0.mk hkm
              generalize m[j] = key at *
              clear hkm hx0 hx1 hM x0
              have hkey := keyOf9 key hsz1
              obtain ⟨sm, ft, hsf⟩ : ∃ sm ft, sumF 0 (grp curL (slit key) l0) = (sm, ft) := ⟨_, _, rfl⟩
              have HSF := Aside0.mk hsf
              have hft := sumF_two (grp curL (slit key) l0) 0
              rw [hsf] at hft
              have HFT := Aside0.mk hft
              clear hsf hft hsz1
              have hown1 := HOG.out
              go_upto_region 19 with (first | (at_lookup; refine wpList_lookup_groups _ rfl _ _ 100 rfl 9 74 3 .i64 law9 Try.underlying100 (zero74 _) (w.heap.size + 1) w.heap.size l0.length D rfl hown1 (by unfold maxLen; omega) _ _ rfl hkey ?_; intro v zs hat hoi hzl hback; obtain ⟨Az, cz, rfl⟩ := Kd.R_slice (Kd.R_of_own (enc := Value.int .i64) (h1 := fun _ => rfl) (ok := fun _ => True) hoi.1 (fun _ _ => trivial)); have hzs := says_at HSY.out (slit_key _) hat hoi; have HRZ := Aside0.mk (Kd.R_of_own (enc := Value.int .i64) (h1 := fun _ => rfl) (ok := fun _ => True) hoi.1 (fun _ _ => trivial)); have HZS := Aside0.mk hzs; clear hat hown1 hback hoi hzs) | (go_at_call 61; obtain ⟨kk, hkk⟩ := numSum_f zs (by omega); refine (num_Sum.calls kk Az cz zs sm ft _ (Kd.R_reads' HRZ.out).2.2 (Kd.R_reads' HRZ.out).2.1 (by rw [hkk, HZS.out, HSF.out])).mono ?_; clear hkk kk; rintro e w3 ⟨rfl, hd⟩; have HD3 := Aside0.mk hd.below; clear hd))
              have HBB := Aside0.mk (HB.out.1.trans (HD3.out.mono (by have := HB.out.2; omega)))
              rcases HFT.out with h0 | h1
              · obtain rfl : ft = 0 := h0
                have HO3 := Aside0.mk (Kd.R_below HO.out HD3.out)
                have HM3 := Aside0.mk (Kd.R_below HM.out HD3.out)
                have HOG3 := Aside0.mk (HOG.out.kept (grown_of_below HD3.out none) (by simp) (fun es clock hb x hx => by cases x.val.ownBlock <;> simp))
                have HSH3 := Aside0.mk (HSH.out.kept (grown_of_below HD3.out none) (by have := HB.out.2; omega) (by simp))
                have hr3 : r < w3.heap.size := by have := HD3.out.size; have := HB.out.2; omega
                have hlen : (tots l0 (m.take j)).length ≤ l0.length := by unfold tots; rw [List.length_map, List.length_take]; omega
                clear HO HM HOG HSH HFT HRZ HZS hcell hkey
                go_wp2_with (first | (go_at_call 44; refine (Tot2.calls key sm _).mono ?_; rintro e w4 ⟨rfl, hb4⟩; have HB4 := Aside0.mk hb4; have HO4 := Aside0.mk (Kd.R_below HO3.out HB4.out); have hwz4 : r + 1 ≤ w4.heap.size := (by have := hb4.size; omega); clear hb4) | ((with_reducible refine gate_builtin (b := .append) (xs := #[.tmp 70, .tmp 75]) rfl ?_); at_builtin; refine Kd.R_append k62 (w0 := w4) (r + 1) rfl (.tmp 70) (.tmp 75) 26 62 (.agg #[(.string ⟨#[]⟩), (.int .i64 0)]) 24 rfl Try.underlying26 info62 rfl (by decide) (by omega) u16 (tots l0 (m.take j)) ⟨key, sm⟩ [.string key, .int .i64 sm] (fun _ => True) (fun _ => False) rfl rfl (k62_mkM _ _ _ ⟨key, sm⟩) (fun _ h => h.elim) (fun _ _ => trivial) HO4.out (Below.refl _ _) hwz4 (by omega) ?_; intro v' w5 ho hb hg hat2; have HO5 := Aside0.mk ho; have HG5 := Aside0.mk hg; clear ho hb hg hat2))
                have hrow : ∀ q, u16.ownBlock = some q → r + 1 ≤ q := fun q hq => Kd.R_base HO4.out q hq
                have hbs : w.heap.size < w3.heap.size := by omega
                have HG4 := Aside0.mk (grown_of_below HB4.out none)
                have HSH4 := Aside0.mk (HSH3.out.kept HG4.out hbs (by simp))
                have HOG5 := Aside0.mk ((HOG3.out.kept HG4.out (by simp) (fun es clock hb x hx => by cases x.val.ownBlock <;> simp)).kept HG5.out (fun e => by have := hrow _ e.symm; omega) (HSH4.out.rowsOff (fun q hq => by have := hrow _ hq; omega)))
                have HSH5 := Aside0.mk (HSH4.out.kept HG5.out (by omega) (fun e => by have := hrow _ e.symm; omega))
                have HB5 := Aside0.mk (show Below w.heap.size w w5 ∧ r < w5.heap.size from ⟨(HBB.out.trans (HB4.out.mono (by omega))).grown HG5.out (by omega) (fun q hq => by have := hrow _ hq; omega), by have := HG5.out.size; omega⟩)
                have HM5 := Aside0.mk (Kd.R_over (Kd.R_below HM3.out HB4.out) HO4.out str_ne62 HG5.out)
                go_roundg (ks.length - (j + 1))
                case measure => omega
                case rel =>
                  refine ⟨j + 1, by go_num, by omega, Nat.le_refl _, Aside0.mk ?_, Aside0.mk ?_, HM5, HOG5, HSH5, HB5⟩
                  · rw [HTK.out]
                    have e : tots l0 (m.take j ++ [key]) = tots l0 (m.take j) ++ [⟨key, sm⟩] := by
                      unfold tots; rw [List.map_append, List.map_singleton, HSF.out]
                    rw [e]; exact HO5.out
                  · intro k hk
                    rw [HTK.out, List.mem_append] at hk
                    rcases hk with hk | hk
                    · exact HZ.out k hk
                    · rw [List.mem_singleton.1 hk, HSF.out]
              · cases h1
                go_wp2
                go_ret2
                exact ⟨_, [], 1, rfl, Kd.R_nil _ _ _ _ _, HBB.out, by simp, m, HKEY.out, .inr ⟨rfl, rfl, key, HKM.out, by rw [HSF.out]⟩⟩
            · have hltz : ¬ (j : Int) < (ks.length : Int) := by omega
              obtain rfl : j = ks.length := by omega
              rw [← HML.out, List.take_length] at HO HZ
              go_wp2
              go_ret2
              exact ⟨_, tots l0 m, 0, rfl, Kd.R_lower HO.out (by omega), HB.out.1, by unfold tots; rw [List.length_map, HML.out]; exact hks0, m, HKEY.out, .inl ⟨rfl, rfl, HZ.out⟩⟩
        · -- a key has come
          intro x c kl y1 y2 w1 cnt1 hkx hlk hR hat hrg1 hlt hg1 hs1 hen
          obtain ⟨hxs, rfl⟩ := keyOf9_inv hkx
          have hhas := Maps.has_true_of_atKey hat
          have HKS2 := Aside0.mk (keys_step HKS.out x hlk hhas)
          have HK1 := Aside0.mk (Kd.R_mono (Kd.R_grown (Kd.R_bound HK.out) hg1 (fun k hk e => by cases e; have := hk.2.1; omega)) (ok' := fun _ => True) (fun _ _ => trivial))
          have hbs : w.heap.size < wi.heap.size ∧ r < wi.heap.size ∧ w.heap.size < r := by
            obtain ⟨es, clock, h3, _⟩ := HOG.out
            exact ⟨(Array.getElem?_eq_some_iff.1 h3).1, HB1.out.2, hbz⟩
          have HOG2 := Aside0.mk (HOG.out.kept hg1 (fun e => by cases e; omega) (HSH.out.rowsOff (fun j hj => by cases hj; exact Nat.le_refl _)))
          have HSH2 := Aside0.mk (HSH.out.kept hg1 hbs.1 (fun e => by cases e; omega))
          have HB2 := Aside0.mk (HB1.out.1.grown hg1 (by omega) (fun j hj => by cases hj; omega))
          have HRG2 := Aside0.mk hrg1
          clear hrg1 HRG HRR HK HKS HOG HSH hR hat hg1 hkx hlk hhas
          have hwz : r + 1 ≤ w1.heap.size := by omega
          clear hs1
          go_wp2_with ((with_reducible refine gate_builtin (b := .append) (xs := #[.tmp 47, .tmp 49]) rfl ?_); at_builtin; refine Kd.R_append Kd.string (w0 := w1) (r + 1) rfl (.tmp 47) (.tmp 49) 101 9 (.string ⟨#[]⟩) 16 rfl Try.underlying101 info9 rfl (by decide) (by omega) u14 ks x [.string x] (fun _ => True) (fun _ => False) rfl rfl rfl (fun _ h => h.elim) (fun _ _ => trivial) HK1.out (Below.refl _ _) hwz (by omega) ?_; intro v' w2 ho hb hg hat2; have HK2 := Aside0.mk ho; have HG := Aside0.mk hg; clear ho hb hg hat2)
          have hrow : ∀ j, u14.ownBlock = some j → r + 1 ≤ j := fun j hj => Kd.R_base HK1.out j hj
          have HRG3 := Aside0.mk (HRG2.out.kept HG.out (fun e => by have := hrow _ e.symm; omega) (fun e => by have := hrow _ e.symm; omega))
          have HOG3 := Aside0.mk (HOG2.out.kept HG.out (fun e => by have := hrow _ e.symm; omega) (HSH2.out.rowsOff (fun j hj => by have := hrow _ hj; omega)))
          have HSH3 := Aside0.mk (HSH2.out.kept HG.out (by omega) (fun e => by have := hrow _ e.symm; omega))
          have HB3 := Aside0.mk (show Below w.heap.size w w2 ∧ r < w2.heap.size from ⟨HB2.out.grown HG.out (by omega) (fun j hj => by have := hrow _ hj; omega), by have := HG.out.size; omega⟩)
          go_roundg cnt1
          case measure => omega
          case rel => exact ⟨_, cnt1, ks ++ [x], Nat.le_refl _, by simp; omega, HRG3, HK2, HKS2, HOG3, HSH3, HB3⟩
end Go.Proofs.Ytdfndbegifdejaa.PFlowExact
