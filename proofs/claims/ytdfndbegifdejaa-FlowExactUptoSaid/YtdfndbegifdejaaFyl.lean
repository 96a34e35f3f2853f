import Derived.Test.YtdfndbegifdejaaFyk
import Derived.Maps.OwnRows
import Derived.Maps.Views
import Derived.Maps.RangeWalk
import Derived.Maps.GroupsBeside
import Derived.Deep.LoopGhost
import Derived.Maps.AppendAt
import Derived.WalkKit
import Derived.Test.YtdfndbegifdejaaProg
import Derived.Below
import Derived.Deep.Draws
import Derived.Deep.AppendLies
import Derived.OwnWalk
import Derived.Laws.BytesArg
import Derived.Laws.MakeOwn
import Derived.Laws.OwnMore
import Derived.Deep.OwnRows
import Derived.Tactics
import Derived.Lib.ConvBytes
import Derived.Laws.Slices
import Derived.KernelRfl
import Derived.RowKit3
import Derived.Deep.QuietTactic
import Derived.BigQuiet
import Derived.WideLaws
import Derived.Deep.DeepCutAuto
import Derived.Deep.CutBlock
import Derived.Deep.RegionHeld3
import Derived.Laws.Rows
import Derived.Lib.AppendStr
import Derived.ArgAppend
import Derived.Laws.IdiomCopy
import Derived.OrdersHeld
import Derived.Laws.BitsLemmas
import Derived.RowKit
import Derived.Lib.Bytealg
section
namespace Go.Proofs.Ytdfndbegifdejaa.PFlowExact
set_option linter.unusedVariables false
set_option linter.unusedSimpArgs false
open Go.RowKit Go.ChangeShapes
open Classical
variable (kl : S32 → Lit)
noncomputable def grp (c : Lit) (l : List S32) : List Int := (l.filter (fun x => decide (kl x = c))).map (·.f2)
def gd (zs : List Int) : DataW Unit := if zs = [] then .nil else .slice (lits .i64 zs) []
structure Says (D : DataW Unit) (l : List S32) : Prop where
  map : Maps.IsMap D
  at_ : ∀ c, WideAt.IsKeyLit c → D.atKey c .nil = gd (grp kl c l)
  has : ∀ c, WideAt.IsKeyLit c → (Maps.has D c = true ↔ ∃ x ∈ l, kl x = c)
theorem grp_snoc (c : Lit) (l : List S32) (x : S32) : grp kl c (l ++ [x]) = if kl x = c then grp kl c l ++ [x.f2] else grp kl c l := by
  unfold grp
  by_cases h : kl x = c <;> simp [h]
theorem says_nil : Says kl (.map []) [] := ⟨Maps.isMap_empty, fun c hc => by simp [DataW.atKey, gd, grp], fun c hc => by simp [Maps.has]⟩
variable {kl}
theorem says_step {D : DataW Unit} {l : List S32} (h : Says kl D l) (hk : ∀ x, WideAt.IsKeyLit (kl x)) (x : S32) (d : DataW Unit) (hd : d = gd (grp kl (kl x) l ++ [x.f2])) : Says kl (D.put (kl x) d) (l ++ [x]) := by
  refine ⟨h.map.put _ _, fun c hc => ?_, fun c hc => ?_⟩
  · rw [grp_snoc]
    by_cases e : kl x = c
    · subst e
      rw [if_pos rfl, Maps.atKey_put_same h.map hc, hd]
    · rw [if_neg e, Maps.atKey_put_other (fun e2 => e e2.symm), h.at_ c hc]
  · by_cases e : kl x = c
    · subst e
      rw [Maps.has_put_same h.map hc]
      simp
    · rw [Maps.has_put_other (fun e2 => e e2.symm), h.has c hc]
      constructor
      · rintro ⟨y, hy, hyc⟩; exact ⟨y, by simp [hy], hyc⟩
      · rintro ⟨y, hy, hyc⟩
        rcases List.mem_append.1 hy with hy | hy
        · exact ⟨y, hy, hyc⟩
        · rw [List.mem_singleton.1 hy] at hyc; exact absurd hyc e
theorem lits_inj {a b : List Int} (h : (lits .i64 a : List (DataW Unit)) = lits .i64 b) : a = b := by
  unfold lits at h
  refine List.map_inj_right (f := fun x : Int => (DataW.lit (.int .i64 x) : DataW Unit)) (fun x y e => ?_) |>.1 h
  injection e with e; injection e
theorem says_at {D : DataW Unit} {l : List S32} (h : Says kl D l) {c : Lit} (hc : WideAt.IsKeyLit c) {v : Value} {zs : List Int} {w : World} {base : Nat} {e : TypeId}
    (hat : D.atKey c .nil = rowDatum .i64 v zs) (ho : w.ownsInts base e .i64 v zs) : zs = grp kl c l := by
  rw [h.at_ c hc] at hat
  rcases ho.datum (H := Unit) with ⟨h1, h2⟩ | h1
  · rw [h1] at hat
    unfold gd at hat
    split at hat
    · rename_i hg; rw [hg, h2]
    · cases hat
  · rw [h1] at hat
    unfold gd at hat
    split at hat
    · cases hat
    · injection hat with hat; exact (lits_inj hat).symm
theorem gd_pos {zs : List Int} (h : zs ≠ []) : gd zs = .slice (lits .i64 zs) [] := by unfold gd; rw [if_neg h]
end Go.Proofs.Ytdfndbegifdejaa.PFlowExact
end
section
namespace Go.Proofs.Ytdfndbegifdejaa.PFlowExact
set_option linter.unusedVariables false
set_option linter.unusedSimpArgs false
open Go.RowKit Go.Proofs.YtdfndbegifdejaaW.PrintWords Go.Proofs.YtdfndbegifdejaaW.PrintLast Go.Proofs.YtdfndbegifdejaaW.PrintMore Go.Proofs.YtdfndbegifdejaaMine Go.ChangeShapes
def slit (s : ByteArray) : Lit := .string s.data.toList
def curL (x : S32) : Lit := slit x.f1
theorem slit_key (s : ByteArray) : WideAt.IsKeyLit (slit s) := trivial
theorem slit_inj {a b : ByteArray} (h : slit a = slit b) : a = b := by
 unfold slit at h; injection h with h
 exact ByteArray.ext (Array.ext' h)
theorem keyOf9 (s : ByteArray) (h : s.size ≤ maxLen) : keyOf Try.prog 9 (.string s) = some (slit s) := by
 simp [keyOf, Try.underlying9, mapKey, slit, h]
theorem law9 : Maps.Keyed Try.prog 9 := Maps.string_keyed Try.underlying9
theorem zero74 (w : World) : (zeroValue 74).run Try.prog w = .ok (.slice none 0 0) w := Try.zeroValue74 w
def WfA (l : List S32) : Prop := ∀ x ∈ l, x.f1.size ≤ maxLen ∧ (Lit.int .i64 x.f2).wf = true
theorem Tot1.calls (x : S32) (w : World) : Calls Try.prog 43 #[.agg #[.int .i64 x.f0, .string x.f1, .int .i64 x.f2]] w fun e w' => e = .returned (.string x.f1) ∧ Below w.heap.size w w' := by
 go_enter Try.func43, Try.ntmps43
 go_wp2
 go_ret
 exact ⟨rfl, below_alloc (Below.refl _ _) _⟩
theorem Tot2.calls (k : ByteArray) (s : Int) (w : World) : Calls Try.prog 44 #[.string k, .int .i64 s] w fun e w' => e = .returned (.agg #[.string k, .int .i64 s]) ∧ Below w.heap.size w w' := by
 go_enter Try.func44, Try.ntmps44
 go_wp2
 exact bodyPost_ret (v := .agg #[.string k, .int .i64 s]) (by simp [results, Try.results44, go_sem]) rfl ⟨rfl, below_alloc (Below.refl _ _) _⟩
theorem info9 : (Try.prog.info? 9).map (fun i => (i.zero, i.size, i.bytes)) = some (some (.string ⟨#[]⟩), 1, 16) := by kernel_rfl
structure Keys (D : DataW Unit) (left : Lit → Bool) (ks : List ByteArray) : Prop where
  nodup : ks.Nodup
  mem : ∀ c, c ∈ ks ↔ (Maps.has D (slit c) = true ∧ left (slit c) = false)
theorem keys_start (D : DataW Unit) : Keys D (Maps.has D) [] := ⟨List.nodup_nil, fun c => by simp⟩
theorem keys_step {D : DataW Unit} {left : Lit → Bool} {ks : List ByteArray} (h : Keys D left ks) (x : ByteArray) (hl : left (slit x) = true) (hh : Maps.has D (slit x) = true) :
  Keys D (fun z => left z && !z.sameKey (slit x)) (ks ++ [x]) := by
 have hx : x ∉ ks := fun hm => by have := ((h.mem x).1 hm).2; rw [hl] at this; cases this
 refine ⟨?_, fun c => ?_⟩
 ·rw [List.nodup_append]
  exact ⟨h.nodup, by simp, fun a ha b hb => by rw [List.mem_singleton.1 hb]; intro e; subst e; exact hx ha⟩
 ·rw [List.mem_append, List.mem_singleton, h.mem]
  by_cases e : c = x
  ·subst e
   have : (slit c).sameKey (slit c) = true := WideAt.sameKey_self (slit_key c)
   simp [this, hh]
  ·have : (slit c).sameKey (slit x) = false := Maps.sameKey_ne (fun e2 => e (slit_inj e2))
   simp [this, e]
theorem keyOf9_inv {x : ByteArray} {kl : Lit} (h : keyOf Try.prog 9 (.string x) = some kl) : x.size ≤ maxLen ∧ kl = slit x := by
 simp [keyOf, Try.underlying9, mapKey] at h
 exact ⟨h.1, h.2.symm⟩
theorem keyOf9_str {key : Value} {kl : Lit} (h : keyOf Try.prog 9 key = some kl) : ∃ x, key = .string x := by
 cases key <;> first | exact ⟨_, rfl⟩ | (simp [keyOf, Try.underlying9, mapKey] at h)
def sumF : Int → List Int → Int × Int
 | s, [] => (s, 0)
 | s, x :: r => if ((decide (x ≥ 0)) != (decide ((wrap64 (s + x)) ≥ s))) = true then (0, 1) else sumF (wrap64 (s + x)) r
theorem sumF_two : ∀ (l : List Int) (s : Int), (sumF s l).2 = 0 ∨ sumF s l = (0, 1)
 | [], s => .inl rfl
 | x :: r, s => by
  unfold sumF
  split
  ·exact .inr rfl
  ·exact sumF_two r _
theorem numSum_f (zs : List Int) (hz : zs.length ≤ 4398046511104) : ∃ k, num_Sum.f k zs = some (sumF 0 zs) := by
 have key : ∀ (d i : Nat) (s : Int), zs.length - i = d → i ≤ zs.length → ∃ k, num_Sum.l0 k s zs (zs.length : Int) (i : Int) = some (sumF s (zs.drop i)) := by
  intro d
  induction d with
  | zero =>
   intro i s hd hi
   obtain rfl : i = zs.length := by omega
   exact ⟨1, by simp only [num_Sum.l0]; rw [if_neg (by omega), List.drop_length]; rfl⟩
  | succ d ih =>
   intro i s hd hi
   have hlt : i < zs.length := by omega
   have e1 : rd zs (i : Int) = zs[i] := by simp [rd, hlt]
   have e2 : wrap64 ((i : Int) + 1) = ((i + 1 : Nat) : Int) := by unfold wrap64; omega
   rw [List.drop_eq_getElem_cons hlt]
   unfold sumF
   by_cases hc : ((decide (zs[i] ≥ 0)) != (decide ((wrap64 (s + zs[i])) ≥ s))) = true
   ·refine ⟨1, ?_⟩
    simp only [num_Sum.l0]
    rw [if_pos (by omega), if_pos (by omega), if_pos (by omega), e1]
    unfold num_Add.f
    rw [if_pos hc, if_pos hc]
    rfl
   ·obtain ⟨k, hk⟩ := ih (i + 1) (wrap64 (s + zs[i])) (by omega) (by omega)
    refine ⟨k + 1, ?_⟩
    simp only [num_Sum.l0]
    rw [if_pos (by omega), if_pos (by omega), if_pos (by omega), e1]
    unfold num_Add.f
    rw [if_neg hc, if_neg hc]
    simp only [Option.bind_some, if_true]
    rw [e2]
    exact hk
 obtain ⟨k, hk⟩ := key zs.length 0 0 (by omega) (by omega)
 exact ⟨k, by unfold num_Sum.f; exact hk⟩
theorem str_ne62 : ∀ q, q ∈ 9 :: Kd.string.E → q ≠ 62 := by
 intro q hq
 have : q = 9 := by simpa [Kd.string, Kd.scalar] using hq
 omega
noncomputable def tots (l0 : List S32) (ks : List ByteArray) : List S62 := ks.map (fun k => ⟨k, (sumF 0 (grp curL (slit k) l0)).1⟩)
structure KeyList (l0 : List S32) (ks : List ByteArray) : Prop where
  nodup : ks.Nodup
  mem : ∀ c, c ∈ ks ↔ ∃ x ∈ l0, curL x = slit c
  sorted : ks.Pairwise (fun a b => sless b a = false)
def TotGood (l0 : List S32) (ts : List S62) (f : Int) : Prop :=
 ∃ ks, KeyList l0 ks ∧ ((f = 0 ∧ ts = tots l0 ks ∧ ∀ k ∈ ks, (sumF 0 (grp curL (slit k) l0)).2 = 0) ∨ (f = 1 ∧ ts = [] ∧ ∃ k ∈ ks, (sumF 0 (grp curL (slit k) l0)).2 = 1))
set_option maxHeartbeats 4000000 in
set_option maxRecDepth 100000 in
theorem gatherS.calls (A0 : Option Addr) (c0 : Nat) (l0 : List S32) (w : World) (hr0 : Kd.C k32 w A0 l0.length l0) (hc0 : l0.length ≤ c0) (hsz : l0.length * 32 ≤ 140737488351232) (hwf : WfA l0) :
  Calls Try.prog 42 #[.slice A0 l0.length c0, .func (.func 43) #[] #[], .func (.func 37) #[] #[], .func (.func 44) #[] #[]] w fun e w' => ∃ (v : Value) (ts : List S62) (f : Int), e = .returned (.tuple #[v, .int .i64 f]) ∧ Kd.R k62 62 w' w.heap.size (fun _ => True) v ts ∧ Below w.heap.size w w' ∧ ts.length ≤ l0.length ∧ TotGood l0 ts f := by
 have HR0 := ak hr0
 have HC0 := ak hc0
 have HWF := ak hwf
 have hmm := @run_makeMap Try.prog
 clear hr0 hc0 hwf
 obtain ⟨i0, hi, hz0, hz1, hz2⟩ := info_parts info3
 go_enter Try.func42, Try.ntmps42
 go_wp2
 go_loopg [24] l0.length (fun kx s24 wr => ∃ (i : Nat), s24 = .int .i64 i ∧ i ≤ l0.length ∧ l0.length - i ≤ kx ∧ Aside0 (∃ D : DataW Unit, wr.ownsGroups Try.prog 9 (w.heap.size + 1) 3 .i64 w.heap.size i D ∧ Says curL D (l0.take i)) ∧ Aside0 (Below w.heap.size w wr))
 case atStart => exact ⟨0, rfl, Nat.zero_le _, by omega, ak ⟨_, World.ownsGroups_made _ _ _ _ _, says_nil _⟩, ak (below_alloc (Below.refl _ _) _)⟩
 case round =>
  obtain ⟨i, rfl, hi2, hkx, HD, HB⟩ := hrel
  obtain ⟨wo, rfl⟩ : ∃ wo : World, wo = wr := ⟨_, rfl⟩
  by_cases hlt : i < l0.length
  ·have hltz : (i : Int) < (l0.length : Int) := by omega
   obtain ⟨ad, hA, hx0, hx1, hx2⟩ := at_T32 (Kd.C_below HR0.out HB.out) (i : Int) (by omega) hltz
   rw [Int.toNat_natCast] at hx0 hx1 hx2
   have hmem : rd_T32 l0 (i : Int) ∈ l0 := by simp [rd_T32, hlt]
   have HWX := ak (HWF.out _ hmem)
   have HTK := ak (show l0.take (i + 1) = l0.take i ++ [rd_T32 l0 (i : Int)] by rw [List.take_succ_eq_append_getElem hlt]; simp [rd_T32, hlt])
   generalize hxx : rd_T32 l0 (i : Int) = x at *
   clear hmem hxx
   subst hA
   go_wp2_with fail
   refine (Tot1.calls x _).mono ?_
   rintro e w1 ⟨rfl, hb1⟩
   have HB1 := ak hb1
   have hbx : Below (wo.alloc (Obj.cells #[.int .i64 x.f0, .string x.f1, .int .i64 x.f2] 32 (0, 0))).heap.size (wo.alloc (Obj.cells #[.int .i64 x.f0, .string x.f1, .int .i64 x.f2] 32 (0, 0))) w1 := hb1
   have HB2 := ak (HB.out.trans (Below.mono ((below_alloc (Below.refl wo.heap.size wo) _).trans (hbx.mono (by simp))) HB.out.size))
   have hc2 : w1.cell? ⟨wo.heap.size, 2, none⟩ = some (.int .i64 x.f2) := (hbx.cell (p := ⟨wo.heap.size, 2, none⟩) (by simp)).trans ((blk_cell (blk_new wo _) 2).trans rfl)
   obtain ⟨D, hown, hsay⟩ := HD.out
   have hown1 := hown.kept (grown_of_below ((below_alloc (Below.refl wo.heap.size wo) _).trans (hbx.mono (by simp))) none) (by simp) (fun es clock hb x hx => by cases x.val.ownBlock <;> simp)
   have HSY := ak hsay
   have hkey := keyOf9 x.f1 HWX.out.1
   have hw1z : w.heap.size < w1.heap.size := by
    have h1 := HB.out.size
    have h2 := hbx.size
    simp at h2
    obtain ⟨es, clock, h3, _⟩ := hown
    have := (Array.getElem?_eq_some_iff.1 h3).1
    omega
   clear hb1 hbx hown hsay
   go_wp2_with (first | (at_lookup; refine wpList_lookup_groups _ rfl _ _ 100 rfl 9 74 3 .i64 law9 Try.underlying100 (zero74 _) (w.heap.size + 1) w.heap.size i D rfl hown1 (by unfold maxLen; omega) _ _ rfl hkey ?_; intro v zs hat hoi hzl hback; have hzs : Aside0 (zs = grp curL (curL x) (l0.take i)) := ak (says_at HSY.out (slit_key _) hat hoi); clear hat hown1) | (at_builtin; refine wpList_append_own_at _ rfl _ _ 74 rfl (w.heap.size + 1) 3 i0 (.int .i64 0) 1 8 Try.underlying74 hi hz0 hz1 hz2 rfl (by decide) _ _ _ rfl (hoi.1.alloc _) ⟨w1.heap.size, 0, none⟩ 1 1 [.int .i64 x.f2] rfl rfl (cell_one_new _ _ _) (ints_oneCell .i64 [x.f2]) (by unfold maxLen; omega) (by omega) (by simp; omega) ?_; intro v' w2 hown' hgrow hnil hloc) | (at_mapUpdate; refine wpList_mapUpdate_back (v' := v') _ rfl _ _ _ 100 rfl hback rfl rfl rfl ((World.grownBy_alloc _ _ _).trans hgrow) (hoi.appended hown' HWX.out.2) (by simp; omega) (hloc.imp id (fun h => ⟨_, h, by simp⟩)) ?_; intro w3 hown3 hgrow3))
   have HB3 := ak (Below.groups HB2.out hoi ((World.grownBy_alloc _ _ _).trans hgrow) hgrow3 (by omega) (by omega) (Nat.le_refl _))
   have HOW := ak (show ∃ D : DataW Unit, w3.ownsGroups Try.prog 9 (w.heap.size + 1) 3 .i64 w.heap.size (i + 1) D ∧ Says curL D (l0.take (i + 1)) from ⟨_, hown3, by
    rw [HTK.out]
    refine says_step HSY.out (fun y => slit_key _) x _ ?_
    have h1 := (hoi.appended hown' HWX.out.2).datum_pos (H := Unit) (by simp)
    rw [h1, hzs.out, gd_pos (by simp)]⟩)
   clear hown3 hgrow3 hown' hgrow hnil hloc hback hoi hzl
   go_roundg (l0.length - (i + 1))
   case measure => omega
   case rel => exact ⟨i + 1, by go_num, by omega, Nat.le_refl _, HOW, HB3⟩
  ·have hltz : ¬ (i : Int) < (l0.length : Int) := by omega
   obtain rfl : i = l0.length := by omega
   rw [List.take_length] at HD
   obtain ⟨D, hown, hsay⟩ := HD.out
   have HSY := ak hsay
   have HOG := ak hown
   have hmap : wo.ownsMap Try.prog 9 (rowElem wo (w.heap.size + 1) 3 .i64) w.heap.size l0.length D := by
    obtain ⟨es, clock, h1, h2, h3, h4, _⟩ := hown
    exact ⟨es, clock, h1, h2, h3, h4⟩
   clear hown hsay HD hi2 hkx hltz hlt
   have hshun : wo.Shuns w.heap.size (fun g => wo.heap.size ≤ g) := by
    obtain ⟨es, clock, h1, F, _⟩ := HOG.out
    intro es' clock' h2 y hy g hg
    rw [h1] at h2
    cases h2
    obtain ⟨z, hz⟩ := F.reads y hy
    obtain ⟨u, hu, _⟩ := WideElems.rd_val hz
    obtain ⟨zs, ho, _⟩ := rowElem_inv hu
    have := (ho.1.lt g hg).2
    omega
   have hdl : Maps.size D ≤ l0.length := by
    obtain ⟨es, clock, h1, F, h3, rfl, _⟩ := HOG.out
    rw [Maps.size_eq, length_sorted]
    simpa using h3
   have hbz : w.heap.size < wo.heap.size := by
    obtain ⟨es, clock, h3, _⟩ := HOG.out
    exact (Array.getElem?_eq_some_iff.1 h3).1
   have HSH := ak hshun
   clear hshun
   go_wp2_with (at_range; refine wpList_range_own _ rfl _ 100 rfl 9 74 law9 Try.underlying100 _ w.heap.size l0.length D rfl hmap ?_; intro w1 hrg hgr hsz1)
   have HRG := ak hrg
   have HOG1 := ak (HOG.out.kept hgr (by simp) (fun es clock hb x hx => by cases x.val.ownBlock <;> simp))
   have HSH1 := ak (HSH.out.kept hgr hbz (by simp))
   have HB1 := ak (HB.out.grown hgr HB.out.size (fun j hj => by cases hj))
   have hw1z : w1.heap.size = wo.heap.size + 1 := hsz1
   clear hrg hgr HOG HSH hmap hsz1
   generalize wo.heap.size = r at *
   have hw1a : r < w1.heap.size := by omega
   clear hw1z
   go_frame
   go_loopg [14] (Maps.size D) (fun kx s14 wr => ∃ (left : Lit → Bool) (cnt : Nat) (ks : List ByteArray), cnt ≤ kx ∧ ks.length + cnt ≤ l0.length ∧ Aside0 (wr.ranges Try.prog 9 (rowElem wo (w.heap.size + 1) 3 .i64) w.heap.size r l0.length D left cnt) ∧ Aside0 (Kd.string.R 9 wr (r + 1) (fun _ => True) s14 ks) ∧ Aside0 (Keys D left ks) ∧ Aside0 (wr.ownsGroups Try.prog 9 (w.heap.size + 1) 3 .i64 w.heap.size l0.length D) ∧ Aside0 (wr.Shuns w.heap.size (fun g => r ≤ g)) ∧ Aside0 (Below w.heap.size w wr ∧ r < wr.heap.size))
   case atStart => exact ⟨_, _, [], Nat.le_refl _, by simpa using hdl, HRG, ak (Kd.R_nil _ _ _ _ _), ak (keys_start D), HOG1, HSH1, ak ⟨HB1.out, hw1a⟩⟩
   case round =>
    clear HRG HOG1 HSH1 HB1
    obtain ⟨left, cnt, ks, hcnt, hkl, HRG, HK, HKS, HOG, HSH, HB1⟩ := hrel
    obtain ⟨wi, rfl⟩ : ∃ wi : World, wi = wr := ⟨_, rfl⟩
    have HRR := HRG.out
    go_wp2_with (at_next; refine wpList_next_ranges _ rfl _ rfl 9 law9 (rowElem wo (w.heap.size + 1) 3 .i64) Value.string (id : Value → Value) ?_ (fun v y _ => ⟨v, rfl⟩) w.heap.size r l0.length D left cnt rfl HRR ?_ ?_)
    ·intro key kl hk; exact keyOf9_str hk
    ·
     intro hc0 hl0
     have HKL : Aside0 (∀ c, c ∈ ks ↔ ∃ x ∈ l0, curL x = slit c) := ak (fun c => by
      rw [HKS.out.mem, hl0, HSY.out.has _ (slit_key c)]; simp)
     have hks0 : ks.length ≤ l0.length := by omega
     clear hc0 hl0 HRR HRG hkl hcnt
     obtain ⟨Ak, ck, rfl⟩ := Kd.R_slice HK.out
     go_upto_region 14 with (go_at_call 60; refine (sortStrs_row wi (r + 1) (fun _ => True) (.slice Ak ks.length ck) ks HK.out (by omega)).mono ?_; rintro e w2 ⟨rfl, m, hml, hR, hg, hperm, hsrt⟩; have HM := ak hR; have HG2 := ak hg; have HP := ak hperm; have HS := ak hsrt; have HML := ak hml; clear hR hg hperm hsrt hml)
     have hbs : w.heap.size < wi.heap.size ∧ r < wi.heap.size ∧ w.heap.size < r := by
      obtain ⟨es, clock, h3, _⟩ := HOG.out
      exact ⟨(Array.getElem?_eq_some_iff.1 h3).1, HB1.out.2, hbz⟩
     have hrow : ∀ j, (Value.slice Ak ks.length ck).ownBlock = some j → r + 1 ≤ j := fun j hj => Kd.R_base HK.out j hj
     have HOG2 := ak (HOG.out.kept HG2.out (fun e => by have := hrow _ e.symm; omega) (HSH.out.rowsOff (fun j hj => by have := hrow _ hj; omega)))
     have HSH2 := ak (HSH.out.kept HG2.out hbs.1 (fun e => by have := hrow _ e.symm; omega))
     have HB2 := ak (show Below w.heap.size w w2 ∧ r < w2.heap.size from ⟨HB1.out.1.grown HG2.out (by omega) (fun j hj => by have := hrow _ hj; omega), by have := HG2.out.size; omega⟩)
     have HKEY : Aside0 (KeyList l0 m) := ak ⟨(HP.out.nodup_iff).2 HKS.out.nodup, fun c => by rw [HP.out.mem_iff]; exact HKL.out c, HS.out⟩
     clear HOG HSH HB1 HKS HKL HP HS HK HG2 hrow
     go_wp2
     go_loopg [16, 56] ks.length (fun kx s16 s56 wr => ∃ (j : Nat), s56 = .int .i64 j ∧ j ≤ ks.length ∧ ks.length - j ≤ kx ∧ Aside0 (k62.R 62 wr (r + 1) (fun _ => True) s16 (tots l0 (m.take j))) ∧ Aside0 (∀ k ∈ m.take j, (sumF 0 (grp curL (slit k) l0)).2 = 0) ∧ Aside0 (Kd.string.R 9 wr (r + 1) (fun _ => True) (.slice Ak ks.length ck) m) ∧ Aside0 (wr.ownsGroups Try.prog 9 (w.heap.size + 1) 3 .i64 w.heap.size l0.length D) ∧ Aside0 (wr.Shuns w.heap.size (fun g => r ≤ g)) ∧ Aside0 (Below w.heap.size w wr ∧ r < wr.heap.size))
     case atStart => exact ⟨0, rfl, Nat.zero_le _, by omega, ak (Kd.R_nil _ _ _ _ _), ak (by simp), HM, HOG2, HSH2, HB2⟩
     case round =>
      clear HM HOG2 HSH2 HB2
      obtain ⟨j, rfl, hj, hkx, HO, HZ, HM, HOG, HSH, HB⟩ := hrel
      obtain ⟨wl, rfl⟩ : ∃ wl : World, wl = wr := ⟨_, rfl⟩
      by_cases hlt : j < ks.length
      ·have hltz : (j : Int) < (ks.length : Int) := by omega
       have hjm : j < m.length := by rw [HML.out]; exact hlt
       have hM := HM.out
       rw [← HML.out] at hM
       obtain ⟨g, cap, hv, _⟩ := Kd.R_form hM (by omega)
       injection hv with hv1 _ hv3
       subst hv1
       subst hv3
       have hcell := (Kd.R_cell ByteArray.empty hM (j : Int) (by omega) (by omega)).1
       rw [Int.toNat_natCast, show rdOf ByteArray.empty m (j : Int) = m[j] by simp [rdOf, hjm]] at hcell
       have hkm : m[j] ∈ m := List.getElem_mem hjm
       obtain ⟨x0, hx0, hx1⟩ := (HKEY.out.mem _).1 hkm
       have hsz1 : m[j].size ≤ maxLen := by
        have h1 := slit_inj (show slit x0.f1 = slit m[j] from hx1)
        rw [← h1]; exact (HWF.out x0 hx0).1
       have HTK := ak (show m.take (j + 1) = m.take j ++ [m[j]] from List.take_succ_eq_append_getElem hjm)
       have HKM := ak hkm
       generalize m[j] = key at *
       clear hkm hx0 hx1 hM x0
       have hkey := keyOf9 key hsz1
       obtain ⟨sm, ft, hsf⟩ : ∃ sm ft, sumF 0 (grp curL (slit key) l0) = (sm, ft) := ⟨_, _, rfl⟩
       have HSF := ak hsf
       have hft := sumF_two (grp curL (slit key) l0) 0
       rw [hsf] at hft
       have HFT := ak hft
       clear hsf hft hsz1
       have hown1 := HOG.out
       go_upto_region 19 with (first | (at_lookup; refine wpList_lookup_groups _ rfl _ _ 100 rfl 9 74 3 .i64 law9 Try.underlying100 (zero74 _) (w.heap.size + 1) w.heap.size l0.length D rfl hown1 (by unfold maxLen; omega) _ _ rfl hkey ?_; intro v zs hat hoi hzl hback; obtain ⟨Az, cz, rfl⟩ := Kd.R_slice (Kd.R_of_own (enc := Value.int .i64) (h1 := fun _ => rfl) (ok := fun _ => True) hoi.1 (fun _ _ => trivial)); have hzs := says_at HSY.out (slit_key _) hat hoi; have HRZ := ak (Kd.R_of_own (enc := Value.int .i64) (h1 := fun _ => rfl) (ok := fun _ => True) hoi.1 (fun _ _ => trivial)); have HZS := ak hzs; clear hat hown1 hback hoi hzs) | (go_at_call 61; obtain ⟨kk, hkk⟩ := numSum_f zs (by omega); refine (num_Sum.calls kk Az cz zs sm ft _ (Kd.R_reads' HRZ.out).2.2 (Kd.R_reads' HRZ.out).2.1 (by rw [hkk, HZS.out, HSF.out])).mono ?_; clear hkk kk; rintro e w3 ⟨rfl, hd⟩; have HD3 := ak hd.below; clear hd))
       have HBB := ak (HB.out.1.trans (HD3.out.mono (by have := HB.out.2; omega)))
       rcases HFT.out with h0 | h1
       ·obtain rfl : ft = 0 := h0
        have HO3 := ak (Kd.R_below HO.out HD3.out)
        have HM3 := ak (Kd.R_below HM.out HD3.out)
        have HOG3 := ak (HOG.out.kept (grown_of_below HD3.out none) (by simp) (fun es clock hb x hx => by cases x.val.ownBlock <;> simp))
        have HSH3 := ak (HSH.out.kept (grown_of_below HD3.out none) (by have := HB.out.2; omega) (by simp))
        have hr3 : r < w3.heap.size := by have := HD3.out.size; have := HB.out.2; omega
        have hlen : (tots l0 (m.take j)).length ≤ l0.length := by unfold tots; rw [List.length_map, List.length_take]; omega
        clear HO HM HOG HSH HFT HRZ HZS hcell hkey
        go_wp2_with (first | (go_at_call 44; refine (Tot2.calls key sm _).mono ?_; rintro e w4 ⟨rfl, hb4⟩; have HB4 := ak hb4; have HO4 := ak (Kd.R_below HO3.out HB4.out); have hwz4 : r + 1 ≤ w4.heap.size := (by have := hb4.size; omega); clear hb4) | ((with_reducible refine gate_builtin (b := .append) (xs := #[.tmp 70, .tmp 75]) rfl ?_); at_builtin; refine Kd.R_append k62 (w0 := w4) (r + 1) rfl (.tmp 70) (.tmp 75) 26 62 (.agg #[(.string ⟨#[]⟩), (.int .i64 0)]) 24 rfl Try.underlying26 info62 rfl (by decide) (by omega) u16 (tots l0 (m.take j)) ⟨key, sm⟩ [.string key, .int .i64 sm] (fun _ => True) (fun _ => False) rfl rfl (k62_mkM _ _ _ ⟨key, sm⟩) (fun _ h => h.elim) (fun _ _ => trivial) HO4.out (Below.refl _ _) hwz4 (by omega) ?_; intro v' w5 ho hb hg hat2; have HO5 := ak ho; have HG5 := ak hg; clear ho hb hg hat2))
        have hrow : ∀ q, u16.ownBlock = some q → r + 1 ≤ q := fun q hq => Kd.R_base HO4.out q hq
        have hbs : w.heap.size < w3.heap.size := by omega
        have HG4 := ak (grown_of_below HB4.out none)
        have HSH4 := ak (HSH3.out.kept HG4.out hbs (by simp))
        have HOG5 := ak ((HOG3.out.kept HG4.out (by simp) (fun es clock hb x hx => by cases x.val.ownBlock <;> simp)).kept HG5.out (fun e => by have := hrow _ e.symm; omega) (HSH4.out.rowsOff (fun q hq => by have := hrow _ hq; omega)))
        have HSH5 := ak (HSH4.out.kept HG5.out (by omega) (fun e => by have := hrow _ e.symm; omega))
        have HB5 := ak (show Below w.heap.size w w5 ∧ r < w5.heap.size from ⟨(HBB.out.trans (HB4.out.mono (by omega))).grown HG5.out (by omega) (fun q hq => by have := hrow _ hq; omega), by have := HG5.out.size; omega⟩)
        have HM5 := ak (Kd.R_over (Kd.R_below HM3.out HB4.out) HO4.out str_ne62 HG5.out)
        go_roundg (ks.length - (j + 1))
        case measure => omega
        case rel =>
         refine ⟨j + 1, by go_num, by omega, Nat.le_refl _, ak ?_, ak ?_, HM5, HOG5, HSH5, HB5⟩
         ·rw [HTK.out]
          have e : tots l0 (m.take j ++ [key]) = tots l0 (m.take j) ++ [⟨key, sm⟩] := by
           unfold tots; rw [List.map_append, List.map_singleton, HSF.out]
          rw [e]; exact HO5.out
         ·intro k hk
          rw [HTK.out, List.mem_append] at hk
          rcases hk with hk | hk
          ·exact HZ.out k hk
          ·rw [List.mem_singleton.1 hk, HSF.out]
       ·cases h1
        go_wp2
        go_ret2
        exact ⟨_, [], 1, rfl, Kd.R_nil _ _ _ _ _, HBB.out, by simp, m, HKEY.out, .inr ⟨rfl, rfl, key, HKM.out, by rw [HSF.out]⟩⟩
      ·have hltz : ¬ (j : Int) < (ks.length : Int) := by omega
       obtain rfl : j = ks.length := by omega
       rw [← HML.out, List.take_length] at HO HZ
       go_wp2
       go_ret2
       exact ⟨_, tots l0 m, 0, rfl, Kd.R_lower HO.out (by omega), HB.out.1, by unfold tots; rw [List.length_map, HML.out]; exact hks0, m, HKEY.out, .inl ⟨rfl, rfl, HZ.out⟩⟩
    ·
     intro x c kl y1 y2 w1 cnt1 hkx hlk hR hat hrg1 hlt hg1 hs1 hen
     obtain ⟨hxs, rfl⟩ := keyOf9_inv hkx
     have hhas := Maps.has_true_of_atKey hat
     have HKS2 := ak (keys_step HKS.out x hlk hhas)
     have HK1 := ak (Kd.R_mono (Kd.R_grown (Kd.R_bound HK.out) hg1 (fun k hk e => by cases e; have := hk.2.1; omega)) (ok' := fun _ => True) (fun _ _ => trivial))
     have hbs : w.heap.size < wi.heap.size ∧ r < wi.heap.size ∧ w.heap.size < r := by
      obtain ⟨es, clock, h3, _⟩ := HOG.out
      exact ⟨(Array.getElem?_eq_some_iff.1 h3).1, HB1.out.2, hbz⟩
     have HOG2 := ak (HOG.out.kept hg1 (fun e => by cases e; omega) (HSH.out.rowsOff (fun j hj => by cases hj; exact Nat.le_refl _)))
     have HSH2 := ak (HSH.out.kept hg1 hbs.1 (fun e => by cases e; omega))
     have HB2 := ak (HB1.out.1.grown hg1 (by omega) (fun j hj => by cases hj; omega))
     have HRG2 := ak hrg1
     clear hrg1 HRG HRR HK HKS HOG HSH hR hat hg1 hkx hlk hhas
     have hwz : r + 1 ≤ w1.heap.size := by omega
     clear hs1
     go_wp2_with ((with_reducible refine gate_builtin (b := .append) (xs := #[.tmp 47, .tmp 49]) rfl ?_); at_builtin; refine Kd.R_append Kd.string (w0 := w1) (r + 1) rfl (.tmp 47) (.tmp 49) 101 9 (.string ⟨#[]⟩) 16 rfl Try.underlying101 info9 rfl (by decide) (by omega) u14 ks x [.string x] (fun _ => True) (fun _ => False) rfl rfl rfl (fun _ h => h.elim) (fun _ _ => trivial) HK1.out (Below.refl _ _) hwz (by omega) ?_; intro v' w2 ho hb hg hat2; have HK2 := ak ho; have HG := ak hg; clear ho hb hg hat2)
     have hrow : ∀ j, u14.ownBlock = some j → r + 1 ≤ j := fun j hj => Kd.R_base HK1.out j hj
     have HRG3 := ak (HRG2.out.kept HG.out (fun e => by have := hrow _ e.symm; omega) (fun e => by have := hrow _ e.symm; omega))
     have HOG3 := ak (HOG2.out.kept HG.out (fun e => by have := hrow _ e.symm; omega) (HSH2.out.rowsOff (fun j hj => by have := hrow _ hj; omega)))
     have HSH3 := ak (HSH2.out.kept HG.out (by omega) (fun e => by have := hrow _ e.symm; omega))
     have HB3 := ak (show Below w.heap.size w w2 ∧ r < w2.heap.size from ⟨HB2.out.grown HG.out (by omega) (fun j hj => by have := hrow _ hj; omega), by have := HG.out.size; omega⟩)
     go_roundg cnt1
     case measure => omega
     case rel => exact ⟨_, cnt1, ks ++ [x], Nat.le_refl _, by simp; omega, HRG3, HK2, HKS2, HOG3, HSH3, HB3⟩
end Go.Proofs.Ytdfndbegifdejaa.PFlowExact
end
section
namespace Go.Proofs.Ytdfndbegifdejaa.PFlowExact
set_option linter.unusedVariables false
set_option linter.unusedSimpArgs false
open Go.RowKit Go.Proofs.YtdfndbegifdejaaW.PrintWords Go.Sort
open Classical
def I64 (a : Int) : Prop := -9223372036854775808 ≤ a ∧ a ≤ 9223372036854775807
def ov (a b : Int) : Bool := (decide (b ≥ 0)) != (decide ((wrap64 (a + b)) ≥ a))
theorem ov_true {a b : Int} (ha : I64 a) (hb : I64 b) : ov a b = true ↔ ¬ I64 (a + b) := by
  unfold ov I64 at *
  unfold wrap64
  by_cases h : b ≥ 0
  · simp only [h, decide_true]
    constructor
    · intro h1; simp at h1; omega
    · intro h1; simp; omega
  · simp only [h, decide_false]
    constructor
    · intro h1; simp at h1; omega
    · intro h1; simp; omega
theorem wrap_in {a : Int} (h : I64 a) : wrap64 a = a := by unfold wrap64; unfold I64 at h; omega
theorem wrap_I64 (a : Int) : I64 (wrap64 a) := by unfold wrap64 I64; omega
theorem add_f {a b : Int} (ha : I64 a) (hb : I64 b) : payoffref03_add.f a b = some (if ov a b = true then (0, false) else (wrap64 (a + b), true)) := by
  by_cases h : ov a b = true
  · rw [if_pos h]
    have h1 := (ov_true ha hb).1 h
    have hw : (a ≥ 0 ∧ b ≥ 0 ∧ wrap64 (a + b) < 0) ∨ (a < 0 ∧ b < 0 ∧ wrap64 (a + b) ≥ 0) := by unfold wrap64; unfold I64 at *; omega
    unfold payoffref03_add.f
    rcases hw with ⟨h2, h3, h4⟩ | ⟨h2, h3, h4⟩
    · rw [if_pos h2, if_pos h3, if_pos h4]
    · rw [if_neg (by omega)]
      repeat' split
      all_goals first | rfl | (exfalso; omega)
  · rw [if_neg h]
    have h1 : I64 (a + b) := Classical.byContradiction fun h2 => h ((ov_true ha hb).2 h2)
    have hw := wrap_in h1
    unfold payoffref03_add.f
    rw [hw]
    unfold I64 at *
    repeat' split
    all_goals first | rfl | (exfalso; omega)
theorem sumF_cons (s x : Int) (r : List Int) : sumF s (x :: r) = if ov s x = true then (0, 1) else sumF (wrap64 (s + x)) r := rfl
theorem sumF_ok : ∀ (a b : List Int) (s t : Int), sumF s a = (t, 0) → sumF s (a ++ b) = sumF t b
  | [], b, s, t, h => by
    injection h with h1 _
    rw [List.nil_append, h1]
  | x :: a, b, s, t, h => by
    rw [List.cons_append, sumF_cons]
    rw [sumF_cons] at h
    split at h
    · cases h
    · rename_i hc
      rw [if_neg hc]; exact sumF_ok a b _ t h
theorem sumF_bad : ∀ (a b : List Int) (s : Int), sumF s a = (0, 1) → sumF s (a ++ b) = (0, 1)
  | [], b, s, h => by injection h with _ h; cases h
  | x :: a, b, s, h => by
    rw [List.cons_append, sumF_cons]
    rw [sumF_cons] at h
    split at h
    · rename_i hc; rw [if_pos hc]
    · rename_i hc; rw [if_neg hc]; exact sumF_bad a b _ h
theorem sumF_in : ∀ (a : List Int) (s t : Int), I64 s → sumF s a = (t, 0) → I64 t
  | [], s, t, hs, h => by injection h with h _; rw [← h]; exact hs
  | x :: a, s, t, hs, h => by
    rw [sumF_cons] at h
    split at h
    · cases h
    · exact sumF_in a _ t (wrap_I64 _) h
def nf (b : Bool) (x : S32) : S32 := ⟨if b = true then x.f0 else 0, x.f1, x.f2⟩
noncomputable def grpB (b : Bool) (y : S32) (l : List S32) : List Int := (l.filter (fun x => decide (keyEq (nf b x) y))).map (·.f2)
theorem grpB_app (b : Bool) (y : S32) (l m : List S32) : grpB b y (l ++ m) = grpB b y l ++ grpB b y m := by simp [grpB]
theorem grpB_one (b : Bool) (y x : S32) : grpB b y [x] = if keyEq (nf b x) y then [x.f2] else [] := by
  unfold grpB; by_cases h : keyEq (nf b x) y <;> simp [h]
theorem keyEq.symm {a b : S32} (h : keyEq a b) : keyEq b a := ⟨h.1.symm, h.2.symm⟩
theorem keyEq.trans {a b c : S32} (h : keyEq a b) (h' : keyEq b c) : keyEq a c := ⟨h.1.trans h'.1, h.2.trans h'.2⟩
theorem grpB_key (b : Bool) {y z : S32} (h : keyEq y z) (l : List S32) : grpB b y l = grpB b z l := by
  unfold grpB
  congr 1
  apply List.filter_congr
  intro x _
  have : keyEq (nf b x) y ↔ keyEq (nf b x) z := ⟨fun h1 => h1.trans h, fun h1 => h1.trans h.symm⟩
  simp [this]
structure St (b : Bool) (l : List S32) (L : List S32) : Prop where
  dist : Dist L
  sum : ∀ p, p < L.length → sumF 0 (grpB b (acc L p) l) = ((acc L p).f2, 0)
  came : ∀ p, p < L.length → ∃ x ∈ l, keyEq (nf b x) (acc L p)
  there : ∀ x ∈ l, ∃ p, p < L.length ∧ keyEq (nf b x) (acc L p)
  len : L.length ≤ l.length
theorem acc_app (L : List S32) (y : S32) (p : Nat) : acc (L ++ [y]) p = if p < L.length then acc L p else if p = L.length then y else z32 := by
  unfold acc rd_T32
  simp only [Int.toNat_natCast, List.getD, List.getElem?_append]
  by_cases h : p < L.length
  · rw [if_pos h, if_pos h]
  · rw [if_neg h, if_neg h]
    by_cases h2 : p = L.length
    · subst h2; rw [if_pos rfl]; simp
    · rw [if_neg h2]
      have : [y][p - L.length]? = none := by rw [List.getElem?_eq_none_iff]; simp; omega
      rw [this]; rfl
theorem St.nil (b : Bool) : St b [] [] := ⟨fun p q h1 h2 => by simp at h2, fun p h => by simp at h, fun p h => by simp at h, fun x h => by simp at h, Nat.le_refl _⟩
theorem St.push {b : Bool} {l L : List S32} (h : St b l L) (x : S32) (hx : I64 x.f2) (hno : ∀ p, p < L.length → ¬ keyEq (acc L p) (nf b x)) : St b (l ++ [x]) (L ++ [nf b x]) := by
  have hg : grpB b (nf b x) l = [] := by
    unfold grpB
    rw [List.map_eq_nil_iff, List.filter_eq_nil_iff]
    intro y hy
    obtain ⟨p, hp, hk⟩ := h.there y hy
    simp only [decide_eq_true_eq]
    exact fun h1 => hno p hp (hk.symm.trans h1)
  have hl : (L ++ [nf b x]).length = L.length + 1 := by simp
  refine ⟨fun p q hpq hq => ?_, fun p hp => ?_, fun p hp => ?_, fun y hy => ?_, by simp; exact h.len⟩
  · rw [hl] at hq
    rw [acc_app, acc_app, if_pos (by omega)]
    by_cases e : q < L.length
    · rw [if_pos e]; exact h.dist p q hpq e
    · rw [if_neg e, if_pos (by omega)]; exact hno p (by omega)
  · rw [hl] at hp
    rw [acc_app]
    by_cases e : p < L.length
    · rw [if_pos e, grpB_app, grpB_one, if_neg (fun h1 => hno p e h1.symm), List.append_nil]
      exact h.sum p e
    · rw [if_neg e, if_pos (by omega), grpB_app, hg, grpB_one, if_pos ⟨rfl, rfl⟩, List.nil_append, sumF_cons]
      have h0 : I64 0 := by unfold I64; omega
      have hn : ¬ ov 0 x.f2 = true := fun h1 => (ov_true h0 hx).1 h1 (by simpa using hx)
      rw [if_neg hn, show (0 : Int) + x.f2 = x.f2 by omega, wrap_in hx]
      rfl
  · rw [hl] at hp
    rw [acc_app]
    by_cases e : p < L.length
    · rw [if_pos e]
      obtain ⟨y, hy, hk⟩ := h.came p e
      exact ⟨y, by simp [hy], hk⟩
    · rw [if_neg e, if_pos (by omega)]
      exact ⟨x, by simp, rfl, rfl⟩
  · rcases List.mem_append.1 hy with hy | hy
    · obtain ⟨p, hp, hk⟩ := h.there y hy
      exact ⟨p, by rw [hl]; omega, by rw [acc_app, if_pos hp]; exact hk⟩
    · rw [List.mem_singleton.1 hy]
      exact ⟨L.length, by rw [hl]; omega, by rw [acc_app, if_neg (Nat.lt_irrefl _), if_pos rfl]; exact ⟨rfl, rfl⟩⟩
theorem St.add {b : Bool} {l L : List S32} (h : St b l L) (x : S32) (p : Nat) (hp : p < L.length) (hk : keyEq (acc L p) (nf b x)) (hn : ¬ ov (acc L p).f2 x.f2 = true) :
    St b (l ++ [x]) (L.set p ⟨(acc L p).f0, (acc L p).f1, wrap64 ((acc L p).f2 + x.f2)⟩) := by
  have key : ∀ q, keyEq (acc (L.set p ⟨(acc L p).f0, (acc L p).f1, wrap64 ((acc L p).f2 + x.f2)⟩) q) (acc L q) := fun q => by
    rw [acc_set _ _ _ _ hp]
    by_cases e : q = p
    · subst e; rw [if_pos rfl]; exact ⟨rfl, rfl⟩
    · rw [if_neg e]; exact ⟨rfl, rfl⟩
  refine ⟨fun q r hqr hr => ?_, fun q hq => ?_, fun q hq => ?_, fun y hy => ?_, by simp; have := h.len; omega⟩
  · rw [List.length_set] at hr
    exact fun h1 => h.dist q r hqr hr ((key q).symm.trans (h1.trans (key r)))
  · rw [List.length_set] at hq
    rw [grpB_key b (key q), grpB_app, grpB_one, acc_set _ _ _ _ hp]
    by_cases e : q = p
    · subst e
      rw [if_pos hk.symm, if_pos rfl, sumF_ok _ _ _ _ (h.sum q hq), sumF_cons, if_neg hn]
      rfl
    · rw [if_neg e, if_neg (fun h1 => h.dist.ne hq hp e (h1.symm.trans hk.symm)), List.append_nil]
      exact h.sum q hq
  · rw [List.length_set] at hq
    obtain ⟨y, hy, h1⟩ := h.came q hq
    exact ⟨y, by simp [hy], h1.trans (key q).symm⟩
  · rcases List.mem_append.1 hy with hy | hy
    · obtain ⟨q, hq, h1⟩ := h.there y hy
      exact ⟨q, by rw [List.length_set]; exact hq, h1.trans (key q).symm⟩
    · rw [List.mem_singleton.1 hy]
      exact ⟨p, by rw [List.length_set]; exact hp, hk.symm.trans (key p).symm⟩
def Found (L : List S32) (y : S32) (at_ : Int) (j : Nat) : Prop :=
  (at_ = -1 ∧ ∀ q, q < j → ¬ keyEq (acc L q) y) ∨ ∃ p : Nat, at_ = (p : Int) ∧ p < j ∧ keyEq (acc L p) y
theorem key_scan (x0 : List S32) (b : Bool) (i : Int) (L : List S32) (hL : L.length ≤ 4398046511104) (y : S32) :
    ∀ (d j : Nat) (at_ : Int), L.length - j = d → j ≤ L.length → Found L y at_ j →
      ∃ at', Found L y at' L.length ∧ ∀ k, payoffref03_sums.l1 (k + d) x0 b L i at_ (j : Int) y.f0 y.f1 y.f2 = payoffref03_sums.l1 k x0 b L i at' (L.length : Int) y.f0 y.f1 y.f2 := by
  intro d
  induction d with
  | zero =>
    intro j at_ hd hj hF
    obtain rfl : j = L.length := by omega
    exact ⟨at_, hF, fun k => rfl⟩
  | succ d ih =>
    intro j at_ hd hj hF
    have hjl : j < L.length := by omega
    by_cases hk : keyEq (acc L j) y
    · obtain ⟨at', h1, h2⟩ := ih (j + 1) (j : Int) (by omega) (by omega) (.inr ⟨j, rfl, by omega, hk⟩)
      refine ⟨at', h1, fun k => ?_⟩
      rw [← h2 k, ← Nat.add_assoc]
      have e1 : (rd_T32 L (j : Int)).f0 = y.f0 := hk.1
      have e2 : (rd_T32 L (j : Int)).f1.toList = y.f1.toList := by rw [show (rd_T32 L (j : Int)).f1 = y.f1 from hk.2]
      simp only [payoffref03_sums.l1]
      rw [if_pos (by omega), if_pos (by omega), if_pos e1, if_pos e2, w64 j (by omega)]
    · obtain ⟨at', h1, h2⟩ := ih (j + 1) at_ (by omega) (by omega) (by
        rcases hF with ⟨rfl, h⟩ | ⟨p, rfl, hp, h⟩
        · refine .inl ⟨rfl, fun q hq => ?_⟩
          by_cases e : q = j
          · subst e; exact hk
          · exact h q (by omega)
        · exact .inr ⟨p, rfl, by omega, h⟩)
      refine ⟨at', h1, fun k => ?_⟩
      rw [← h2 k, ← Nat.add_assoc]
      simp only [payoffref03_sums.l1]
      rw [if_pos (by omega), if_pos (by omega)]
      by_cases e1 : (rd_T32 L (j : Int)).f0 = y.f0
      · have e2 : ¬ (rd_T32 L (j : Int)).f1.toList = y.f1.toList := fun h => hk ⟨e1, by
          rw [ByteArray.toList_eq, ByteArray.toList_eq] at h
          exact ByteArray.ext (Array.ext' h)⟩
        rw [if_pos e1, if_neg e2, w64 j (by omega)]
      · rw [if_neg e1, w64 j (by omega)]
theorem enter_key (x0 : List S32) (b : Bool) (L : List S32) (i : Nat) (hi : i < x0.length) (k : Nat) :
    payoffref03_sums.l0 (k + 2) x0 b L (i : Int) = payoffref03_sums.l1 k x0 b L (i : Int) (-1) 0 (nf b (acc x0 i)).f0 (nf b (acc x0 i)).f1 (nf b (acc x0 i)).f2 := by
  simp only [payoffref03_sums.l0]
  rw [if_pos (by omega), if_pos (by omega)]
  by_cases hb : b = true
  · subst hb
    rw [if_pos rfl]
    simp only [payoffref03_sums.j1]
    rfl
  · rw [if_neg hb]
    simp only [payoffref03_sums.j1]
    have : b = false := by simpa using hb
    subst this
    rfl
theorem split_grp (b : Bool) (y : S32) (x0 : List S32) (i : Nat) (hi : i < x0.length) : grpB b y x0 = grpB b y (x0.take i) ++ grpB b y [acc x0 i] ++ grpB b y (x0.drop (i + 1)) := by
  rw [← grpB_app, ← grpB_app, acc_get _ _ hi, ← List.take_succ_eq_append_getElem hi, List.take_append_drop]
theorem gather_loop (x0 : List S32) (b : Bool) (hn : x0.length ≤ 4398046511103) (hwf : ∀ x ∈ x0, I64 x.f2) : ∀ (d i : Nat) (L : List S32), x0.length - i = d → i ≤ x0.length → St b (x0.take i) L →
    ∃ K, (∃ L', St b x0 L' ∧ ∀ k, payoffref03_sums.l0 (k + K) x0 b L (i : Int) = payoffref03_sums.l2 k L' 0) ∨
      ((∃ x ∈ x0, sumF 0 (grpB b (nf b x) x0) = (0, 1)) ∧ ∀ k, payoffref03_sums.l0 (k + K) x0 b L (i : Int) = some ([], false)) := by
  intro d
  induction d with
  | zero =>
    intro i L hd hi hS
    obtain rfl : i = x0.length := by omega
    rw [List.take_length] at hS
    refine ⟨1, .inl ⟨L, hS, fun k => ?_⟩⟩
    simp only [payoffref03_sums.l0]
    rw [if_neg (by omega)]
  | succ d ih =>
    intro i L hd hi hS
    have hil : i < x0.length := by omega
    have hLn : L.length ≤ i := by have := hS.len; simp at this; omega
    have hx : acc x0 i ∈ x0 := by rw [acc_get _ _ hil]; exact List.getElem_mem hil
    have hxw := hwf _ hx
    have htk : x0.take (i + 1) = x0.take i ++ [acc x0 i] := by rw [acc_get _ _ hil]; exact List.take_succ_eq_append_getElem hil
    have w1 := w64 i (by omega)
    obtain ⟨at', hF, hsc⟩ := key_scan x0 b (i : Int) L (by omega) (nf b (acc x0 i)) L.length 0 (-1) (by omega) (by omega) (.inl ⟨rfl, fun q h => by omega⟩)
    have hent : ∀ k, payoffref03_sums.l0 (k + 1 + L.length + 2) x0 b L (i : Int) = payoffref03_sums.l1 (k + 1) x0 b L (i : Int) at' (L.length : Int) (nf b (acc x0 i)).f0 (nf b (acc x0 i)).f1 (nf b (acc x0 i)).f2 := fun k => by
      rw [enter_key x0 b L i hil (k + 1 + L.length)]
      have := hsc (k + 1)
      rw [show ((0 : Nat) : Int) = 0 from rfl] at this
      exact this
    rcases hF with ⟨rfl, hno⟩ | ⟨p, rfl, hp, hk⟩
    · have hst : ∀ k, payoffref03_sums.l0 (k + 1 + L.length + 2) x0 b L (i : Int) = payoffref03_sums.l0 k x0 b (L ++ [nf b (acc x0 i)]) ((i + 1 : Nat) : Int) := fun k => by
        rw [hent]
        simp only [payoffref03_sums.l1]
        rw [if_neg (by omega), if_pos (by omega), if_pos (by omega), w1]
      obtain ⟨K, hK⟩ := ih (i + 1) (L ++ [nf b (acc x0 i)]) (by omega) (by omega) (by rw [htk]; exact hS.push _ hxw hno)
      refine ⟨K + 1 + L.length + 2, ?_⟩
      rcases hK with ⟨L', h1, h2⟩ | ⟨h1, h2⟩
      · exact .inl ⟨L', h1, fun k => by rw [show k + (K + 1 + L.length + 2) = (k + K) + 1 + L.length + 2 by omega, hst, h2]⟩
      · exact .inr ⟨h1, fun k => by rw [show k + (K + 1 + L.length + 2) = (k + K) + 1 + L.length + 2 by omega, hst, h2]⟩
    · have hin := sumF_in _ _ _ (show I64 0 by unfold I64; omega) (hS.sum p hp)
      have hadd := add_f hin hxw
      by_cases hov : ov (acc L p).f2 (acc x0 i).f2 = true
      · rw [if_pos hov] at hadd
        refine ⟨0 + 1 + L.length + 2, .inr ⟨⟨acc x0 i, hx, ?_⟩, fun k => ?_⟩⟩
        · rw [split_grp b _ x0 i hil, grpB_one, if_pos ⟨rfl, rfl⟩, ← grpB_key b hk]
          refine sumF_bad _ _ _ ?_
          rw [sumF_ok _ _ _ _ (hS.sum p hp), sumF_cons, if_pos hov]
        · rw [show k + (0 + 1 + L.length + 2) = k + 1 + L.length + 2 by omega, hent]
          simp only [payoffref03_sums.l1]
          rw [if_neg (by omega), if_neg (by omega), if_pos (by omega), if_pos (by omega)]
          have : payoffref03_add.f (rd_T32 L (p : Int)).f2 (nf b (acc x0 i)).f2 = some (0, false) := hadd
          rw [this]
          simp
      · rw [if_neg hov] at hadd
        have hst : ∀ k, payoffref03_sums.l0 (k + 1 + L.length + 2) x0 b L (i : Int) = payoffref03_sums.l0 k x0 b (L.set p ⟨(acc L p).f0, (acc L p).f1, wrap64 ((acc L p).f2 + (acc x0 i).f2)⟩) ((i + 1 : Nat) : Int) := fun k => by
          rw [hent]
          simp only [payoffref03_sums.l1]
          rw [if_neg (by omega), if_neg (by omega), if_pos (by omega), if_pos (by omega)]
          have : payoffref03_add.f (rd_T32 L (p : Int)).f2 (nf b (acc x0 i)).f2 = some (wrap64 ((acc L p).f2 + (acc x0 i).f2), true) := hadd
          rw [this]
          simp only [Option.bind_some, if_true, Int.toNat_natCast]
          rw [w1]
          rfl
        obtain ⟨K, hK⟩ := ih (i + 1) _ (by omega) (by omega) (by rw [htk]; exact hS.add _ p hp hk hov)
        refine ⟨K + 1 + L.length + 2, ?_⟩
        rcases hK with ⟨L', h1, h2⟩ | ⟨h1, h2⟩
        · exact .inl ⟨L', h1, fun k => by rw [show k + (K + 1 + L.length + 2) = (k + K) + 1 + L.length + 2 by omega, hst, h2]⟩
        · exact .inr ⟨h1, fun k => by rw [show k + (K + 1 + L.length + 2) = (k + K) + 1 + L.length + 2 by omega, hst, h2]⟩
theorem St.same {b : Bool} {l L L' : List S32} (h : St b l L) (hs : Same L L') (hp : Pre L'.length L') : St b l L' := by
  refine ⟨fun p q hpq hq h1 => ?_, fun p hp2 => ?_, fun p hp2 => ?_, fun x hx => ?_, by rw [hs.1]; exact h.len⟩
  · have h2 := hp p q (by omega) hpq hq
    rcases h2 with h2 | ⟨_, h2⟩
    · have := h1.1; omega
    · rw [h1.2, swo_sless.irrefl] at h2; cases h2
  · obtain ⟨q, hq, e⟩ := (hs.2 (acc L' p)).1 ⟨p, hp2, rfl⟩
    rw [← e]; exact h.sum q hq
  · obtain ⟨q, hq, e⟩ := (hs.2 (acc L' p)).1 ⟨p, hp2, rfl⟩
    rw [← e]; exact h.came q hq
  · obtain ⟨q, hq, e⟩ := h.there x hx
    obtain ⟨p, hp2, e2⟩ := (hs.2 (acc L q)).2 ⟨q, hq, rfl⟩
    exact ⟨p, hp2, by rw [e2]; exact e⟩
theorem sums_f (x0 : List S32) (b : Bool) (hn : x0.length ≤ 4398046511103) (hwf : ∀ x ∈ x0, I64 x.f2) :
    (∃ L, St b x0 L ∧ Pre L.length L ∧ ∃ K, ∀ k, payoffref03_sums.f (k + K) x0 b = some (L, true)) ∨
    ((∃ x ∈ x0, sumF 0 (grpB b (nf b x) x0) = (0, 1)) ∧ ∃ K, ∀ k, payoffref03_sums.f (k + K) x0 b = some ([], false)) := by
  obtain ⟨K, hK⟩ := gather_loop x0 b hn hwf x0.length 0 [] (by omega) (by omega) (by simpa using St.nil b)
  rcases hK with ⟨L, h1, h2⟩ | ⟨h1, h2⟩
  · obtain ⟨K2, L', g1, g2, g3⟩ := exch L.length 0 L (by omega) (by omega) (by have := h1.len; omega) h1.dist (fun p q h => by omega)
    refine .inl ⟨L', h1.same g1 g2, g2, K2 + K, fun k => ?_⟩
    unfold payoffref03_sums.f
    have e1 := h2 (k + K2)
    rw [show ((0 : Nat) : Int) = 0 from rfl] at e1 g3
    rw [← Nat.add_assoc, e1]
    exact g3 k
  · exact .inr ⟨h1, K, fun k => h2 k⟩
end Go.Proofs.Ytdfndbegifdejaa.PFlowExact
end
section
namespace Go.Proofs.Ytdfndbegifdejaa.GNetC
open Go.RowKit Go.Proofs.YtdfndbegifdejaaW.PrintWords Go.Proofs.YtdfndbegifdejaaW.PrintLast Go.Proofs.YtdfndbegifdejaaW.PrintMore
attribute [local go_sem] max2_int min2_int max_two min_two max_three min_three max_four min_four
set_option linter.unusedVariables false
set_option linter.unusedSimpArgs false
def errW : Option Int → Value
 | none => .nilIface
 | some c => .iface 0 (.int .i64 c)
theorem errW_none : errW none = .nilIface := rfl
theorem errW_some (c : Int) : errW (some c) = .iface 0 (.int .i64 c) := rfl
theorem info3 : (Try.prog.info? 3).map (fun i => (i.zero, i.size, i.bytes)) = some (some (.int .i64 0), 1, 8) := by kernel_rfl
def flow_Net_1.f (a0_0 : Int) (a0_1 : ByteArray) (a0_2 : Int) : Option (Int × ByteArray) := some (a0_0, a0_1)
set_option maxHeartbeats 8000000 in
set_option maxRecDepth 100000 in
theorem flow_Net_1.calls (a0_0 : Int) (a0_1 : ByteArray) (a0_2 : Int) (r1 : Int) (r2 : ByteArray) (w : World) (h : flow_Net_1.f a0_0 a0_1 a0_2 = some (r1, r2)) :
  Calls Try.prog 47 #[.agg #[.int .i64 a0_0, .string a0_1, .int .i64 a0_2]] w fun e w' => e = .returned (.agg #[.int .i64 r1, .string r2]) ∧ Below w.heap.size w w' := by
 have hu32 := Try.underlying32
 have hu82 := Try.underlying82
 have HB := ak (Below.refl w.heap.size w)
 have H : (some (a0_0, a0_1)) = some (r1, r2) := h
 clear h
 simp only [Option.some.injEq, Prod.mk.injEq] at H
 obtain ⟨rfl, rfl⟩ := H
 go_enter Try.func47, Try.ntmps47
 go_wp2_with (first | ((with_reducible refine gate_dst (N := 1) rfl ?_); refine box_event ?hg (N := 1) ?hd (cs := #[.int .i64 a0_0, .string a0_1, .int .i64 a0_2]) (t := 32) ?hr ?_; (case hd => rfl); (case hg => rfl); (case hr => first | (go_simp; done) | (go_simp; rfl)); intro gb101 hg w2 hbox hb; have BK101 := ak (hbox); have GW101 := ak ((by rw [hg]; exact (below_size (by repeat (first | (with_reducible first | exact HB.out | apply below_alloc | apply pw_below_drewN | apply below_drew1) | exact HB.out))) : w.heap.size ≤ gb101)); have GE101 := ak ((by rw [hg]; exact (below_size (by repeat (first | (with_reducible first | exact HB.out | apply below_alloc | apply pw_below_drewN | apply below_drew1) | exact HB.out))) : w.heap.size ≤ gb101)); replace HB := ak (below_step (by repeat (first | (with_reducible first | exact HB.out | apply below_alloc | apply pw_below_drewN | apply below_drew1) | exact HB.out)) hb); clear hb hbox hg) | ((with_reducible refine gate_dst (N := 2) rfl ?_); refine box_event ?hg (N := 2) ?hd (cs := #[.int .i64 0, .string (⟨#[]⟩ : ByteArray)]) (t := 82) ?hr ?_; (case hd => rfl); (case hg => rfl); (case hr => first | (go_simp; done) | (go_simp; rfl)); intro gb102 hg w3 hbox hb; have n0_ := ak (blk_below (g := gb101) (o := .cells #[.int .i64 a0_0, .string a0_1, .int .i64 a0_2] 32 (0, 0)) (by (with_reducible repeat (first | refine blk_drewN ?_ _ | refine blk_drew ?_ | refine blk_alloc ?_ _)); exact BK101.out) hb); have n1_ := ak (below_step (by repeat (first | (with_reducible first | exact HB.out | apply below_alloc | apply pw_below_drewN | apply below_drew1 | refine below_set ?_ GE101.out) | exact HB.out)) hb); have n2_ := ak (hbox); have n3_ := ak ((by rw [hg]; exact (below_size (by repeat (first | (with_reducible first | exact HB.out | apply below_alloc | apply pw_below_drewN | apply below_drew1 | refine below_set ?_ GE101.out) | exact HB.out))) : w.heap.size ≤ gb102)); have n4_ := ak ((by rw [hg]; exact (below_size (by repeat (first | (with_reducible first | exact HB.out | apply below_alloc | apply pw_below_drewN | apply below_drew1 | refine below_set ?_ GE101.out) | exact HB.out))) : w.heap.size ≤ gb102)); have n5_ := ak ((by rw [hg]; exact Nat.ne_of_lt (blk_lt (g := gb101) (o := .cells #[.int .i64 a0_0, .string a0_1, .int .i64 a0_2] 32 (0, 0)) (by (with_reducible repeat (first | refine blk_drewN ?_ _ | refine blk_drew ?_ | refine blk_alloc ?_ _)); exact BK101.out)) : gb101 ≠ gb102)); have n6_ := ak ((by rw [hg]; exact Nat.ne_of_gt (blk_lt (g := gb101) (o := .cells #[.int .i64 a0_0, .string a0_1, .int .i64 a0_2] 32 (0, 0)) (by (with_reducible repeat (first | refine blk_drewN ?_ _ | refine blk_drew ?_ | refine blk_alloc ?_ _)); exact BK101.out)) : gb102 ≠ gb101)); clear BK101; clear HB; have BK101 := n0_; have HB := n1_; have BK102 := n2_; have GW102 := n3_; have GE102 := n4_; have NB101_102 := n5_; have NB102_101 := n6_; clear n0_ n1_ n2_ n3_ n4_ n5_ n6_; clear hb hbox hg; have hnb4 := NB101_102.out; have hnc4 := NB102_101.out; have hcz5_0 : w3.cell? ⟨gb101, 0, none⟩ = some (.int .i64 a0_0) := (blk_cell BK101.out 0).trans rfl; have hcz5_1 : w3.cell? ⟨gb101, 1, none⟩ = some (.string a0_1) := (blk_cell BK101.out 1).trans rfl; have hcz5_2 : w3.cell? ⟨gb101, 2, none⟩ = some (.int .i64 a0_2) := (blk_cell BK101.out 2).trans rfl; have hfz5_0 := blk_frozen BK101.out 0; have hfz5_1 := blk_frozen BK101.out 1; have hfz5_2 := blk_frozen BK101.out 2; have hcz6_0 : w3.cell? ⟨gb102, 0, none⟩ = some (.int .i64 0) := (blk_cell BK102.out 0).trans rfl; have hcz6_1 : w3.cell? ⟨gb102, 1, none⟩ = some (.string (⟨#[]⟩ : ByteArray)) := (blk_cell BK102.out 1).trans rfl; have hfz6_0 := blk_frozen BK102.out 0; have hfz6_1 := blk_frozen BK102.out 1))
 refine bodyPost_ret (results_cell_row rfl _ _ gb102 82 #[.int .i64 a0_0, .string a0_1] (0, 0) _ rfl (by (with_reducible repeat (first | refine blk_drewN ?_ _ | refine blk_drew ?_ | refine blk_alloc ?_ _)); refine blk_put (cs := #[.int .i64 a0_0, .string (⟨#[]⟩ : ByteArray)]) ?_ 1 _ rfl; (with_reducible repeat (first | refine blk_drewN ?_ _ | refine blk_drew ?_ | refine blk_alloc ?_ _)); refine blk_put (cs := #[.int .i64 0, .string (⟨#[]⟩ : ByteArray)]) ?_ 0 _ rfl; (with_reducible repeat (first | refine blk_drewN ?_ _ | refine blk_drew ?_ | refine blk_alloc ?_ _)); exact BK102.out) Try.underlying82 rfl (by kernel_rfl)) rfl ?_
 exact ⟨by first | rfl | (simp [errW_none, errW_some] <;> rfl) | (simp [*, errW_none, errW_some] <;> rfl), by repeat (first | (with_reducible first | exact HB.out | apply below_alloc | apply pw_below_drewN | apply below_drew1 | refine below_set ?_ GE101.out | refine below_set ?_ GE102.out) | exact HB.out)⟩
def cmp_Or_int.l0 : Nat → Int → List Int → Int → Int → Option (Int)
 | 0, _, _, _, _ => none
 | k + 1, x3, x6, x7, x8 => if x8 < x7 then (if 0 ≤ x8 then (if x8 < (x6.length : Int) then (if (rd x6 x8) = x3 then (cmp_Or_int.l0 k x3 x6 x7 (wrap64 (x8 + 1))) else (some (rd x6 x8))) else (none)) else (none)) else (some x3)
def cmp_Or_int.f (k : Nat) (l0 : List Int) : Option (Int) := cmp_Or_int.l0 k 0 l0 (l0.length : Int) 0
set_option maxHeartbeats 8000000 in
set_option maxRecDepth 100000 in
theorem cmp_Or_int.calls (k : Nat) (A0 : Option Addr) (c0 : Nat) (l0 : List Int) (r : Int) (w : World) (hr0 : Kd.C (Kd.int .i64) w A0 l0.length l0) (hc0 : l0.length ≤ c0) (h : cmp_Or_int.f k l0 = some r) :
  Calls Try.prog 35 #[.slice A0 l0.length c0] w fun e w' => e = .returned (.int .i64 r) ∧ Drawn0 w w' := by
 have HR0 := ak hr0
 have HC0 := ak hc0
 clear hr0 hc0
 have H : (cmp_Or_int.l0 k 0 l0 (l0.length : Int) 0) = some r := h
 clear h
 have H' := ak H
 clear H
 go_enter Try.func35, Try.ntmps35
 go_wp2
 go_loopg [8] k (fun kq v8 w' => ∃ (x8_1 : Int), v8 = .int .i64 x8_1 ∧ Aside0 (cmp_Or_int.l0 kq 0 l0 (l0.length : Int) x8_1 = some r) ∧ Aside0 (kq ≤ k) ∧ Drawn0 w w')
 case atStart => exact ⟨(0), (by first | rfl | (simp; done) | (simp [*]; done)), H', ⟨Nat.le_refl _⟩, by repeat (first | exact Drawn0.refl _ | apply Drawn0.step)⟩
 case round =>
  clear H'
  obtain ⟨x8_1, rfl, HA, HK1, ⟨m1, rfl⟩⟩ := hrel
  cases gk with
  | zero => exact absurd HA.out (by simp [cmp_Or_int.l0])
  | succ k1 =>
   have H := HA.out
   clear HA
   simp only [cmp_Or_int.l0] at H
   by_cases c2 : x8_1 < (l0.length : Int)
   ·rw [if_pos c2] at H
    have c2b0 := decide_eq_true c2
    clear c2
    by_cases c3 : 0 ≤ x8_1
    ·rw [if_pos c3] at H
     have c3b0 := decide_eq_true c3
     clear c3
     by_cases c4 : x8_1 < (l0.length : Int)
     ·rw [if_pos c4] at H
      have c4b0 := decide_eq_true c4
      clear c4
      by_cases c5 : (rd l0 x8_1) = 0
      ·rw [if_pos c5] at H
       have c5b0 : ((rd l0 x8_1) == 0) = true := beq_iff_eq.mpr c5
       have c5b1 : ((rd l0 x8_1) != 0) = false := bne_eq_false_iff_eq.mpr c5
       clear c5
       have H' := ak H
       clear H
       have p103 : 0 ≤ (x8_1 : Int) := of_decide_eq_true (by first | (with_reducible assumption) | assumption)
       have q103 : x8_1 < (l0.length : Int) := of_decide_eq_true (by first | (with_reducible assumption) | assumption)
       obtain ⟨ad103, e103, hx103_0⟩ := Kd.at_int HR0.out x8_1 p103 q103
       cases e103
       replace p103 := eq_true p103
       replace q103 := eq_true q103
       go_wp2
       go_roundg k1
       case measure => have := HK1.out; omega
       case rel => exact ⟨(wrap64 (x8_1 + 1)), (by first | rfl | (simp; done) | (simp [*]; done)), H', ⟨by have := HK1.out; omega⟩, by repeat (first | exact Drawn0.refl _ | apply Drawn0.step)⟩
      ·rw [if_neg c5] at H
       have c5b0 : ((rd l0 x8_1) == 0) = false := beq_eq_false_iff_ne.mpr c5
       have c5b1 : ((rd l0 x8_1) != 0) = true := bne_iff_ne.mpr c5
       obtain rfl := Option.some.inj H
       have p103 : 0 ≤ (x8_1 : Int) := of_decide_eq_true (by first | (with_reducible assumption) | assumption)
       have q103 : x8_1 < (l0.length : Int) := of_decide_eq_true (by first | (with_reducible assumption) | assumption)
       obtain ⟨ad103, e103, hx103_0⟩ := Kd.at_int HR0.out x8_1 p103 q103
       cases e103
       replace p103 := eq_true p103
       replace q103 := eq_true q103
       go_wp2
       go_ret
       exact ⟨by first | rfl | (simp; done) | (simp [*]; done), by repeat (first | exact Drawn0.refl _ | apply Drawn0.step)⟩
     ·rw [if_neg c4] at H
      exact absurd H (by simp)
    ·rw [if_neg c3] at H
     exact absurd H (by simp)
   ·rw [if_neg c2] at H
    have c2b0 := decide_eq_false c2
    clear c2
    obtain rfl := Option.some.inj H
    go_wp2
    go_ret
    exact ⟨by first | rfl | (simp; done) | (simp [*]; done), by repeat (first | exact Drawn0.refl _ | apply Drawn0.step)⟩
def cmp_isNaN_int.f (a0 : Int) : Option (Bool) := some (a0 != a0)
set_option maxHeartbeats 8000000 in
set_option maxRecDepth 100000 in
theorem cmp_isNaN_int.calls (a0 : Int) (r : Bool) (w : World) (h : cmp_isNaN_int.f a0 = some r) :
  Calls Try.prog 51 #[.int .i64 a0] w fun e w' => e = .returned (.bool r) ∧ Drawn0 w w' := by
 have H : (some (a0 != a0)) = some r := h
 clear h
 obtain rfl := Option.some.inj H
 go_enter Try.func51, Try.ntmps51
 go_wp2
 go_ret
 exact ⟨by first | rfl | (simp; done) | (simp [*]; done), by repeat (first | exact Drawn0.refl _ | apply Drawn0.step)⟩
def cmp_Compare_int.f (a0 : Int) (a1 : Int) : Option (Int) := (cmp_isNaN_int.f a0).bind fun t104 => ((cmp_isNaN_int.f a1).bind fun t105 => (if t104 = true then (if t105 = true then (some 0) else (some (-1))) else (if t105 = true then (some 1) else (if a0 < a1 then (some (-1)) else (if a0 > a1 then (some 1) else (some 0))))))
set_option maxHeartbeats 8000000 in
set_option maxRecDepth 100000 in
theorem cmp_Compare_int.calls (a0 : Int) (a1 : Int) (r : Int) (w : World) (h : cmp_Compare_int.f a0 a1 = some r) :
  Calls Try.prog 36 #[.int .i64 a0, .int .i64 a1] w fun e w' => e = .returned (.int .i64 r) ∧ Drawn0 w w' := by
 have H : ((cmp_isNaN_int.f a0).bind fun t104 => ((cmp_isNaN_int.f a1).bind fun t105 => (if t104 = true then (if t105 = true then (some 0) else (some (-1))) else (if t105 = true then (some 1) else (if a0 < a1 then (some (-1)) else (if a0 > a1 then (some 1) else (some 0))))))) = some r := h
 clear h
 replace H := Option.bind_eq_some_iff.mp H
 obtain ⟨t104, A30, H⟩ := H
 replace H : ((cmp_isNaN_int.f a1).bind fun t105 => (if t104 = true then (if t105 = true then (some 0) else (some (-1))) else (if t105 = true then (some 1) else (if a0 < a1 then (some (-1)) else (if a0 > a1 then (some 1) else (some 0)))))) = some r := H
 have A3 := ak A30
 clear A30
 replace H := Option.bind_eq_some_iff.mp H
 obtain ⟨t105, A40, H⟩ := H
 replace H : (if t104 = true then (if t105 = true then (some 0) else (some (-1))) else (if t105 = true then (some 1) else (if a0 < a1 then (some (-1)) else (if a0 > a1 then (some 1) else (some 0))))) = some r := H
 have A4 := ak A40
 clear A40
 by_cases c5 : t104 = true
 ·subst c5
  have H1 : (if t105 = true then (some 0) else (some (-1))) = some r := by rw [if_pos rfl] at H; exact H
  clear H
  have H := H1
  clear H1
  by_cases c6 : t105 = true
  ·subst c6
   have H1 : (some 0) = some r := by rw [if_pos rfl] at H; exact H
   clear H
   have H := H1
   clear H1
   obtain rfl := Option.some.inj H
   go_enter Try.func36, Try.ntmps36
   go_wp2_with (first | ((with_reducible refine gate_callee (f := 51) rfl ?_); refine goesL_ (some 8) rfl rfl Try.func51 (by kernel_rfl) rfl #[.int .i64 a0] rfl (by (try simp only [List.map_toArray, List.map_cons, List.map_nil]); first | done | rfl | (simp only [List.length_drop, List.length_take]; rfl)) ?_; (with_reducible refine (cmp_isNaN_int.calls a0 true _ A3.out).mono ?_); rintro e w' ⟨rfl, ⟨nd, rfl⟩⟩; refine ⟨_, rfl, ?_⟩) | ((with_reducible refine gate_callee (f := 51) rfl ?_); refine goesL_ (some 10) rfl rfl Try.func51 (by kernel_rfl) rfl #[.int .i64 a1] rfl (by (try simp only [List.map_toArray, List.map_cons, List.map_nil]); first | done | rfl | (simp only [List.length_drop, List.length_take]; rfl)) ?_; (with_reducible refine (cmp_isNaN_int.calls a1 true _ A4.out).mono ?_); rintro e w' ⟨rfl, ⟨nd, rfl⟩⟩; refine ⟨_, rfl, ?_⟩))
   go_ret
   exact ⟨by first | rfl | (simp; done) | (simp [*]; done), by repeat (first | exact Drawn0.refl _ | apply Drawn0.step)⟩
  ·replace c6 := Bool.eq_false_iff.mpr c6
   subst c6
   have H1 : (some (-1)) = some r := by rw [if_neg (show ¬ (false = true) by decide)] at H; exact H
   clear H
   have H := H1
   clear H1
   obtain rfl := Option.some.inj H
   go_enter Try.func36, Try.ntmps36
   go_wp2_with (first | ((with_reducible refine gate_callee (f := 51) rfl ?_); refine goesL_ (some 8) rfl rfl Try.func51 (by kernel_rfl) rfl #[.int .i64 a0] rfl (by (try simp only [List.map_toArray, List.map_cons, List.map_nil]); first | done | rfl | (simp only [List.length_drop, List.length_take]; rfl)) ?_; (with_reducible refine (cmp_isNaN_int.calls a0 true _ A3.out).mono ?_); rintro e w' ⟨rfl, ⟨nd, rfl⟩⟩; refine ⟨_, rfl, ?_⟩) | ((with_reducible refine gate_callee (f := 51) rfl ?_); refine goesL_ (some 10) rfl rfl Try.func51 (by kernel_rfl) rfl #[.int .i64 a1] rfl (by (try simp only [List.map_toArray, List.map_cons, List.map_nil]); first | done | rfl | (simp only [List.length_drop, List.length_take]; rfl)) ?_; (with_reducible refine (cmp_isNaN_int.calls a1 false _ A4.out).mono ?_); rintro e w' ⟨rfl, ⟨nd, rfl⟩⟩; refine ⟨_, rfl, ?_⟩))
   go_ret
   exact ⟨by first | rfl | (simp; done) | (simp [*]; done), by repeat (first | exact Drawn0.refl _ | apply Drawn0.step)⟩
 ·replace c5 := Bool.eq_false_iff.mpr c5
  subst c5
  have H1 : (if t105 = true then (some 1) else (if a0 < a1 then (some (-1)) else (if a0 > a1 then (some 1) else (some 0)))) = some r := by rw [if_neg (show ¬ (false = true) by decide)] at H; exact H
  clear H
  have H := H1
  clear H1
  by_cases c7 : t105 = true
  ·subst c7
   have H1 : (some 1) = some r := by rw [if_pos rfl] at H; exact H
   clear H
   have H := H1
   clear H1
   obtain rfl := Option.some.inj H
   go_enter Try.func36, Try.ntmps36
   go_wp2_with (first | ((with_reducible refine gate_callee (f := 51) rfl ?_); refine goesL_ (some 8) rfl rfl Try.func51 (by kernel_rfl) rfl #[.int .i64 a0] rfl (by (try simp only [List.map_toArray, List.map_cons, List.map_nil]); first | done | rfl | (simp only [List.length_drop, List.length_take]; rfl)) ?_; (with_reducible refine (cmp_isNaN_int.calls a0 false _ A3.out).mono ?_); rintro e w' ⟨rfl, ⟨nd, rfl⟩⟩; refine ⟨_, rfl, ?_⟩) | ((with_reducible refine gate_callee (f := 51) rfl ?_); refine goesL_ (some 10) rfl rfl Try.func51 (by kernel_rfl) rfl #[.int .i64 a1] rfl (by (try simp only [List.map_toArray, List.map_cons, List.map_nil]); first | done | rfl | (simp only [List.length_drop, List.length_take]; rfl)) ?_; (with_reducible refine (cmp_isNaN_int.calls a1 true _ A4.out).mono ?_); rintro e w' ⟨rfl, ⟨nd, rfl⟩⟩; refine ⟨_, rfl, ?_⟩))
   go_ret
   exact ⟨by first | rfl | (simp; done) | (simp [*]; done), by repeat (first | exact Drawn0.refl _ | apply Drawn0.step)⟩
  ·replace c7 := Bool.eq_false_iff.mpr c7
   subst c7
   have H1 : (if a0 < a1 then (some (-1)) else (if a0 > a1 then (some 1) else (some 0))) = some r := by rw [if_neg (show ¬ (false = true) by decide)] at H; exact H
   clear H
   have H := H1
   clear H1
   by_cases c8 : a0 < a1
   ·rw [if_pos c8] at H
    have c8b0 := decide_eq_true c8
    clear c8
    obtain rfl := Option.some.inj H
    go_enter Try.func36, Try.ntmps36
    go_wp2_with (first | ((with_reducible refine gate_callee (f := 51) rfl ?_); refine goesL_ (some 8) rfl rfl Try.func51 (by kernel_rfl) rfl #[.int .i64 a0] rfl (by (try simp only [List.map_toArray, List.map_cons, List.map_nil]); first | done | rfl | (simp only [List.length_drop, List.length_take]; rfl)) ?_; (with_reducible refine (cmp_isNaN_int.calls a0 false _ A3.out).mono ?_); rintro e w' ⟨rfl, ⟨nd, rfl⟩⟩; refine ⟨_, rfl, ?_⟩) | ((with_reducible refine gate_callee (f := 51) rfl ?_); refine goesL_ (some 10) rfl rfl Try.func51 (by kernel_rfl) rfl #[.int .i64 a1] rfl (by (try simp only [List.map_toArray, List.map_cons, List.map_nil]); first | done | rfl | (simp only [List.length_drop, List.length_take]; rfl)) ?_; (with_reducible refine (cmp_isNaN_int.calls a1 false _ A4.out).mono ?_); rintro e w' ⟨rfl, ⟨nd, rfl⟩⟩; refine ⟨_, rfl, ?_⟩))
    go_ret
    exact ⟨by first | rfl | (simp; done) | (simp [*]; done), by repeat (first | exact Drawn0.refl _ | apply Drawn0.step)⟩
   ·rw [if_neg c8] at H
    have c8b0 := decide_eq_false c8
    clear c8
    by_cases c9 : a0 > a1
    ·rw [if_pos c9] at H
     have c9b0 := decide_eq_true c9
     clear c9
     obtain rfl := Option.some.inj H
     go_enter Try.func36, Try.ntmps36
     go_wp2_with (first | ((with_reducible refine gate_callee (f := 51) rfl ?_); refine goesL_ (some 8) rfl rfl Try.func51 (by kernel_rfl) rfl #[.int .i64 a0] rfl (by (try simp only [List.map_toArray, List.map_cons, List.map_nil]); first | done | rfl | (simp only [List.length_drop, List.length_take]; rfl)) ?_; (with_reducible refine (cmp_isNaN_int.calls a0 false _ A3.out).mono ?_); rintro e w' ⟨rfl, ⟨nd, rfl⟩⟩; refine ⟨_, rfl, ?_⟩) | ((with_reducible refine gate_callee (f := 51) rfl ?_); refine goesL_ (some 10) rfl rfl Try.func51 (by kernel_rfl) rfl #[.int .i64 a1] rfl (by (try simp only [List.map_toArray, List.map_cons, List.map_nil]); first | done | rfl | (simp only [List.length_drop, List.length_take]; rfl)) ?_; (with_reducible refine (cmp_isNaN_int.calls a1 false _ A4.out).mono ?_); rintro e w' ⟨rfl, ⟨nd, rfl⟩⟩; refine ⟨_, rfl, ?_⟩))
     go_ret
     exact ⟨by first | rfl | (simp; done) | (simp [*]; done), by repeat (first | exact Drawn0.refl _ | apply Drawn0.step)⟩
    ·rw [if_neg c9] at H
     have c9b0 := decide_eq_false c9
     clear c9
     obtain rfl := Option.some.inj H
     go_enter Try.func36, Try.ntmps36
     go_wp2_with (first | ((with_reducible refine gate_callee (f := 51) rfl ?_); refine goesL_ (some 8) rfl rfl Try.func51 (by kernel_rfl) rfl #[.int .i64 a0] rfl (by (try simp only [List.map_toArray, List.map_cons, List.map_nil]); first | done | rfl | (simp only [List.length_drop, List.length_take]; rfl)) ?_; (with_reducible refine (cmp_isNaN_int.calls a0 false _ A3.out).mono ?_); rintro e w' ⟨rfl, ⟨nd, rfl⟩⟩; refine ⟨_, rfl, ?_⟩) | ((with_reducible refine gate_callee (f := 51) rfl ?_); refine goesL_ (some 10) rfl rfl Try.func51 (by kernel_rfl) rfl #[.int .i64 a1] rfl (by (try simp only [List.map_toArray, List.map_cons, List.map_nil]); first | done | rfl | (simp only [List.length_drop, List.length_take]; rfl)) ?_; (with_reducible refine (cmp_isNaN_int.calls a1 false _ A4.out).mono ?_); rintro e w' ⟨rfl, ⟨nd, rfl⟩⟩; refine ⟨_, rfl, ?_⟩))
     go_ret
     exact ⟨by first | rfl | (simp; done) | (simp [*]; done), by repeat (first | exact Drawn0.refl _ | apply Drawn0.step)⟩
end Go.Proofs.Ytdfndbegifdejaa.GNetC
end
section
namespace Go.Proofs.Ytdfndbegifdejaa.GNetC
set_option linter.unusedVariables false
set_option linter.unusedSimpArgs false
open Go.RowKit Go.Proofs.YtdfndbegifdejaaW.PrintWords Go.Proofs.YtdfndbegifdejaaW.PrintLast Go.Proofs.YtdfndbegifdejaaW.PrintMore
set_option maxHeartbeats 1000000 in
set_option maxRecDepth 100000 in
theorem bytealg_CompareString (a b : ByteArray) (w : World) :
    Calls Try.prog 52 #[.string a, .string b] w fun e w' => e = .returned (.int .i64 (Lib.compareBytes a.data.toList b.data.toList)) ∧ w' = w := by
  go_enter Try.func52, Try.ntmps52
  go_wp2
  rw [run_callFunc_extern Try.func65 (by kernel_rfl) (by kernel_rfl) (e := Extern.BytealgCompare.compare) (by kernel_rfl) (by kernel_rfl), Lib.run_compareString]
  simp only [Result.andThen]
  rw [Oper.upon_value]
  go_wp2
  go_ret
  exact ⟨rfl, rfl⟩
def strings_Compare.f (a0 a1 : ByteArray) : Option Int := some (Lib.compareBytes a0.data.toList a1.data.toList)
set_option maxHeartbeats 1000000 in
theorem strings_Compare.calls (a0 a1 : ByteArray) (r : Int) (w : World) (h : strings_Compare.f a0 a1 = some r) :
    Calls Try.prog 37 #[.string a0, .string a1] w fun e w' => e = .returned (.int .i64 r) ∧ Drawn0 w w' := by
  obtain rfl := Option.some.inj h
  clear h
  go_enter Try.func37, Try.ntmps37
  go_wp2_with (go_at_call 52; refine (bytealg_CompareString _ _ _).mono ?_; rintro e w' ⟨rfl, rfl⟩)
  go_ret
  exact ⟨rfl, Drawn0.refl _⟩
end Go.Proofs.Ytdfndbegifdejaa.GNetC
end
section
namespace Go.Proofs.Ytdfndbegifdejaa.GNetC
open Go.RowKit Go.Proofs.YtdfndbegifdejaaW.PrintWords Go.Proofs.YtdfndbegifdejaaW.PrintLast Go.Proofs.YtdfndbegifdejaaW.PrintMore
attribute [local go_sem] max2_int min2_int max_two min_two max_three min_three max_four min_four
set_option linter.unusedVariables false
set_option linter.unusedSimpArgs false
def flow_Net_2.T1 : Bool × List (List Nat × List Nat) := (true, [([], []), ([0], [0]), ([], []), ([2], [2]), ([1, 3], [1, 3]), ([], []), ([5], [5]), ([], []), ([7], [7]), ([6, 8, 4], [6, 8]), ([4, 9], [4, 9]), ([10, 9], [10]), ([11, 11, 0, 1, 2, 3, 4, 5, 6, 7, 8, 9, 10, 11], [11])])
def flow_Net_2.B1 : List Nat := [0, 1, 0, 4, 15, 0, 32, 0, 128, 511, 1023, 2047, 4095]
theorem flow_Net_2.tab1 : rtab .any (opsOf Try.f48 1) = flow_Net_2.T1 := by kernel_rfl
theorem flow_Net_2.bits1 : waitsOk flow_Net_2.T1.2 flow_Net_2.B1 = true := by kernel_rfl
def flow_Net_3.f (a0_0 : Int) (a0_1 : ByteArray) (a1 : Int) : Option (Int × ByteArray × Int) := some (a0_0, a0_1, a1)
set_option maxHeartbeats 8000000 in
set_option maxRecDepth 100000 in
theorem flow_Net_3.calls (a0_0 : Int) (a0_1 : ByteArray) (a1 : Int) (r1 : Int) (r2 : ByteArray) (r3 : Int) (w : World) (h : flow_Net_3.f a0_0 a0_1 a1 = some (r1, r2, r3)) :
  Calls Try.prog 49 #[.agg #[.int .i64 a0_0, .string a0_1], .int .i64 a1] w fun e w' => e = .returned (.agg #[.int .i64 r1, .string r2, .int .i64 r3]) ∧ Below w.heap.size w w' := by
 have hu82 := Try.underlying82
 have hu32 := Try.underlying32
 have HB := ak (Below.refl w.heap.size w)
 have H : (some (a0_0, a0_1, a1)) = some (r1, r2, r3) := h
 clear h
 simp only [Option.some.injEq, Prod.mk.injEq] at H
 obtain ⟨rfl, rfl, rfl⟩ := H
 go_enter Try.func49, Try.ntmps49
 go_wp2_with (first | ((with_reducible refine gate_dst (N := 2) rfl ?_); refine box_event ?hg (N := 2) ?hd (cs := #[.int .i64 a0_0, .string a0_1]) (t := 82) ?hr ?_; (case hd => rfl); (case hg => rfl); (case hr => first | (go_simp; done) | (go_simp; rfl)); intro gb114 hg w3 hbox hb; have BK114 := ak (hbox); have GW114 := ak ((by rw [hg]; exact (below_size (by repeat (first | (with_reducible first | exact HB.out | apply below_alloc | apply pw_below_drewN | apply below_drew1) | exact HB.out))) : w.heap.size ≤ gb114)); have GE114 := ak ((by rw [hg]; exact (below_size (by repeat (first | (with_reducible first | exact HB.out | apply below_alloc | apply pw_below_drewN | apply below_drew1) | exact HB.out))) : w.heap.size ≤ gb114)); replace HB := ak (below_step (by repeat (first | (with_reducible first | exact HB.out | apply below_alloc | apply pw_below_drewN | apply below_drew1) | exact HB.out)) hb); clear hb hbox hg) | ((with_reducible refine gate_dst (N := 4) rfl ?_); refine box_event ?hg (N := 4) ?hd (cs := #[.int .i64 0, .string (⟨#[]⟩ : ByteArray), .int .i64 0]) (t := 32) ?hr ?_; (case hd => rfl); (case hg => rfl); (case hr => first | (go_simp; done) | (go_simp; rfl)); intro gb115 hg w4 hbox hb; have n0_ := ak (blk_below (g := gb114) (o := .cells #[.int .i64 a0_0, .string a0_1] 82 (0, 0)) (by (with_reducible repeat (first | refine blk_drewN ?_ _ | refine blk_drew ?_ | refine blk_alloc ?_ _)); exact BK114.out) hb); have n1_ := ak (below_step (by repeat (first | (with_reducible first | exact HB.out | apply below_alloc | apply pw_below_drewN | apply below_drew1 | refine below_set ?_ GE114.out) | exact HB.out)) hb); have n2_ := ak (hbox); have n3_ := ak ((by rw [hg]; exact (below_size (by repeat (first | (with_reducible first | exact HB.out | apply below_alloc | apply pw_below_drewN | apply below_drew1 | refine below_set ?_ GE114.out) | exact HB.out))) : w.heap.size ≤ gb115)); have n4_ := ak ((by rw [hg]; exact (below_size (by repeat (first | (with_reducible first | exact HB.out | apply below_alloc | apply pw_below_drewN | apply below_drew1 | refine below_set ?_ GE114.out) | exact HB.out))) : w.heap.size ≤ gb115)); have n5_ := ak ((by rw [hg]; exact Nat.ne_of_lt (blk_lt (g := gb114) (o := .cells #[.int .i64 a0_0, .string a0_1] 82 (0, 0)) (by (with_reducible repeat (first | refine blk_drewN ?_ _ | refine blk_drew ?_ | refine blk_alloc ?_ _)); exact BK114.out)) : gb114 ≠ gb115)); have n6_ := ak ((by rw [hg]; exact Nat.ne_of_gt (blk_lt (g := gb114) (o := .cells #[.int .i64 a0_0, .string a0_1] 82 (0, 0)) (by (with_reducible repeat (first | refine blk_drewN ?_ _ | refine blk_drew ?_ | refine blk_alloc ?_ _)); exact BK114.out)) : gb115 ≠ gb114)); clear BK114; clear HB; have BK114 := n0_; have HB := n1_; have BK115 := n2_; have GW115 := n3_; have GE115 := n4_; have NB114_115 := n5_; have NB115_114 := n6_; clear n0_ n1_ n2_ n3_ n4_ n5_ n6_; clear hb hbox hg; have hnb5 := NB114_115.out; have hnc5 := NB115_114.out; have hcz6_0 : w4.cell? ⟨gb114, 0, none⟩ = some (.int .i64 a0_0) := (blk_cell BK114.out 0).trans rfl; have hcz6_1 : w4.cell? ⟨gb114, 1, none⟩ = some (.string a0_1) := (blk_cell BK114.out 1).trans rfl; have hfz6_0 := blk_frozen BK114.out 0; have hfz6_1 := blk_frozen BK114.out 1; have hcz7_0 : w4.cell? ⟨gb115, 0, none⟩ = some (.int .i64 0) := (blk_cell BK115.out 0).trans rfl; have hcz7_1 : w4.cell? ⟨gb115, 1, none⟩ = some (.string (⟨#[]⟩ : ByteArray)) := (blk_cell BK115.out 1).trans rfl; have hcz7_2 : w4.cell? ⟨gb115, 2, none⟩ = some (.int .i64 0) := (blk_cell BK115.out 2).trans rfl; have hfz7_0 := blk_frozen BK115.out 0; have hfz7_1 := blk_frozen BK115.out 1; have hfz7_2 := blk_frozen BK115.out 2))
 refine bodyPost_ret (results_cell_row rfl _ _ gb115 32 #[.int .i64 a0_0, .string a0_1, .int .i64 a1] (0, 0) _ rfl (by (with_reducible repeat (first | refine blk_drewN ?_ _ | refine blk_drew ?_ | refine blk_alloc ?_ _)); refine blk_put (cs := #[.int .i64 a0_0, .string a0_1, .int .i64 0]) ?_ 2 _ rfl; (with_reducible repeat (first | refine blk_drewN ?_ _ | refine blk_drew ?_ | refine blk_alloc ?_ _)); refine blk_put (cs := #[.int .i64 a0_0, .string (⟨#[]⟩ : ByteArray), .int .i64 0]) ?_ 1 _ rfl; (with_reducible repeat (first | refine blk_drewN ?_ _ | refine blk_drew ?_ | refine blk_alloc ?_ _)); refine blk_put (cs := #[.int .i64 0, .string (⟨#[]⟩ : ByteArray), .int .i64 0]) ?_ 0 _ rfl; (with_reducible repeat (first | refine blk_drewN ?_ _ | refine blk_drew ?_ | refine blk_alloc ?_ _)); exact BK115.out) Try.underlying32 rfl (by kernel_rfl)) rfl ?_
 exact ⟨by first | rfl | (simp [errW_none, errW_some] <;> rfl) | (simp [*, errW_none, errW_some] <;> rfl), by repeat (first | (with_reducible first | exact HB.out | apply below_alloc | apply pw_below_drewN | apply below_drew1 | refine below_set ?_ GE114.out | refine below_set ?_ GE115.out) | exact HB.out)⟩
end Go.Proofs.Ytdfndbegifdejaa.GNetC
end
