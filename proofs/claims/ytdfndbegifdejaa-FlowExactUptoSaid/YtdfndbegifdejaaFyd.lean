import Derived.Test.YtdfndbegifdejaaFyc
import Derived.Test.YtdfndbegifdejaaProg
import Derived.Below
import Derived.Deep.Draws
import Derived.Deep.AppendLies
import Derived.Maps.AppendAt
import Derived.OwnWalk
import Derived.Laws.BytesArg
import Derived.Laws.MakeOwn
import Derived.Laws.OwnMore
import Derived.Deep.OwnRows
import Derived.Tactics
import Derived.Lib.ConvBytes
import Derived.Laws.Slices
import Derived.WalkKit
import Derived.KernelRfl
import Derived.RowKit3
import Derived.Deep.LoopGhost
import Derived.Deep.QuietTactic
import Derived.BigQuiet
import Derived.WideLaws
import Derived.Deep.DeepCutAuto
import Derived.Deep.CutBlock
import Derived.Deep.RegionHeld3
import Derived.Laws.Rows
import Derived.Lib.AppendStr
import Derived.ArgAppend
import Derived.Laws.IdiomCopy
import Derived.OrdersHeld
import Derived.Laws.BitsLemmas
import Derived.RowKit
section
namespace Go.Proofs.Ytdfndbegifdejaa.PFlowExact
open Go.RowKit Go.Proofs.YtdfndbegifdejaaW.PrintWords Go.Proofs.YtdfndbegifdejaaW.PrintLast Go.Proofs.YtdfndbegifdejaaW.PrintMore
attribute [local go_sem] max2_int min2_int max_two min_two max_three min_three max_four min_four
set_option linter.unusedVariables false
set_option linter.unusedSimpArgs false
def errW : Option Int → Value
 | none => .nilIface
 | some c => .iface 0 (.int .i64 c)
theorem errW_none : errW none = .nilIface := rfl
theorem errW_some (c : Int) : errW (some c) = .iface 0 (.int .i64 c) := rfl
theorem info3 : (Try.prog.info? 3).map (fun i => (i.zero, i.size, i.bytes)) = some (some (.int .i64 0), 1, 8) := by kernel_rfl
theorem info5 : (Try.prog.info? 5).map (fun i => (i.zero, i.size, i.bytes)) = some (some (.int .u8 0), 1, 1) := by kernel_rfl
theorem info32 : (Try.prog.info? 32).map (fun i => (i.zero, i.size, i.bytes)) = some (some (.agg #[(.int .i64 0), (.string ⟨#[]⟩), (.int .i64 0)]), 3, 32) := by kernel_rfl
theorem info62 : (Try.prog.info? 62).map (fun i => (i.zero, i.size, i.bytes)) = some (some (.agg #[(.string ⟨#[]⟩), (.int .i64 0)]), 2, 24) := by kernel_rfl
structure S32 where
  f0 : Int
  f1 : ByteArray
  f2 : Int
def z32 : S32 := ⟨(0 : Int), (⟨#[]⟩ : ByteArray), (0 : Int)⟩
def k32 : Kd S32 := Kd.iso (Kd.pair (Kd.int .i64) (Kd.pair Kd.string (Kd.int .i64))) (fun x : S32 => (x.f0, x.f1, x.f2))
theorem k32_open {w : World} {x : S32} {cs : List Value} (h : k32.K w x cs) : cs = [.int .i64 x.f0, .string x.f1, .int .i64 x.f2] := by
 obtain ⟨_, _, rfl, rfl, ⟨_, _, rfl, rfl, rfl⟩⟩ := h
 exact rfl
theorem k32_openM {w : World} {base : Nat} {ok : Nat → Prop} {x : S32} {cs : List Value} (h : k32.M w base ok x cs) : cs = [.int .i64 x.f0, .string x.f1, .int .i64 x.f2] := by
 obtain ⟨_, _, rfl, rfl, ⟨_, _, rfl, rfl, rfl⟩⟩ := h
 exact rfl
theorem k32_mkM (w : World) (base : Nat) (ok : Nat → Prop) (x : S32)  : k32.M w base ok x [.int .i64 x.f0, .string x.f1, .int .i64 x.f2] := ⟨[.int .i64 x.f0], [.string x.f1, .int .i64 x.f2], rfl, rfl, ⟨[.string x.f1], [.int .i64 x.f2], rfl, rfl, rfl⟩⟩
def rd_T32 (xs : List S32) (i : Int) : S32 := xs.getD i.toNat z32
theorem at_T32 {w : World} {A : Option Addr} {n : Nat} {xs : List S32} (h : Kd.C k32 w A n xs) (i : Int) (h0 : 0 ≤ i) (h1 : i < n) : ∃ ad , A = some ad ∧ w.cell? (ad.add (i.toNat * 3)) = some (.int .i64 (rd_T32 xs i).f0) ∧ w.cell? ⟨(ad.add (i.toNat * 3)).block, (ad.add (i.toNat * 3)).off + 1, none⟩ = some (.string (rd_T32 xs i).f1) ∧ w.cell? ⟨(ad.add (i.toNat * 3)).block, (ad.add (i.toNat * 3)).off + 2, none⟩ = some (.int .i64 (rd_T32 xs i).f2) := by
 obtain ⟨ad, c, e, _, hK, hc0⟩ := Kd.C_get h z32 i h0 h1
 have hc : ∀ j u, c[j]? = some u → w.cell? (ad.add (i.toNat * 3 + j)) = some u := hc0
 obtain rfl := k32_open hK
 exact ⟨ad, e, hc 0 _ rfl, by rw [← add_field _ _ 1 (by omega)]; exact hc 1 _ rfl, by rw [← add_field _ _ 2 (by omega)]; exact hc 2 _ rfl⟩
structure S62 where
  f0 : ByteArray
  f1 : Int
def z62 : S62 := ⟨(⟨#[]⟩ : ByteArray), (0 : Int)⟩
def k62 : Kd S62 := Kd.iso (Kd.pair Kd.string (Kd.int .i64)) (fun x : S62 => (x.f0, x.f1))
theorem k62_open {w : World} {x : S62} {cs : List Value} (h : k62.K w x cs) : cs = [.string x.f0, .int .i64 x.f1] := by
 obtain ⟨_, _, rfl, rfl, rfl⟩ := h
 exact rfl
theorem k62_mkM (w : World) (base : Nat) (ok : Nat → Prop) (x : S62)  : k62.M w base ok x [.string x.f0, .int .i64 x.f1] := ⟨[.string x.f0], [.int .i64 x.f1], rfl, rfl, rfl⟩
def rd_T62 (xs : List S62) (i : Int) : S62 := xs.getD i.toNat z62
theorem at_T62 {w : World} {A : Option Addr} {n : Nat} {xs : List S62} (h : Kd.C k62 w A n xs) (i : Int) (h0 : 0 ≤ i) (h1 : i < n) : ∃ ad , A = some ad ∧ w.cell? (ad.add (i.toNat * 2)) = some (.string (rd_T62 xs i).f0) ∧ w.cell? ⟨(ad.add (i.toNat * 2)).block, (ad.add (i.toNat * 2)).off + 1, none⟩ = some (.int .i64 (rd_T62 xs i).f1) := by
 obtain ⟨ad, c, e, _, hK, hc0⟩ := Kd.C_get h z62 i h0 h1
 have hc : ∀ j u, c[j]? = some u → w.cell? (ad.add (i.toNat * 2 + j)) = some u := hc0
 obtain rfl := k62_open hK
 exact ⟨ad, e, hc 0 _ rfl, by rw [← add_field _ _ 1 (by omega)]; exact hc 1 _ rfl⟩
def rd_L4 (xs : List (List S32)) (i : Int) : (List S32) := xs.getD i.toNat ([] : List S32)
theorem at_L4 {w : World} {A : Option Addr} {n : Nat} {xs : List (List S32)} (h : Kd.C (Kd.slice 32 k32) w A n xs) (i : Int) (h0 : 0 ≤ i) (h1 : i < n) : ∃ ad A0 c0, A = some ad ∧ w.cell? (ad.add i.toNat) = some (.slice A0 (rd_L4 xs i).length c0) ∧ (rd_L4 xs i).length ≤ c0 ∧ k32.C w A0 (rd_L4 xs i).length (rd_L4 xs i) := by
 obtain ⟨ad, c, e, _, hK, hc0⟩ := Kd.C_get h ([] : List S32) i h0 h1
 have hc : ∀ j u, c[j]? = some u → w.cell? (ad.add (i.toNat * 1 + j)) = some u := hc0
 obtain ⟨A0, c0, rfl, l0, g0⟩ := hK
 exact ⟨ad, A0, c0, e, by have hq := hc 0 _ rfl; rwa [Nat.mul_one, Nat.add_zero] at hq, l0, g0⟩
structure S55 where
  f0 : Int
  f1 : (List S32)
  f2 : Int
def z55 : S55 := ⟨(0 : Int), ([] : List S32), (0 : Int)⟩
def k55 : Kd S55 := Kd.iso (Kd.pair (Kd.int .i64) (Kd.pair (Kd.slice 32 k32) (Kd.int .i64))) (fun x : S55 => (x.f0, x.f1, x.f2))
end Go.Proofs.Ytdfndbegifdejaa.PFlowExact
end
section
namespace Go.Proofs.YtdfndbegifdejaaMine
set_option linter.unusedVariables false
set_option linter.unusedSimpArgs false
open Go.RowKit Go.Proofs.YtdfndbegifdejaaW.PrintWords
section
variable {P : Program} {ops : Array Oper} {rest : List Oper} {o : Oper} {a : Act} {Q : Exit → Act → World → Prop} {α : Type}
theorem run_copy_any (w : World) (dT sT ty elem : TypeId) (g dLen dCap : Nat) (ad : Addr) (sLen sCap : Nat) (cur : Array Value) (t : TypeId) (cs : List Value) (sz : Nat)
    (hu : P.underlying dT = some (.slice elem)) (hs : (P.info? elem).map (·.size) = some sz)
    (hg : w.heap[g]? = some (.cells cur t (0, 0))) (hn : cs.length = (Nat.min sLen dLen) * sz)
    (hsrc : ∀ j v, cs[j]? = some v → w.cell? (ad.add j) = some v) (hfit : cs.length ≤ cur.size) (h1 : ∀ v ∈ cs, v.oneCell' = true) :
    (Builtin.copy_ #[dT, sT] ty #[.slice (some ⟨g, 0, none⟩) dLen dCap, .slice (some ad) sLen sCap]).run P w =
      .ok (goInt (Nat.min sLen dLen)) (w.setCells g 0 cs) := by
  have hl := run_loadCells_list (P := P) w ad cs hsrc
  have hst := run_storeCells_cells (P := P) g 0 cs 0 w (fun j hj => by rw [cell_of_row w g _ cur t (0, 0) hg]; simp; omega) (fun j _ => blk_frozen hg _) h1
  simp only [Nat.add_zero] at hst
  cases hq : P.info? elem with
  | none => simp [hq] at hs
  | some i =>
    have hi : i.size = sz := by simpa [hq] using hs
    simp [Builtin.copy_, run_underlying hu, Builtin.lenOf, Builtin.firstCells, sizeOf, typeInfo, hq, hi, ← hn, hl, hst]
theorem run_copy_no (w : World) (dT sT ty elem : TypeId) (d sd : Option Addr) (dLen dCap sLen sCap : Nat)
    (hu : P.underlying dT = some (.slice elem)) (sz : Nat) (hs : (P.info? elem).map (·.size) = some sz) (hn : Nat.min sLen dLen = 0) :
    (Builtin.copy_ #[dT, sT] ty #[.slice d dLen dCap, .slice sd sLen sCap]).run P w = .ok (goInt 0) w := by
  cases hq : P.info? elem with
  | none => simp [hq] at hs
  | some i =>
    cases d <;> cases sd <;> simp [Builtin.copy_, run_underlying hu, Builtin.lenOf, Builtin.firstCells, sizeOf, typeInfo, hq, hn, storeCells, loadCells, loadCellsFrom]
theorem R_copyK (d : Kd α) {w0 W : World} (base : Nat) (hgd : o.guard = none) (s x : Operand) (t t' e : TypeId)
    (ho : o.op = .call { callee := .builtin .copy, args := #[s, x], argTypes := #[t, t'] }) (ht : P.underlying t = some (.slice e)) (hinfo : (P.info? e).map (·.size) = some d.sz)
    (v : Value) (xs ys : List α) (A : Option Addr) (c : Nat) (ok : Nat → Prop) (hs : a.eval s = v) (hx : a.eval x = .slice A ys.length c)
    (hKM : ∀ W' W'' base ok x cs, d.K W' x cs → d.M W'' base ok x cs) (hle : ys.length ≤ xs.length)
    (HO : d.R e W base ok v xs) (HR : d.C W A ys.length ys) (HB : Below base w0 W) (hbase : base ≤ W.heap.size)
    (h : ∀ w1, d.R e w1 base ok v (ys ++ xs.drop ys.length) → Below base w0 w1 → W.grownBy w1 v.ownBlock → wpList P ops Q rest (a.put o.dst (.int .i64 ((ys.length : Nat) : Int))) w1) :
    wpList P ops Q (o :: rest) a W := by
  have hmin : Nat.min ys.length xs.length = ys.length := Nat.min_eq_left hle
  obtain ⟨inner0, hown0⟩ := Kd.R_own HO
  have fin : ∀ w1, (Builtin.copy_ #[t, t'] o.type #[v, .slice A ys.length c]).run P W = .ok (goInt ys.length) w1 → d.R e w1 base ok v (ys ++ xs.drop ys.length) → W.grownBy w1 v.ownBlock → wpList P ops Q (o :: rest) a W := by
    intro w1 hr hrow hg
    refine wpList_plain hgd fun K hK => ?_
    unfold Oper.wp execOp
    simp only [ho, resolve, invoke, builtin, Sem.run_bind, Sem.run_pure, Result.andThen_ok, List.map_toArray, List.map_cons, List.map_nil, hs, hx, hr]
    exact hK _ _ (h w1 hrow (HB.grown hg hbase (own_base hown0)) hg)
  rcases Nat.eq_zero_or_pos ys.length with h0 | hp
  · obtain ⟨A', c', hv⟩ := own_slice hown0
    have hy : ys = [] := List.eq_nil_of_length_eq_zero h0
    subst hy
    refine fin W ?_ (by simpa using HO) (World.grownBy.refl W _)
    rw [hv]
    exact run_copy_no W t t' o.type e A' A _ c' _ c ht d.sz hinfo (by simp)
  · obtain ⟨ad, hA, _⟩ := HR.2.2 hp
    subst hA
    obtain ⟨news, hnR, hnc⟩ := ReadsRow.inner_ HR
    obtain ⟨hok, inner, hown, hr⟩ := HO
    have hcopy := hown.2
    rcases hcopy with ⟨_, hx0⟩ | ⟨g, cap, cur, hv, hb, hh, hncap, hcm, hcs, htake⟩
    · omega
    have hone : ∀ u ∈ news, u.oneCell' = true := by
      intro u hu
      by_cases hs0 : 0 < d.sz
      · exact Kd.reps_one hnR hs0 (fun p c hp u hu => d.K_one hp u hu) u hu
      · have : news.length = 0 := by rw [hnR.1]; have : d.sz = 0 := by omega
                                     rw [this, Nat.mul_zero]
        rw [List.eq_nil_of_length_eq_zero this] at hu
        cases hu
    have hfit : news.length ≤ cur.size := by
      rw [hnR.1, hcs]; exact Nat.le_trans (Nat.mul_le_mul_right _ hle) (Nat.mul_le_mul_right _ hncap)
    have hrun := run_copy_any (P := P) W t t' o.type e g xs.length cap ad ys.length c cur e news d.sz ht hinfo hh (by rw [hmin, hnR.1]) hnc hfit hone
    rw [hmin] at hrun
    obtain ⟨cur', h3, h4, h5⟩ := setCells_row news 0 W cur hh (by omega)
    obtain ⟨s1, s2, s3, s4⟩ := setCells_same g news 0 W
    have hgr : W.grownBy (W.setCells g 0 news) v.ownBlock := ⟨s1, s2, s3, by rw [s4]; exact Nat.le_refl _, fun k _ hk => setCells_far _ _ k (fun he => hk (by rw [hv, he]; simp [Value.ownBlock]))⟩
    have hln : (ys ++ xs.drop ys.length).length = xs.length := by
      rw [List.length_append, List.length_drop]; omega
    refine fin _ (by rw [hv]; exact hrun) ⟨hok, news ++ inner.drop (ys.length * d.sz), ?_, ?_⟩ hgr
    · refine ⟨?_, .inr ⟨g, cap, cur', by rw [hln]; exact hv, hb, h3, by rw [hln]; exact hncap, hcm, by rw [h4, hcs], ?_⟩⟩
      · rw [List.length_append, List.length_drop, hnR.1, hown.1, hln]
        have := Nat.mul_le_mul_right d.sz hle
        omega
      · rw [h5, List.take_zero, List.nil_append, Nat.zero_add, hln, hnR.1]
        have hmul := Nat.mul_le_mul_right d.sz hle
        rw [List.take_append, hnR.1, List.take_of_length_le (by rw [hnR.1]; exact hmul)]
        congr 1
        rw [← htake, List.drop_take]
    · refine Kd.reps_append (hnR.imp_ (fun p c hp => hKM _ _ _ _ p c hp)) ?_
      have hr' : Reps (d.M (W.setCells g 0 news) base (fun k => ok k ∧ some k ≠ v.ownBlock)) d.sz xs inner := by
        refine hr.imp_ (fun p c hp => ?_)
        have hb1 := d.M_bound hp
        refine d.M_mono (fun k hk => hk.1) (d.M_move (w1 := W.setCells g 0 news) (fun k hk => ?_) hb1)
        exact hgr.block k hk.2.2.1 hk.1.2
      exact Kd.reps_drop hr'
theorem R_storeAll (d : Kd α) {w0 W : World} (base : Nat) (hN : o.dst = none) (hgd : o.guard = none) (t : TypeId) (p x : Operand) (ho : o.op = .store t p x) (e : TypeId) {g n cap o' : Nat} (i : Nat) (xs : List α) (x' : α) (u : Value) (seg : List Value) (ok okp : Nat → Prop)
    (haddr : a.eval p = .pointer (some ⟨g, o', none⟩)) (hoff : o' = i * d.sz) (hx : a.eval x = u) (hu : u.cells.toList = seg) (hsl : seg.length = d.sz) (ht : (P.info? t).map (·.size) = some d.sz) (h1 : ∀ q ∈ seg, q.oneCell' = true)
    (HO : d.R e W base ok (.slice (some ⟨g, 0, none⟩) n cap) xs) (hi : i < n) (hM : d.M W base okp x' seg) (hokp : ∀ k, okp k → ok k ∧ k ≠ g) (HB : Below base w0 W)
    (h : ∀ w1, d.R e w1 base ok (.slice (some ⟨g, 0, none⟩) n cap) (xs.set i x') → Below base w0 w1 → W.grownBy w1 (some g) → wpList P ops Q rest a w1) : wpList P ops Q (o :: rest) a W := by
  obtain ⟨c, hcl, _, hcc, _⟩ := Kd.R_elem HO x' (i : Int) (by omega) (by omega)
  refine Kd.R_store d base hN hgd t p x ho e (i : Int) 0 xs x' u seg c ok okp haddr (by simpa using hoff) hx hu (by rw [ht, hsl]) h1 HO (by omega) (by omega) hcl hcc (by omega) ?_ hokp HB h
  simp only [List.take_zero, List.nil_append, Nat.zero_add, hsl, ← hcl, List.drop_length, List.append_nil]
  exact hM
theorem run_append_keep (w : World) (base : Nat) (t ty e : TypeId) (i : TypeInfo) (z : Value) (size bytes : Nat) (ht : P.underlying t = some (.slice e)) (hi : P.info? e = some i) (hz : i.zero = some z)
    (hsize : i.size = size) (hby : i.bytes = bytes) (hzs : z.cells.size = size) (hsz : 0 < size)
    (v : Value) (n : Nat) (xs : List Value) (hown : w.ownsRow base e size v n xs)
    (ad : Addr) (m c : Nat) (news : List Value) (hl : news.length = m * size) (hnews : ∀ j u, news[j]? = some u → w.cell? (ad.add j) = some u) (h1 : ∀ u ∈ news, u.oneCell' = true)
    (h63 : n + m ≤ maxLen) (hbytes : (n + m) * bytes ≤ 140737488355328) (hbase : base ≤ w.heap.size) :
    ∃ v' w', (Builtin.append_ #[t, t] ty #[v, .slice (some ad) m c]).run P w = .ok v' w' ∧ w'.ownsRow base e size v n xs ∧ w.grownBy w' v.ownBlock := by
  obtain ⟨v', w', hrun, hown', hg, _, hat⟩ := run_append_own_at (P := P) w base t ty e i z size bytes ht hi hz hsize hby hzs hsz v n xs hown ad m c news hl hnews h1 h63 hbytes hbase
  rcases hown.2 with ⟨hv, hn0⟩ | ⟨g, cap, cur, hv, hbg, hh, hnc, hcm, hcs, htake⟩
  · exact ⟨v', w', hrun, ⟨hown.1, .inl ⟨hv, hn0⟩⟩, hg⟩
  · subst hv
    by_cases hroom : n + m ≤ cap
    · obtain ⟨w2, hrun2, hown2, hg2⟩ := run_append_fits (P := P) w base t ty e i size ht hi hsize g n cap xs hown ad m c news hl hnews h1 hroom
      refine ⟨_, w2, hrun2, ?_, hg2⟩
      have h3 := own_take hown2 (m := n) (by omega)
      rwa [← hown.1, List.take_left] at h3
    · subst hsize
      subst hby
      have hcells : ∀ j u, xs[j]? = some u → w.cell? ((⟨g, 0, none⟩ : Addr).add j) = some u := by
        intro j u hu
        rw [add_plain, blk_cell hh]
        rw [← htake] at hu
        rw [List.getElem?_take] at hu
        split at hu
        · simpa using hu
        · cases hu
      have hsmall : n + m ≤ 9223372036854775807 := by simpa only [maxLen] using h63
      have hcap := growslice_fits (need := n + m) (old := cap) (by omega) hbytes
      have hgrow := run_append_grow (P := P) w t ty e i z ht hi hz ⟨g, 0, none⟩ n cap xs hown.1 hcells ad m c news hl hnews (by omega) (by omega) hcap
      refine ⟨_, _, hgrow, ?_, ⟨rfl, rfl, rfl, by simp, fun k hk _ => Below.heap_alloc w.drew _ k hk⟩⟩
      exact pw_own_below hown (below_alloc (below_drew (Below.refl _ _)) _)
theorem R_append_keep (d : Kd α) {w0 W0 : World} (base : Nat) (hgd : o.guard = none) (s x : Operand) (t e : TypeId) (z : Value) (bytes : Nat)
    (ho : o.op = .call { callee := .builtin .append, args := #[s, x], argTypes := #[t, t] }) (ht : P.underlying t = some (.slice e))
    (hinfo : (P.info? e).map (fun i => (i.zero, i.size, i.bytes)) = some (some z, d.sz, bytes)) (hz : z.cells.size = d.sz) (hs0 : 0 < d.sz)
    (v : Value) (xs : List α) (cs : Array Value) (m c : Nat) (ok : Nat → Prop) (hs : a.eval s = v) (hx : a.eval x = .slice (some ⟨W0.heap.size, 0, none⟩) m c) (hl : cs.size = m * d.sz) (h1 : ∀ u ∈ cs.toList, u.oneCell' = true)
    (HO : d.R e W0 base ok v xs) (hbytes : (xs.length + m) * bytes ≤ 140737488355328) (hb0 : 0 < bytes) (HB : Below base w0 W0) (hbase : base ≤ W0.heap.size)
    (h : ∀ v1 w1, d.R e w1 base ok v xs → Below base w0 w1 → W0.grownBy w1 v.ownBlock → wpList P ops Q rest (a.put o.dst v1) w1) :
    wpList P ops Q (o :: rest) a (W0.alloc (.cells cs e (0, 0))) := by
  obtain ⟨i0, hi, hzz⟩ := Option.map_eq_some_iff.1 hinfo
  simp only [Prod.mk.injEq] at hzz
  obtain ⟨hz0, hz1, hz2⟩ := hzz
  have HO' := Kd.R_alloc HO (.cells cs e (0, 0))
  obtain ⟨hok, inner, hown, hr⟩ := HO'
  have hmul : xs.length + m ≤ (xs.length + m) * bytes := Nat.le_mul_of_pos_right _ hb0
  obtain ⟨v1, w1, hrun, hown1, hg⟩ := run_append_keep (P := P) (W0.alloc (.cells cs e (0, 0))) base t o.type e i0 z d.sz bytes ht hi hz0 hz1 hz2 hz hs0 v xs.length inner hown ⟨W0.heap.size, 0, none⟩ m c cs.toList (by rw [Array.length_toList]; exact hl)
    (fun j u hu => by rw [add_plain, blk_cell (blk_new _ _)]; simpa using hu) h1 (by simp only [maxLen]; omega) hbytes (by simp; omega)
  have hg0 : W0.grownBy w1 v.ownBlock := (World.grownBy_alloc W0 _ v.ownBlock).trans hg
  refine wpList_plain hgd fun K hK => ?_
  unfold Oper.wp execOp
  simp only [ho, resolve, invoke, builtin, Sem.run_bind, Sem.run_pure, Result.andThen_ok, List.map_toArray, List.map_cons, List.map_nil, hs, hx, hrun]
  refine hK _ _ (h v1 w1 ⟨hok, inner, hown1, ?_⟩ (HB.grown hg0 hbase (own_base hown)) hg0)
  refine hr.imp_ (fun p c hp => ?_)
  exact d.M_mono (fun k hk => hk.1) (d.M_move (w1 := w1) (fun k hk => hg.block k hk.2.2.1 hk.1.2) (d.M_bound hp))
structure Spared (w w' : World) (fb tb : Option Nat) : Prop where
  below : Below 0 w w'
  block : ∀ k, k < w.heap.size → some k ≠ fb → some k ≠ tb → w'.heap[k]? = w.heap[k]?
theorem Spared.refl (w : World) (fb tb : Option Nat) : Spared w w fb tb := ⟨Below.refl _ _, fun _ _ _ _ => rfl⟩
theorem Spared.of_below {w w' : World} (h : Below w.heap.size w w') (fb tb : Option Nat) : Spared w w' fb tb := ⟨h.mono (Nat.zero_le _), fun k hk _ _ => h.block k hk⟩
theorem Spared.grown {w w1 w2 : World} {fb tb row : Option Nat} (h : Spared w w1 fb tb) (hg : w1.grownBy w2 row) (hr : ∀ k, row = some k → row = fb ∨ row = tb ∨ w.heap.size ≤ k) : Spared w w2 fb tb := by
  refine ⟨h.below.grown hg (Nat.zero_le _) (fun _ _ => Nat.zero_le _), fun k hk h1 h2 => ?_⟩
  refine (hg.block k (Nat.lt_of_lt_of_le hk h.below.size) (fun he => ?_)).trans (h.block k hk h1 h2)
  rcases hr k he.symm with h3 | h3 | h3
  · exact h1 (he.trans h3)
  · exact h2 (he.trans h3)
  · omega
theorem Spared.step {w w1 w2 : World} {fb tb : Option Nat} (h : Spared w w1 fb tb) (hb : Below w1.heap.size w1 w2) : Spared w w2 fb tb :=
  h.grown (grown_of_below hb none) (fun k he => by cases he)
theorem Spared.alloc {w w1 : World} {fb tb : Option Nat} (h : Spared w w1 fb tb) (o : Obj) : Spared w (w1.alloc o) fb tb := h.step (below_alloc (Below.refl _ _) o)
theorem Spared.drewN {w w1 : World} {fb tb : Option Nat} (h : Spared w w1 fb tb) (n : Nat) : Spared w (w1.drewN n) fb tb := h.step (pw_below_drewN (Below.refl _ _) n)
theorem Spared.set {w w1 : World} {fb tb : Option Nat} (h : Spared w w1 fb tb) {g j : Nat} (hg : w.heap.size ≤ g) (u : Value) : Spared w (w1.setCell ⟨g, j, none⟩ u) fb tb :=
  ⟨h.below.setCell (Nat.zero_le _) u, fun k hk h1 h2 => (Below.heap_setCell w1 _ u k (by simp; omega)).trans (h.block k hk h1 h2)⟩
end
end Go.Proofs.YtdfndbegifdejaaMine
end
section
namespace Go.Proofs.Ytdfndbegifdejaa.PFlowExact
set_option linter.unusedVariables false
set_option linter.unusedSimpArgs false
open Go.RowKit Go.Proofs.YtdfndbegifdejaaW.PrintWords Go.Proofs.YtdfndbegifdejaaW.PrintLast Go.Proofs.YtdfndbegifdejaaW.PrintMore Go.Proofs.YtdfndbegifdejaaMine
attribute [local go_sem] max2_int min2_int max_two min_two max_three min_three max_four min_four
def markS : ByteArray := ⟨#[109, 97, 114, 107]⟩
def mark (i : Int) : S32 := ⟨-77, markS, i⟩
def marks (n : Nat) : List S32 := [mark n, mark (n + 1 : Nat), mark (n + 2 : Nat)]
def roomAt (l : List S32) (j : Nat) : List S32 := l ++ ((marks l.length).take j ++ List.replicate (3 - j) z32)
theorem roomAt_zero (l : List S32) : roomAt l 0 = l ++ List.replicate 3 z32 := rfl
theorem roomAt_set (l : List S32) (j : Nat) (h : j < 3) : (roomAt l j).set (l.length + j) (mark ((l.length + j : Nat) : Int)) = roomAt l (j + 1) := by
  unfold roomAt
  rw [List.set_append_right _ _ (by omega), Nat.add_sub_cancel_left]
  congr 1
  match j, h with
  | 0, _ => rfl
  | 1, _ => rfl
  | 2, _ => rfl
theorem kflat (W' W'' : World) (base : Nat) (ok : Nat → Prop) (x : S32) (cs : List Value) (h : k32.K W' x cs) : k32.M W'' base ok x cs := by
  obtain rfl := k32_open h
  exact k32_mkM _ _ _ x
set_option maxHeartbeats 1000000 in
theorem roomy.calls (A0 : Option Addr) (c0 : Nat) (l0 : List S32) (w : World) (hr0 : Kd.C k32 w A0 l0.length l0) (hc0 : l0.length ≤ c0) (hsz : l0.length * 32 ≤ 140737488351232) :
    Calls Try.prog 10 #[.slice A0 l0.length c0] w fun e w' => ∃ v0_ : Value, e = .returned (v0_) ∧ Kd.R k32 32 w' w.heap.size (fun _ => True) v0_ (l0 ++ marks l0.length) ∧ Below w.heap.size w w' := by
  have HR0 := ak hr0
  have HB := ak (Below.refl w.heap.size w)
  clear hr0
  have hn : (l0.length : Int) ≤ 4398046510976 := by omega
  have hn0 : (0 : Int) ≤ (l0.length : Int) := by omega
  go_enter Try.func10, Try.ntmps10
  go_wp2_with (first | ((with_reducible refine gate_dst (N := 8) rfl ?_); refine Kd.R_make k32 (w0 := w) w.heap.size 32 rfl (N := 8) rfl 22 _ _ rfl ((l0.length : Int) + 3) rfl rfl Try.underlying22 (.agg #[(.int .i64 0), (.string ⟨#[]⟩), (.int .i64 0)]) 32 info32 rfl (by decide) (by omega) z32 (ok := fun _ => True) (okp := fun _ => True) (k32_mkM _ _ _ z32) (fun _ hk => hk) trivial (by omega) (by omega) HB.out (Nat.le_refl _) ?_; intro v w1 ho hb _ _; obtain ⟨g, cap, rfl, hgb, hgl, cells, hcells⟩ := Kd.R_form ho (by rw [List.length_replicate]; omega); rw [List.length_replicate, show ((l0.length : Int) + 3).toNat = l0.length + 3 by omega] at ho ⊢; have HO := ak ho; have HG := ak hgb; clear ho hgb hgl hcells HB; have HB := ak hb; clear hb) | ((with_reducible refine gate_dst (N := 11) rfl ?_); refine R_copyK k32 (w0 := w) w.heap.size rfl (.tmp 9) (.tmp 10) 22 22 32 rfl Try.underlying22 (by kernel_rfl) _ (List.replicate (l0.length + 3) z32) l0 A0 c0 (fun _ => True) rfl rfl kflat (by rw [List.length_replicate]; omega) HO.out (Kd.C_below HR0.out HB.out) HB.out HB.out.size ?_; intro w2 ho2 hb2 _; have h0_ : l0 ++ List.drop l0.length (List.replicate (l0.length + 3) z32) = roomAt l0 0 := (by rw [roomAt_zero, List.drop_replicate, Nat.add_sub_cancel_left]); rw [h0_] at ho2; clear HO HB h0_; have HO := ak ho2; have HB := ak hb2; clear ho2 hb2))
  go_loopw [4] (fun i wr => ∃ j : Nat, i = .int .i64 ((l0.length + j : Nat) : Int) ∧ Aside0 (j ≤ 3) ∧ Aside0 (Kd.R k32 32 wr w.heap.size (fun _ => True) (.slice (some ⟨g, 0, none⟩) (l0.length + 3) cap) (roomAt l0 j)) ∧ Aside0 (Below w.heap.size w wr)) (fun i _ => l0.length + 3 - (intOf i).toNat)
  case atStart => exact ⟨0, rfl, ⟨by omega⟩, HO, HB⟩
  case round =>
    clear HO HB
    obtain ⟨j, rfl, hj, HO, HB⟩ := hrel
    by_cases hlt : j < 3
    · have hb1 : (0 : Int) ≤ ((l0.length + j : Nat) : Int) := by omega
      have hb2 : ((l0.length + j : Nat) : Int) < ((l0.length + 3 : Nat) : Int) := by omega
      have hb3 : ((l0.length + j : Nat) : Int) ≤ 4398046510979 := by omega
      go_wp2_with (first | ((with_reducible refine gate_store (t := 32) (p := 24) rfl ?_); refine R_storeAll k32 (w0 := w) w.heap.size rfl rfl 32 (.tmp 24) (.tmp 23) rfl 32 (l0.length + j) (roomAt l0 j) (mark ((l0.length + j : Nat) : Int)) (.agg #[.int .i64 (-77), .string markS, .int .i64 ((l0.length + j : Nat) : Int)]) [.int .i64 (-77), .string markS, .int .i64 ((l0.length + j : Nat) : Int)] (fun _ => True) (fun _ => False) rfl rfl rfl rfl rfl (by kernel_rfl) (by simp [Value.oneCell']) HO.out (by omega) (k32_mkM _ _ _ (mark ((l0.length + j : Nat) : Int))) (fun _ hk => hk.elim) HB.out ?_; intro w3 ho3 hb3 _; rw [roomAt_set l0 j hlt] at ho3; clear HO HB; have HO := ak ho3; have HB := ak hb3; clear ho3 hb3))
      go_roundw
      case rel => exact ⟨j + 1, by go_num, ⟨by omega⟩, HO, HB⟩
      case measure => simp [intOf]; omega
    · have hb2 : ¬ ((l0.length + j : Nat) : Int) < ((l0.length + 3 : Nat) : Int) := by omega
      go_wp2
      go_ret
      have hj3 : j = 3 := by have := hj.out; omega
      subst hj3
      exact ⟨_, rfl, HO.out, HB.out⟩
def heldS : ByteArray := ⟨#[72, 69, 76, 68]⟩
def heldF (m : Int) : S32 := ⟨m, heldS, 0⟩
def heldT (m : Int) : S62 := ⟨heldS, m⟩
def over {α : Type} (x : α) (l : List α) (j : Nat) : List α := List.replicate j x ++ l.drop j
theorem over_zero {α : Type} (x : α) (l : List α) : over x l 0 = l := by simp [over]
theorem over_len {α : Type} (x : α) (l : List α) (j : Nat) (h : j ≤ l.length) : (over x l j).length = l.length := by simp [over]; omega
theorem over_all {α : Type} (x : α) (l : List α) : over x l l.length = List.replicate l.length x := by simp [over]
theorem over_set {α : Type} (x : α) (l : List α) (j : Nat) (h : j < l.length) : (over x l j).set j x = over x l (j + 1) := by
  unfold over
  rw [List.set_append_right _ _ (by simp), List.length_replicate, Nat.sub_self, List.drop_eq_getElem_cons h, List.set_cons_zero, List.replicate_succ']
  simp
def HeldPost (w : World) (base : Nat) (okf okt : Nat → Prop) (fv tv : Value) (f : List S32) (t : List S62) (m : Int) (e : Ending) (w' : World) : Prop :=
  e = .returned (.agg #[fv, tv, .int .i64 m]) ∧ Kd.R k32 32 w' base okf fv (List.replicate f.length (heldF m)) ∧ Kd.R k62 62 w' base okt tv (List.replicate t.length (heldT m)) ∧ Spared w w' fv.ownBlock tv.ownBlock
set_option maxHeartbeats 2000000 in
set_option maxRecDepth 100000 in
theorem hold.calls (fv tv : Value) (f : List S32) (t : List S62) (m : Int) (base : Nat) (okf okt : Nat → Prop) (w w0 : World) (hf : Kd.R k32 32 w base okf fv f) (ht : Kd.R k62 62 w base okt tv t)
    (hbase : base ≤ w.heap.size) (hfs : f.length * 32 ≤ 140737488351232) (hts : t.length * 24 ≤ 140737488351232) :
    Calls Try.prog 14 #[fv, tv, .int .i64 m] w (HeldPost w base okf okt fv tv f t m) := by
  obtain ⟨Af, cf, rfl⟩ := Kd.R_slice hf
  obtain ⟨At, ct, rfl⟩ := Kd.R_slice ht
  have HF := ak hf
  have HT := ak ht
  clear hf ht
  have hfn : (f.length : Int) ≤ 4398046510976 := by omega
  have htn : (t.length : Int) ≤ 5864062014634 := by omega
  go_enter Try.func14, Try.ntmps14
  go_wp2_with (first | ((with_reducible refine gate_dst (N := 6) rfl ?_); refine box_event ?hg (N := 6) ?hd (cs := #[.slice none 0 0, .slice none 0 0, .int .i64 0]) (t := 28) ?hr ?_; (case hd => rfl); (case hg => rfl); (case hr => first | (go_simp; done) | (go_simp; rfl)); intro gb hg w1 hbox hb; have HF1 := ak (Kd.R_below HF.out hb); have HT1 := ak (Kd.R_below HT.out hb); have HX := ak (Spared.of_below hb (Value.slice Af f.length cf).ownBlock (Value.slice At t.length ct).ownBlock); have BK := ak hbox; have GE := ak (show w.heap.size ≤ gb by omega); clear HF HT hb hbox hg))
  go_loopw [7] (fun i wr => ∃ j : Nat, i = .int .i64 (j : Int) ∧ Aside0 (j ≤ f.length) ∧ Aside0 (Kd.R k32 32 wr base okf (.slice Af f.length cf) (over (heldF m) f j)) ∧ Aside0 (Kd.R k62 62 wr base okt (.slice At t.length ct) t) ∧ Aside0 (Spared w wr (Value.slice Af f.length cf).ownBlock (Value.slice At t.length ct).ownBlock) ∧ Aside0 (wr.heap[gb]? = some (.cells #[.slice none 0 0, .slice none 0 0, .int .i64 0] 28 (0, 0)))) (fun i _ => f.length - (intOf i).toNat)
  case atStart => exact ⟨0, rfl, ⟨by omega⟩, ⟨by rw [over_zero]; exact HF1.out⟩, HT1, HX, BK⟩
  case round =>
    clear HF1 HT1 HX BK
    obtain ⟨j, rfl, hj, HF, HT, HX, BK⟩ := hrel
    by_cases hlt : j < f.length
    · obtain ⟨g, cap, hv, hbg, hgl, cells, hcells⟩ := Kd.R_form HF.out (by rw [over_len _ _ _ hj.out]; omega)
      injection hv with ha _ hc
      subst ha; subst hc
      have HG := ak hbg
      clear hbg hgl hcells
      have hb1 : (0 : Int) ≤ (j : Int) := by omega
      have hb2 : (j : Int) < (f.length : Int) := by omega
      go_wp2_with (first | ((with_reducible refine gate_store (t := 32) (p := 19) rfl ?_); refine R_storeAll k32 (w0 := wr) base rfl rfl 32 (.tmp 19) (.tmp 18) rfl 32 j (over (heldF m) f j) (heldF m) (.agg #[.int .i64 m, .string heldS, .int .i64 0]) [.int .i64 m, .string heldS, .int .i64 0] okf (fun _ => False) rfl rfl rfl rfl rfl (by kernel_rfl) (by simp [Value.oneCell']) HF.out (by omega) (k32_mkM _ _ _ (heldF m)) (fun _ hk => hk.elim) (Below.refl _ _) ?_; intro w3 ho3 hb3 hg3; rw [over_set _ f j hlt] at ho3; have HT' := ak (Kd.R_over HT.out HF.out (by decide) hg3); have HX' := ak (HX.out.grown hg3 (fun k hk => .inl rfl)); have BK' := ak (blk_grown BK.out hg3 (fun he => Kd.R_ne HF.out BK.out (by decide) he)); clear HF HT HX BK; have HF := ak ho3; have HT := HT'; have HX := HX'; have BK := BK'; clear ho3 hb3 hg3 HT' HX' BK'))
      go_roundw
      case rel => exact ⟨j + 1, by go_num, ⟨by omega⟩, HF, HT, HX, BK⟩
      case measure => simp [intOf]; omega
    · have hb2 : ¬ (j : Int) < (f.length : Int) := by omega
      have hj3 : j = f.length := by have := hj.out; omega
      have HF' := ak (show Kd.R k32 32 wr base okf (.slice Af f.length cf) (List.replicate f.length (heldF m)) by have h := HF.out; rw [hj3, over_all] at h; exact h)
      clear HF hj3
      obtain ⟨wo, rfl⟩ : ∃ wo : World, wo = wr := ⟨_, rfl⟩
      go_wp2_with fail
      go_loopw [8] (fun i wr => ∃ j : Nat, i = .int .i64 (j : Int) ∧ Aside0 (j ≤ t.length) ∧ Aside0 (Kd.R k32 32 wr base okf (.slice Af f.length cf) (List.replicate f.length (heldF m))) ∧ Aside0 (Kd.R k62 62 wr base okt (.slice At t.length ct) (over (heldT m) t j)) ∧ Aside0 (Spared w wr (Value.slice Af f.length cf).ownBlock (Value.slice At t.length ct).ownBlock) ∧ Aside0 (wr.heap[gb]? = some (.cells #[.slice none 0 0, .slice none 0 0, .int .i64 0] 28 (0, 0)))) (fun i _ => t.length - (intOf i).toNat)
      case atStart => exact ⟨0, rfl, ⟨by omega⟩, HF', ⟨by rw [over_zero]; exact HT.out⟩, HX, BK⟩
      case round =>
        clear HF' HT HX BK hj hb2 hlt
        obtain ⟨i, rfl, hi, HF, HT, HX, BK⟩ := hrel
        by_cases hlt : i < t.length
        · obtain ⟨g, cap, hv, hbg, hgl, cells, hcells⟩ := Kd.R_form HT.out (by rw [over_len _ _ _ hi.out]; omega)
          injection hv with ha _ hc
          subst ha; subst hc
          have HG := ak hbg
          clear hbg hgl hcells
          have hb1 : (0 : Int) ≤ (i : Int) := by omega
          have hb2 : (i : Int) < (t.length : Int) := by omega
          go_wp2_with (first | ((with_reducible refine gate_store (t := 62) (p := 30) rfl ?_); refine R_storeAll k62 (w0 := wr) base rfl rfl 62 (.tmp 30) (.tmp 29) rfl 62 i (over (heldT m) t i) (heldT m) (.agg #[.string heldS, .int .i64 m]) [.string heldS, .int .i64 m] okt (fun _ => False) rfl rfl rfl rfl rfl (by kernel_rfl) (by simp [Value.oneCell']) HT.out (by omega) (k62_mkM _ _ _ (heldT m)) (fun _ hk => hk.elim) (Below.refl _ _) ?_; intro w3 ho3 hb3 hg3; rw [over_set _ t i hlt] at ho3; have HF' := ak (Kd.R_over HF.out HT.out (by decide) hg3); have HX' := ak (HX.out.grown hg3 (fun k hk => .inr (.inl rfl))); have BK' := ak (blk_grown BK.out hg3 (fun he => Kd.R_ne HT.out BK.out (by decide) he)); clear HF HT HX BK; have HT := ak ho3; have HF := HF'; have HX := HX'; have BK := BK'; clear ho3 hb3 hg3 HF' HX' BK'))
          go_roundw
          case rel => exact ⟨i + 1, by go_num, ⟨by omega⟩, HF, HT, HX, BK⟩
          case measure => simp [intOf]; omega
        · have hb2 : ¬ (i : Int) < (t.length : Int) := by omega
          have hi3 : i = t.length := by have := hi.out; omega
          have HT' := ak (show Kd.R k62 62 wr base okt (.slice At t.length ct) (List.replicate t.length (heldT m)) by have h := HT.out; rw [hi3, over_all] at h; exact h)
          clear HT hi3
          go_wp2_with (first | ((with_reducible refine gate_dst (N := 36) rfl ?_); refine R_append_keep k32 (w0 := wr) (W0 := wr) base rfl (.tmp 31) (.tmp 35) 22 32 (.agg #[(.int .i64 0), (.string ⟨#[]⟩), (.int .i64 0)]) 32 rfl Try.underlying22 info32 rfl (by decide) (.slice Af f.length cf) (List.replicate f.length (heldF m)) _ 3 3 okf rfl rfl rfl (by simp [Value.oneCell']) HF.out (by rw [List.length_replicate]; omega) (by omega) (Below.refl _ _) (Nat.le_trans hbase HX.out.below.size) ?_; intro v3 w3 ho3 hb3 hg3; have HT2 := ak (Kd.R_over HT'.out HF.out (by decide) hg3); have HX' := ak (HX.out.grown hg3 (fun k hk => .inl rfl)); have BK' := ak (blk_grown BK.out hg3 (fun he => Kd.R_ne HF.out BK.out (by decide) he)); clear HF HT' HX BK; have HF := ak ho3; have HT := HT2; have HX := HX'; have BK := BK'; clear ho3 hb3 hg3 HT2 HX' BK') | ((with_reducible refine gate_dst (N := 41) rfl ?_); refine R_append_keep k62 (w0 := w3) (W0 := w3) base rfl (.tmp 37) (.tmp 40) 26 62 (.agg #[(.string ⟨#[]⟩), (.int .i64 0)]) 24 rfl Try.underlying26 info62 rfl (by decide) (.slice At t.length ct) (List.replicate t.length (heldT m)) _ 2 2 okt rfl rfl rfl (by simp [Value.oneCell']) HT.out (by rw [List.length_replicate]; omega) (by omega) (Below.refl _ _) (Nat.le_trans hbase HX.out.below.size) ?_; intro v4 w4 ho3 hb3 hg3; have HF2 := ak (Kd.R_over HF.out HT.out (by decide) hg3); have HX' := ak (HX.out.grown hg3 (fun k hk => .inr (.inl rfl))); have BK' := ak (blk_grown BK.out hg3 (fun he => Kd.R_ne HT.out BK.out (by decide) he)); have hcz0 := (blk_cell BK'.out 0).trans rfl; have hcz1 := (blk_cell BK'.out 1).trans rfl; have hcz2 := (blk_cell BK'.out 2).trans rfl; have hfz0 := blk_frozen BK'.out 0; have hfz1 := blk_frozen BK'.out 1; have hfz2 := blk_frozen BK'.out 2; clear HF HT HX BK; have HT := ak ho3; have HF := HF2; have HX := HX'; have BK := BK'; clear ho3 hb3 hg3 HF2 HX' BK'))
          have hbk0 := blk_put (cs := #[.slice none 0 0, .slice none 0 0, .int .i64 0]) BK.out 0 (.slice Af f.length cf) rfl
          have hbk1 := blk_put hbk0 1 (.slice At t.length ct) rfl
          have hbk2 := blk_put hbk1 2 (.int .i64 m) rfl
          refine bodyPost_ret (results_cell_row rfl _ _ _ _ _ (0, 0) _ rfl hbk2 Try.underlying28 rfl (by kernel_rfl)) rfl ?_
          exact ⟨rfl, Kd.R_set (Kd.R_set (Kd.R_set HF.out BK.out (by decide) 0 _) hbk0 (by decide) 1 _) hbk1 (by decide) 2 _, Kd.R_set (Kd.R_set (Kd.R_set HT.out BK.out (by decide) 0 _) hbk0 (by decide) 1 _) hbk1 (by decide) 2 _, ((HX.out.set GE.out _).set GE.out _).set GE.out _⟩
end Go.Proofs.Ytdfndbegifdejaa.PFlowExact
end
