/- Merged: Mine, Roomy, RoomyG. -/
import Derived.Test.YtdfndbegifdejaaDoorGDx0
/-! ### Mine -/
/- Own words of this session over any program: copy between rows of structs without inner rows; a row whose elements hold no rows is made as it is read. -/
namespace Go.Proofs.YtdfndbegifdejaaDoorMine
set_option linter.unusedVariables false
set_option linter.unusedSimpArgs false
open Go.RowKit Go.Proofs.YtdfndbegifdejaaDoorW.PrintWords

section
variable {P : Program} {ops : Array Oper} {rest : List Oper} {o : Oper} {a : Act} {Q : Exit → Act → World → Prop} {α : Type}

theorem run_copy_any (w : World) (dT sT ty elem : TypeId) (g dLen dCap : Nat) (ad : Addr) (sLen sCap : Nat) (cur : Array Value) (t : TypeId) (cs : List Value) (sz : Nat)
    (hu : P.underlying dT = some (.slice elem)) (hs : (P.info? elem).map (·.size) = some sz)
    (hg : w.heap[g]? = some (.cells cur t (0, 0))) (hn : cs.length = (Nat.min sLen dLen) * sz)
    (hsrc : ∀ j v, cs[j]? = some v → w.cell? (ad.add j) = some v) (hfit : cs.length ≤ cur.size) (h1 : ∀ v ∈ cs, v.oneCell' = true) :
    (Builtin.copy_ #[dT, sT] ty #[.slice (some ⟨g, 0, none⟩) dLen dCap, .slice (some ad) sLen sCap]).run P w =
      .ok (goInt (Nat.min sLen dLen)) (w.setCells g 0 cs) := by
  have hl := run_loadCells_list (P := P) w ad cs hsrc
  have hst := run_storeCells_cells (P := P) g 0 cs 0 w (fun j hj => by rw [cell_of_row w g _ cur t (0, 0) hg]; simp; omega) (fun j _ => blk_frozen hg _) h1
  simp only [Nat.add_zero] at hst
  cases hq : P.info? elem with
  | none => simp [hq] at hs
  | some i =>
    have hi : i.size = sz := by simpa [hq] using hs
    simp [Builtin.copy_, run_underlying hu, Builtin.lenOf, Builtin.firstCells, sizeOf, typeInfo, hq, hi, ← hn, hl, hst]

theorem run_copy_no (w : World) (dT sT ty elem : TypeId) (d sd : Option Addr) (dLen dCap sLen sCap : Nat)
    (hu : P.underlying dT = some (.slice elem)) (sz : Nat) (hs : (P.info? elem).map (·.size) = some sz) (hn : Nat.min sLen dLen = 0) :
    (Builtin.copy_ #[dT, sT] ty #[.slice d dLen dCap, .slice sd sLen sCap]).run P w = .ok (goInt 0) w := by
  cases hq : P.info? elem with
  | none => simp [hq] at hs
  | some i =>
    cases d <;> cases sd <;> simp [Builtin.copy_, run_underlying hu, Builtin.lenOf, Builtin.firstCells, sizeOf, typeInfo, hq, hn, storeCells, loadCells, loadCellsFrom]

/-- copy(v, ys), v a row of one's own of structs without rows inside: its first elements are ys' then. -/
theorem R_copyK (d : Kd α) {w0 W : World} (base : Nat) (hgd : o.guard = none) (s x : Operand) (t t' e : TypeId)
    (ho : o.op = .call { callee := .builtin .copy, args := #[s, x], argTypes := #[t, t'] }) (ht : P.underlying t = some (.slice e)) (hinfo : (P.info? e).map (·.size) = some d.sz)
    (v : Value) (xs ys : List α) (A : Option Addr) (c : Nat) (ok : Nat → Prop) (hs : a.eval s = v) (hx : a.eval x = .slice A ys.length c)
    (hKM : ∀ W' W'' base ok x cs, d.K W' x cs → d.M W'' base ok x cs) (hle : ys.length ≤ xs.length)
    (HO : d.R e W base ok v xs) (HR : d.C W A ys.length ys) (HB : Below base w0 W) (hbase : base ≤ W.heap.size)
    (h : ∀ w1, d.R e w1 base ok v (ys ++ xs.drop ys.length) → Below base w0 w1 → W.grownBy w1 v.ownBlock → wpList P ops Q rest (a.put o.dst (.int .i64 ((ys.length : Nat) : Int))) w1) :
    wpList P ops Q (o :: rest) a W := by
  have hmin : Nat.min ys.length xs.length = ys.length := Nat.min_eq_left hle
  obtain ⟨inner0, hown0⟩ := Kd.R_own HO
  have fin : ∀ w1, (Builtin.copy_ #[t, t'] o.type #[v, .slice A ys.length c]).run P W = .ok (goInt ys.length) w1 → d.R e w1 base ok v (ys ++ xs.drop ys.length) → W.grownBy w1 v.ownBlock → wpList P ops Q (o :: rest) a W := by
    intro w1 hr hrow hg
    refine wpList_plain hgd fun K hK => ?_
    unfold Oper.wp execOp
    simp only [ho, resolve, invoke, builtin, Sem.run_bind, Sem.run_pure, Result.andThen_ok, List.map_toArray, List.map_cons, List.map_nil, hs, hx, hr]
    exact hK _ _ (h w1 hrow (HB.grown hg hbase (own_base hown0)) hg)
  rcases Nat.eq_zero_or_pos ys.length with h0 | hp
  · obtain ⟨A', c', hv⟩ := own_slice hown0
    have hy : ys = [] := List.eq_nil_of_length_eq_zero h0
    subst hy
    refine fin W ?_ (by simpa using HO) (World.grownBy.refl W _)
    rw [hv]
    exact run_copy_no W t t' o.type e A' A _ c' _ c ht d.sz hinfo (by simp)
  · obtain ⟨ad, hA, _⟩ := HR.2.2 hp
    subst hA
    obtain ⟨news, hnR, hnc⟩ := ReadsRow.inner_ HR
    obtain ⟨hok, inner, hown, hr⟩ := HO
    have hcopy := hown.2
    rcases hcopy with ⟨_, hx0⟩ | ⟨g, cap, cur, hv, hb, hh, hncap, hcm, hcs, htake⟩
    · omega
    have hone : ∀ u ∈ news, u.oneCell' = true := by
      intro u hu
      by_cases hs0 : 0 < d.sz
      · exact Kd.reps_one hnR hs0 (fun p c hp u hu => d.K_one hp u hu) u hu
      · have : news.length = 0 := by rw [hnR.1]; have : d.sz = 0 := by omega
                                     rw [this, Nat.mul_zero]
        rw [List.eq_nil_of_length_eq_zero this] at hu
        cases hu
    have hfit : news.length ≤ cur.size := by
      rw [hnR.1, hcs]; exact Nat.le_trans (Nat.mul_le_mul_right _ hle) (Nat.mul_le_mul_right _ hncap)
    have hrun := run_copy_any (P := P) W t t' o.type e g xs.length cap ad ys.length c cur e news d.sz ht hinfo hh (by rw [hmin, hnR.1]) hnc hfit hone
    rw [hmin] at hrun
    obtain ⟨cur', h3, h4, h5⟩ := setCells_row news 0 W cur hh (by omega)
    obtain ⟨s1, s2, s3, s4⟩ := setCells_same g news 0 W
    have hgr : W.grownBy (W.setCells g 0 news) v.ownBlock := ⟨s1, s2, s3, by rw [s4]; exact Nat.le_refl _, fun k _ hk => setCells_far _ _ k (fun he => hk (by rw [hv, he]; simp [Value.ownBlock]))⟩
    have hln : (ys ++ xs.drop ys.length).length = xs.length := by
      rw [List.length_append, List.length_drop]; omega
    refine fin _ (by rw [hv]; exact hrun) ⟨hok, news ++ inner.drop (ys.length * d.sz), ?_, ?_⟩ hgr
    · refine ⟨?_, .inr ⟨g, cap, cur', by rw [hln]; exact hv, hb, h3, by rw [hln]; exact hncap, hcm, by rw [h4, hcs], ?_⟩⟩
      · rw [List.length_append, List.length_drop, hnR.1, hown.1, hln]
        have := Nat.mul_le_mul_right d.sz hle
        omega
      · rw [h5, List.take_zero, List.nil_append, Nat.zero_add, hln, hnR.1]
        have hmul := Nat.mul_le_mul_right d.sz hle
        rw [List.take_append, hnR.1, List.take_of_length_le (by rw [hnR.1]; exact hmul)]
        congr 1
        rw [← htake, List.drop_take]
    · refine Kd.reps_append (hnR.imp_ (fun p c hp => hKM _ _ _ _ p c hp)) ?_
      have hr' : Reps (d.M (W.setCells g 0 news) base (fun k => ok k ∧ some k ≠ v.ownBlock)) d.sz xs inner := by
        refine hr.imp_ (fun p c hp => ?_)
        have hb1 := d.M_bound hp
        refine d.M_mono (fun k hk => hk.1) (d.M_move (w1 := W.setCells g 0 news) (fun k hk => ?_) hb1)
        exact hgr.block k hk.2.2.1 hk.1.2
      exact Kd.reps_drop hr'

/-- out[i] = T{..}: a whole element is written. -/
theorem R_storeAll (d : Kd α) {w0 W : World} (base : Nat) (hN : o.dst = none) (hgd : o.guard = none) (t : TypeId) (p x : Operand) (ho : o.op = .store t p x) (e : TypeId) {g n cap o' : Nat} (i : Nat) (xs : List α) (x' : α) (u : Value) (seg : List Value) (ok okp : Nat → Prop)
    (haddr : a.eval p = .pointer (some ⟨g, o', none⟩)) (hoff : o' = i * d.sz) (hx : a.eval x = u) (hu : u.cells.toList = seg) (hsl : seg.length = d.sz) (ht : (P.info? t).map (·.size) = some d.sz) (h1 : ∀ q ∈ seg, q.oneCell' = true)
    (HO : d.R e W base ok (.slice (some ⟨g, 0, none⟩) n cap) xs) (hi : i < n) (hM : d.M W base okp x' seg) (hokp : ∀ k, okp k → ok k ∧ k ≠ g) (HB : Below base w0 W)
    (h : ∀ w1, d.R e w1 base ok (.slice (some ⟨g, 0, none⟩) n cap) (xs.set i x') → Below base w0 w1 → W.grownBy w1 (some g) → wpList P ops Q rest a w1) : wpList P ops Q (o :: rest) a W := by
  obtain ⟨c, hcl, _, hcc, _⟩ := Kd.R_elem HO x' (i : Int) (by omega) (by omega)
  refine Kd.R_store d base hN hgd t p x ho e (i : Int) 0 xs x' u seg c ok okp haddr (by simpa using hoff) hx hu (by rw [ht, hsl]) h1 HO (by omega) (by omega) hcl hcc (by omega) ?_ hokp HB h
  simp only [List.take_zero, List.nil_append, Nat.zero_add, hsl, ← hcl, List.drop_length, List.append_nil]
  exact hM

theorem run_append_keep (w : World) (base : Nat) (t ty e : TypeId) (i : TypeInfo) (z : Value) (size bytes : Nat) (ht : P.underlying t = some (.slice e)) (hi : P.info? e = some i) (hz : i.zero = some z)
    (hsize : i.size = size) (hby : i.bytes = bytes) (hzs : z.cells.size = size) (hsz : 0 < size)
    (v : Value) (n : Nat) (xs : List Value) (hown : w.ownsRow base e size v n xs)
    (ad : Addr) (m c : Nat) (news : List Value) (hl : news.length = m * size) (hnews : ∀ j u, news[j]? = some u → w.cell? (ad.add j) = some u) (h1 : ∀ u ∈ news, u.oneCell' = true)
    (h63 : n + m ≤ maxLen) (hbytes : (n + m) * bytes ≤ 140737488355328) (hbase : base ≤ w.heap.size) :
    ∃ v' w', (Builtin.append_ #[t, t] ty #[v, .slice (some ad) m c]).run P w = .ok v' w' ∧ w'.ownsRow base e size v n xs ∧ w.grownBy w' v.ownBlock := by
  obtain ⟨v', w', hrun, hown', hg, _, hat⟩ := run_append_own_at (P := P) w base t ty e i z size bytes ht hi hz hsize hby hzs hsz v n xs hown ad m c news hl hnews h1 h63 hbytes hbase
  rcases hown.2 with ⟨hv, hn0⟩ | ⟨g, cap, cur, hv, hbg, hh, hnc, hcm, hcs, htake⟩
  · exact ⟨v', w', hrun, ⟨hown.1, .inl ⟨hv, hn0⟩⟩, hg⟩
  · subst hv
    by_cases hroom : n + m ≤ cap
    · obtain ⟨w2, hrun2, hown2, hg2⟩ := run_append_fits (P := P) w base t ty e i size ht hi hsize g n cap xs hown ad m c news hl hnews h1 hroom
      refine ⟨_, w2, hrun2, ?_, hg2⟩
      have h3 := own_take hown2 (m := n) (by omega)
      rwa [← hown.1, List.take_left] at h3
    · subst hsize
      subst hby
      have hcells : ∀ j u, xs[j]? = some u → w.cell? ((⟨g, 0, none⟩ : Addr).add j) = some u := by
        intro j u hu
        rw [add_plain, blk_cell hh]
        rw [← htake] at hu
        rw [List.getElem?_take] at hu
        split at hu
        · simpa using hu
        · cases hu
      have hsmall : n + m ≤ 9223372036854775807 := by simpa only [maxLen] using h63
      have hcap := growslice_fits (need := n + m) (old := cap) (by omega) hbytes
      have hgrow := run_append_grow (P := P) w t ty e i z ht hi hz ⟨g, 0, none⟩ n cap xs hown.1 hcells ad m c news hl hnews (by omega) (by omega) hcap
      refine ⟨_, _, hgrow, ?_, ⟨rfl, rfl, rfl, by simp, fun k hk _ => Below.heap_alloc w.drew _ k hk⟩⟩
      exact pw_own_below hown (below_alloc (below_drew (Below.refl _ _)) _)

/-- _ = append(v, T{..}, ..): v is as it was, though cells behind its end may be written. The goal's world is 'W0.alloc' of the literal. -/
theorem R_append_keep (d : Kd α) {w0 W0 : World} (base : Nat) (hgd : o.guard = none) (s x : Operand) (t e : TypeId) (z : Value) (bytes : Nat)
    (ho : o.op = .call { callee := .builtin .append, args := #[s, x], argTypes := #[t, t] }) (ht : P.underlying t = some (.slice e))
    (hinfo : (P.info? e).map (fun i => (i.zero, i.size, i.bytes)) = some (some z, d.sz, bytes)) (hz : z.cells.size = d.sz) (hs0 : 0 < d.sz)
    (v : Value) (xs : List α) (cs : Array Value) (m c : Nat) (ok : Nat → Prop) (hs : a.eval s = v) (hx : a.eval x = .slice (some ⟨W0.heap.size, 0, none⟩) m c) (hl : cs.size = m * d.sz) (h1 : ∀ u ∈ cs.toList, u.oneCell' = true)
    (HO : d.R e W0 base ok v xs) (hbytes : (xs.length + m) * bytes ≤ 140737488355328) (hb0 : 0 < bytes) (HB : Below base w0 W0) (hbase : base ≤ W0.heap.size)
    (h : ∀ v1 w1, d.R e w1 base ok v xs → Below base w0 w1 → W0.grownBy w1 v.ownBlock → wpList P ops Q rest (a.put o.dst v1) w1) :
    wpList P ops Q (o :: rest) a (W0.alloc (.cells cs e (0, 0))) := by
  obtain ⟨i0, hi, hzz⟩ := Option.map_eq_some_iff.1 hinfo
  simp only [Prod.mk.injEq] at hzz
  obtain ⟨hz0, hz1, hz2⟩ := hzz
  have HO' := Kd.R_alloc HO (.cells cs e (0, 0))
  obtain ⟨hok, inner, hown, hr⟩ := HO'
  have hmul : xs.length + m ≤ (xs.length + m) * bytes := Nat.le_mul_of_pos_right _ hb0
  obtain ⟨v1, w1, hrun, hown1, hg⟩ := run_append_keep (P := P) (W0.alloc (.cells cs e (0, 0))) base t o.type e i0 z d.sz bytes ht hi hz0 hz1 hz2 hz hs0 v xs.length inner hown ⟨W0.heap.size, 0, none⟩ m c cs.toList (by rw [Array.length_toList]; exact hl)
    (fun j u hu => by rw [add_plain, blk_cell (blk_new _ _)]; simpa using hu) h1 (by simp only [maxLen]; omega) hbytes (by simp; omega)
  have hg0 : W0.grownBy w1 v.ownBlock := (World.grownBy_alloc W0 _ v.ownBlock).trans hg
  refine wpList_plain hgd fun K hK => ?_
  unfold Oper.wp execOp
  simp only [ho, resolve, invoke, builtin, Sem.run_bind, Sem.run_pure, Result.andThen_ok, List.map_toArray, List.map_cons, List.map_nil, hs, hx, hrun]
  refine hK _ _ (h v1 w1 ⟨hok, inner, hown1, ?_⟩ (HB.grown hg0 hbase (own_base hown)) hg0)
  refine hr.imp_ (fun p c hp => ?_)
  exact d.M_mono (fun k hk => hk.1) (d.M_move (w1 := w1) (fun k hk => hg.block k hk.2.2.1 hk.1.2) (d.M_bound hp))

/-- What a call may have turned: the blocks fb and tb; all else that was there stands. -/
structure Spared (w w' : World) (fb tb : Option Nat) : Prop where
  below : Below 0 w w'
  block : ∀ k, k < w.heap.size → some k ≠ fb → some k ≠ tb → w'.heap[k]? = w.heap[k]?
theorem Spared.refl (w : World) (fb tb : Option Nat) : Spared w w fb tb := ⟨Below.refl _ _, fun _ _ _ _ => rfl⟩
theorem Spared.of_below {w w' : World} (h : Below w.heap.size w w') (fb tb : Option Nat) : Spared w w' fb tb := ⟨h.mono (Nat.zero_le _), fun k hk _ _ => h.block k hk⟩
theorem Spared.grown {w w1 w2 : World} {fb tb row : Option Nat} (h : Spared w w1 fb tb) (hg : w1.grownBy w2 row) (hr : ∀ k, row = some k → row = fb ∨ row = tb ∨ w.heap.size ≤ k) : Spared w w2 fb tb := by
  refine ⟨h.below.grown hg (Nat.zero_le _) (fun _ _ => Nat.zero_le _), fun k hk h1 h2 => ?_⟩
  refine (hg.block k (Nat.lt_of_lt_of_le hk h.below.size) (fun he => ?_)).trans (h.block k hk h1 h2)
  rcases hr k he.symm with h3 | h3 | h3
  · exact h1 (he.trans h3)
  · exact h2 (he.trans h3)
  · omega
theorem Spared.step {w w1 w2 : World} {fb tb : Option Nat} (h : Spared w w1 fb tb) (hb : Below w1.heap.size w1 w2) : Spared w w2 fb tb :=
  h.grown (grown_of_below hb none) (fun k he => by cases he)
theorem Spared.alloc {w w1 : World} {fb tb : Option Nat} (h : Spared w w1 fb tb) (o : Obj) : Spared w (w1.alloc o) fb tb := h.step (below_alloc (Below.refl _ _) o)
theorem Spared.drewN {w w1 : World} {fb tb : Option Nat} (h : Spared w w1 fb tb) (n : Nat) : Spared w (w1.drewN n) fb tb := h.step (pw_below_drewN (Below.refl _ _) n)
theorem Spared.set {w w1 : World} {fb tb : Option Nat} (h : Spared w w1 fb tb) {g j : Nat} (hg : w.heap.size ≤ g) (u : Value) : Spared w (w1.setCell ⟨g, j, none⟩ u) fb tb :=
  ⟨h.below.setCell (Nat.zero_le _) u, fun k hk h1 h2 => (Below.heap_setCell w1 _ u k (by simp; omega)).trans (h.block k hk h1 h2)⟩
theorem Spared.to_below {w w1 : World} {fb tb : Option Nat} (h : Spared w w1 fb tb) {B : Nat} (hB : B ≤ w.heap.size) (hf : ∀ k, fb = some k → B ≤ k) (ht : ∀ k, tb = some k → B ≤ k) : Below B w w1 :=
  ⟨h.below.os, h.below.tape, h.below.output, h.below.size, fun k hk => h.block k (by omega) (fun he => by have := hf k he.symm; omega) (fun he => by have := ht k he.symm; omega)⟩
end
end Go.Proofs.YtdfndbegifdejaaDoorMine

/-! ### Roomy -/
/- The helpers of the flow laws: roomy gives a copy with three marks behind; its contract. -/
namespace Go.Proofs.YtdfndbegifdejaaDoor.GD
set_option linter.unusedVariables false
set_option linter.unusedSimpArgs false
open Go.RowKit Go.Proofs.YtdfndbegifdejaaDoorW.PrintWords Go.Proofs.YtdfndbegifdejaaDoorW.PrintLast Go.Proofs.YtdfndbegifdejaaDoorW.PrintMore Go.Proofs.YtdfndbegifdejaaDoorMine
attribute [local go_sem] max2_int min2_int max_two min_two max_three min_three max_four min_four

def markS : ByteArray := ⟨#[109, 97, 114, 107]⟩
def mark (i : Int) : S32 := ⟨-77, markS, i⟩
def marks (n : Nat) : List S32 := [mark n, mark (n + 1 : Nat), mark (n + 2 : Nat)]
def roomAt (l : List S32) (j : Nat) : List S32 := l ++ ((marks l.length).take j ++ List.replicate (3 - j) z32)
theorem roomAt_zero (l : List S32) : roomAt l 0 = l ++ List.replicate 3 z32 := rfl
theorem roomAt_len (l : List S32) (j : Nat) (h : j ≤ 3) : (roomAt l j).length = l.length + 3 := by
  simp [roomAt, marks]; omega
theorem roomAt_set (l : List S32) (j : Nat) (h : j < 3) : (roomAt l j).set (l.length + j) (mark ((l.length + j : Nat) : Int)) = roomAt l (j + 1) := by
  unfold roomAt
  rw [List.set_append_right _ _ (by omega), Nat.add_sub_cancel_left]
  congr 1
  match j, h with
  | 0, _ => rfl
  | 1, _ => rfl
  | 2, _ => rfl
theorem kflat (W' W'' : World) (base : Nat) (ok : Nat → Prop) (x : S32) (cs : List Value) (h : k32.K W' x cs) : k32.M W'' base ok x cs := by
  obtain rfl := k32_open h
  exact k32_mkM _ _ _ x

set_option maxHeartbeats 1000000 in
theorem roomy.calls (A0 : Option Addr) (c0 : Nat) (l0 : List S32) (w : World) (hr0 : Kd.C k32 w A0 l0.length l0) (hc0 : l0.length ≤ c0) (hsz : l0.length * 32 ≤ 140737488351232) :
    Calls Tryd.prog 9 #[.slice A0 l0.length c0] w fun e w' => ∃ v0_ : Value, e = .returned (v0_) ∧ Kd.R k32 32 w' w.heap.size (fun _ => True) v0_ (l0 ++ marks l0.length) ∧ Below w.heap.size w w' := by
  have HR0 := Aside0.mk hr0
  have HB := Aside0.mk (Below.refl w.heap.size w)
  clear hr0
  have hn : (l0.length : Int) ≤ 4398046510976 := by omega
  have hn0 : (0 : Int) ≤ (l0.length : Int) := by omega
  go_enter Tryd.func9, Tryd.ntmps9
  go_wp2_with (first | ((with_reducible refine gate_dst (N := 8) rfl ?_); refine Kd.R_make k32 (w0 := w) w.heap.size 32 rfl (N := 8) rfl 22 _ _ rfl ((l0.length : Int) + 3) rfl rfl Tryd.underlying22 (.agg #[(.int .i64 0), (.string ⟨#[]⟩), (.int .i64 0)]) 32 info32 rfl (by decide) (by omega) z32 (ok := fun _ => True) (okp := fun _ => True) (k32_mkM _ _ _ z32) (fun _ hk => hk) trivial (by omega) (by omega) HB.out (Nat.le_refl _) ?_; intro v w1 ho hb _ _; obtain ⟨g, cap, rfl, hgb, hgl, cells, hcells⟩ := Kd.R_form ho (by rw [List.length_replicate]; omega); rw [List.length_replicate, show ((l0.length : Int) + 3).toNat = l0.length + 3 by omega] at ho ⊢; have HO := Aside0.mk ho; have HG := Aside0.mk hgb; clear ho hgb hgl hcells HB; have HB := Aside0.mk hb; clear hb) | ((with_reducible refine gate_dst (N := 11) rfl ?_); refine R_copyK k32 (w0 := w) w.heap.size rfl (.tmp 9) (.tmp 10) 22 22 32 rfl Tryd.underlying22 (by kernel_rfl) _ (List.replicate (l0.length + 3) z32) l0 A0 c0 (fun _ => True) rfl rfl kflat (by rw [List.length_replicate]; omega) HO.out (Kd.C_below HR0.out HB.out) HB.out HB.out.size ?_; intro w2 ho2 hb2 _; have h0_ : l0 ++ List.drop l0.length (List.replicate (l0.length + 3) z32) = roomAt l0 0 := (by rw [roomAt_zero, List.drop_replicate, Nat.add_sub_cancel_left]); rw [h0_] at ho2; clear HO HB h0_; have HO := Aside0.mk ho2; have HB := Aside0.mk hb2; clear ho2 hb2))
  go_loopw [4] (fun i wr => ∃ j : Nat, i = .int .i64 ((l0.length + j : Nat) : Int) ∧ Aside0 (j ≤ 3) ∧ Aside0 (Kd.R k32 32 wr w.heap.size (fun _ => True) (.slice (some ⟨g, 0, none⟩) (l0.length + 3) cap) (roomAt l0 j)) ∧ Aside0 (Below w.heap.size w wr)) (fun i _ => l0.length + 3 - (intOf i).toNat)
  case atStart => exact ⟨0, rfl, ⟨by omega⟩, HO, HB⟩
  case round =>
    clear HO HB
    obtain ⟨j, rfl, hj, HO, HB⟩ := hrel
    by_cases hlt : j < 3
    · have hb1 : (0 : Int) ≤ ((l0.length + j : Nat) : Int) := by omega
      have hb2 : ((l0.length + j : Nat) : Int) < ((l0.length + 3 : Nat) : Int) := by omega
      have hb3 : ((l0.length + j : Nat) : Int) ≤ 4398046510979 := by omega
      go_wp2_with (first | ((with_reducible refine gate_store (t := 32) (p := 24) rfl ?_); refine R_storeAll k32 (w0 := w) w.heap.size rfl rfl 32 (.tmp 24) (.tmp 23) rfl 32 (l0.length + j) (roomAt l0 j) (mark ((l0.length + j : Nat) : Int)) (.agg #[.int .i64 (-77), .string markS, .int .i64 ((l0.length + j : Nat) : Int)]) [.int .i64 (-77), .string markS, .int .i64 ((l0.length + j : Nat) : Int)] (fun _ => True) (fun _ => False) rfl rfl rfl rfl rfl (by kernel_rfl) (by simp [Value.oneCell']) HO.out (by omega) (k32_mkM _ _ _ (mark ((l0.length + j : Nat) : Int))) (fun _ hk => hk.elim) HB.out ?_; intro w3 ho3 hb3 _; rw [roomAt_set l0 j hlt] at ho3; clear HO HB; have HO := Aside0.mk ho3; have HB := Aside0.mk hb3; clear ho3 hb3))
      go_roundw
      case rel => exact ⟨j + 1, by go_num, ⟨by omega⟩, HO, HB⟩
      case measure => simp [intOf]; omega
    · have hb2 : ¬ ((l0.length + j : Nat) : Int) < ((l0.length + 3 : Nat) : Int) := by omega
      go_wp2
      go_ret
      have hj3 : j = 3 := by have := hj.out; omega
      subst hj3
      exact ⟨_, rfl, HO.out, HB.out⟩
end Go.Proofs.YtdfndbegifdejaaDoor.GD

/-! ### RoomyG -/
/- roomy: its contract, as the printer's texts ask it. -/
namespace Go.Proofs.YtdfndbegifdejaaDoor.GD
open Go.RowKit Go.Proofs.YtdfndbegifdejaaDoorW.PrintWords
def payofflaw03_roomy.f (l : List S32) : Option (List S32) := if l.length * 32 ≤ 140737488351232 then some (l ++ marks l.length) else none
theorem payofflaw03_roomy.calls (A0 : Option Addr) (c0 : Nat) (l0 : List S32) (r : List S32) (w : World) (hr0 : Kd.C k32 w A0 l0.length l0) (hc0 : l0.length ≤ c0) (h : payofflaw03_roomy.f l0 = some r) :
    Calls Tryd.prog 9 #[.slice A0 l0.length c0] w fun e w' => ∃ v0_ : Value, e = .returned (v0_) ∧ Kd.R k32 32 w' w.heap.size (fun _ => True) v0_ r ∧ Below w.heap.size w w' := by
  unfold payofflaw03_roomy.f at h
  split at h
  · rename_i hsz
    obtain rfl := Option.some.inj h
    exact (roomy.calls A0 c0 l0 w hr0 hc0 hsz)
  · cases h
end Go.Proofs.YtdfndbegifdejaaDoor.GD
