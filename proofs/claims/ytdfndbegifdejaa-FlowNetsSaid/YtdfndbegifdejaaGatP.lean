/- flow.gather at places (flow.Net): words of its walk, and its contract. -/
import Derived.Test.YtdfndbegifdejaaGatS
import Derived.Test.YtdfndbegifdejaaSrtP
namespace Go.Proofs.YtdfndbegifdejaaMine
set_option linter.unusedVariables false
set_option linter.unusedSimpArgs false
open Go.RowKit Go.Proofs.YtdfndbegifdejaaW.PrintWords Go.Proofs.YtdfndbegifdejaaW.PrintLast
variable {P : Program} {ops : Array Oper} {Q : Exit → Act → World → Prop}
/-- What a look-up gives stays while the map's block stays. -/
theorem lookup_stays {P : Program} {H : Type} {w w' : World} {k E e : TypeId} {base : Nat} {q : IntKind} {b n : Nat} {D : DataW H} {t : TypeId} {key : Value} {kl : Lit} {v : Value}
    (hown : w.ownsGroups P k base e q b n D) (K : Maps.Keyed P k) (ht : P.underlying t = some (.map k E)) (hz : ∀ W, (zeroValue E).run P W = .ok (.slice none 0 0) W) (hkey : keyOf P k key = some kl)
    (hb : w'.heap[b]? = w.heap[b]?) (h : (Instr.lookup t (.map (some b)) key false).run P w = .ok v w) : (Instr.lookup t (.map (some b)) key false).run P w' = .ok v w' := by
  obtain ⟨es, clock, h1, F, _⟩ := hown
  have hap := Maps.fit_apart K F
  have he : ∀ x ∈ es.toList, ∀ y ∈ es.toList, x.key = key → y.key = key → x = y := by
    intro x hx y hy e1 e2
    have hr : ∀ z ∈ es.toList, z.key = key → (WideElems.rg P k (rowElem (H := H) w base e q) z).1 = kl := by
      intro z hz e3
      obtain ⟨y0, hy0⟩ := F.reads z hz
      have m := WideElems.rd_key hy0
      rw [e3, hkey] at m
      rw [WideElems.rg_of hy0]
      exact (Option.some.inj m).symm
    obtain ⟨i, hi, rfl⟩ := List.getElem_of_mem hx
    obtain ⟨j, hj, rfl⟩ := List.getElem_of_mem hy
    have hp := List.pairwise_iff_getElem.1 hap
    rcases Nat.lt_trichotomy i j with hij | hij | hij
    · refine absurd ?_ (hp i j (by simpa using hi) (by simpa using hj) hij)
      rw [List.getElem_map, List.getElem_map, hr _ hx e1, hr _ hy e2]
    · subst hij; rfl
    · refine absurd ?_ (hp j i (by simpa using hj) (by simpa using hi) hij)
      rw [List.getElem_map, List.getElem_map, hr _ hx e1, hr _ hy e2]
  rcases Maps.fit_look false K ht (hz w) h1 F hkey with ⟨r1, n1, _⟩ | ⟨e0, y0, m0, k0, r1, _⟩ <;> rcases Maps.fit_look false K ht (hz w') (hb.trans h1) F hkey with ⟨r2, n2, _⟩ | ⟨e1, y1, m1, k1, r2, _⟩
  · rw [h] at r1
    injection r1 with r1 _
    rw [r2, r1]
  · exact absurd k1 (n1 _ m1)
  · exact absurd k0 (n2 _ m0)
  · obtain rfl := he _ m0 _ m1 k0 k1
    rw [h] at r1
    injection r1 with r1 _
    rw [r2, r1]
/-- The append of one's own row, in a region that draws. -/
theorem append_ {oi : Oper} {N : Option Tmp} {a : Act} {w : World} {K : Act → World → Prop} (hw : Region.wanted oi (yielded ops a.tmps) = true) (hN : oi.dst = N) (s x : Operand) (t : TypeId)
    (ho : oi.op = .call { callee := .builtin .append, args := #[s, x], argTypes := #[t, t] })
    (base : Nat) (e : TypeId) (i : TypeInfo) (z : Value) (size bytes : Nat) (ht : P.underlying t = some (.slice e)) (hi : P.info? e = some i) (hz : i.zero = some z)
    (hsize : i.size = size) (hby : i.bytes = bytes) (hzs : z.cells.size = size) (hsz : 0 < size)
    (v : Value) (n : Nat) (xs : List Value) (hs : a.eval s = v) (hown : w.ownsRow base e size v n xs)
    (ad : Addr) (m c : Nat) (news : List Value) (hx : a.eval x = .slice (some ad) m c) (hl : news.length = m * size) (hnews : ∀ j u, news[j]? = some u → w.cell? (ad.add j) = some u) (h1 : ∀ u ∈ news, u.oneCell' = true)
    (h63 : n + m ≤ maxLen) (hbytes : (n + m) * bytes ≤ 140737488355328) (hbase : base ≤ w.heap.size)
    (h : ∀ v' w', w'.ownsRow base e size v' (n + m) (xs ++ news) → w.grownBy w' v.ownBlock → (v'.ownBlock = v.ownBlock ∨ v'.ownBlock = some w.heap.size) → K (a.put N v') w') :
    if Region.wanted oi (yielded ops a.tmps) = true then Oper.wp P oi a w K Q else K (a.put N undef) w := by
  rw [if_pos hw]
  subst hN
  obtain ⟨v', w', hr, h2, h3, h4, h5⟩ := run_append_own_at (P := P) w base t oi.type e i z size bytes ht hi hz hsize hby hzs hsz v n xs hown ad m c news hl hnews h1 h63 hbytes hbase
  unfold Oper.wp execOp
  simp only [ho, resolve, invoke, builtin, Sem.run_bind, Sem.run_pure, Result.andThen_ok, List.map_toArray, List.map_cons, List.map_nil, hs, hx, hr]
  exact h v' w' h2 h3 h5
/-- The store into the map by the way back, in a region that draws. -/
theorem mapUpdate_ {oi : Oper} {a : Act} {w : World} {K : Act → World → Prop} (hw : Region.wanted oi (yielded ops a.tmps) = true) (hN : oi.dst = none) (m x v : Operand) (t : TypeId) (hop : oi.op = Op.mapUpdate t m x v)
    {w0 : World} {k : TypeId} {base : Nat} {e : TypeId} {q : IntKind} {b n : Nat} {D : DataW Unit} {key : Value} {kl : Lit} {u : Value} (v' : Value) {zs' : List Int}
    (hback : w0.groupBack P t k base e q b n D key kl u) (hm : a.eval m = .map (some b)) (hx : a.eval x = key) (hv : a.eval v = v')
    (hgr : w0.grownBy w u.ownBlock) (hown' : w.ownsInts base e q v' zs') (hl' : zs'.length ≤ n + 1) (hloc : v'.ownBlock = u.ownBlock ∨ ∃ g, v'.ownBlock = some g ∧ w0.heap.size ≤ g)
    (hK : ∀ w2, w2.ownsGroups P k base e q b (n + 1) (D.put kl (rowDatum q v' zs')) → w.grownBy w2 (some b) → K (a.put none undef) w2) :
    if Region.wanted oi (yielded ops a.tmps) = true then Oper.wp P oi a w K Q else K (a.put none undef) w := by
  rw [if_pos hw]
  obtain ⟨w2, hrun, r1, r2⟩ := hback w v' zs' hgr hown' hl' hloc
  unfold Oper.wp
  simp [execOp, hop, hm, hx, hv, hrun, Result.andThen]
  show K (a.put oi.dst undef) w2
  rw [hN]
  exact hK w2 r1 r2
end Go.Proofs.YtdfndbegifdejaaMine
namespace Go.Proofs.Ytdfndbegifdejaa.PFlowExact
set_option linter.unusedVariables false
set_option linter.unusedSimpArgs false
open Go.RowKit Go.Proofs.YtdfndbegifdejaaW.PrintWords Go.Proofs.YtdfndbegifdejaaW.PrintLast Go.Proofs.YtdfndbegifdejaaW.PrintMore Go.Proofs.YtdfndbegifdejaaMine Go.ChangeShapes

theorem Net1.calls (x : S32) (w : World) : Calls Try.prog 47 #[.agg #[.int .i64 x.f0, .string x.f1, .int .i64 x.f2]] w fun e w' => e = .returned (.agg #[.int .i64 x.f0, .string x.f1]) ∧ Below w.heap.size w w' :=
  GNetC.flow_Net_1.calls x.f0 x.f1 x.f2 x.f0 x.f1 w rfl
theorem Net3.calls (k : Pl) (s : Int) (w : World) : Calls Try.prog 49 #[.agg #[.int .i64 k.d, .string k.c], .int .i64 s] w fun e w' => e = .returned (.agg #[.int .i64 k.d, .string k.c, .int .i64 s]) ∧ Below w.heap.size w w' :=
  GNetC.flow_Net_3.calls k.d k.c s k.d k.c s w rfl
theorem info82 : (Try.prog.info? 82).map (fun i => (i.zero, i.size, i.bytes)) = some (some (.agg #[.int .i64 0, .string ⟨#[]⟩]), 2, 24) := by kernel_rfl
/-- The keys that have come so far. -/
structure KeysP (D : DataW Unit) (left : Lit → Bool) (ks : List Pl) : Prop where
  nodup : ks.Nodup
  ok : ∀ c ∈ ks, PlOk c
  mem : ∀ c, PlOk c → (c ∈ ks ↔ (Maps.has D (plit c) = true ∧ left (plit c) = false))
theorem keysP_start (D : DataW Unit) : KeysP D (Maps.has D) [] := ⟨List.nodup_nil, by simp, fun c _ => by simp⟩
theorem keysP_step {D : DataW Unit} {left : Lit → Bool} {ks : List Pl} (h : KeysP D left ks) (x : Pl) (ho : PlOk x) (hl : left (plit x) = true) (hh : Maps.has D (plit x) = true) :
    KeysP D (fun z => left z && !z.sameKey (plit x)) (ks ++ [x]) := by
  have hx : x ∉ ks := fun hm => by have := ((h.mem x ho).1 hm).2; rw [hl] at this; cases this
  refine ⟨?_, ?_, fun c hc => ?_⟩
  · rw [List.nodup_append]
    exact ⟨h.nodup, by simp, fun a ha b hb => by rw [List.mem_singleton.1 hb]; intro e; subst e; exact hx ha⟩
  · intro c hc
    rcases List.mem_append.1 hc with hc | hc
    · exact h.ok c hc
    · rw [List.mem_singleton.1 hc]; exact ho
  · rw [List.mem_append, List.mem_singleton, h.mem c hc]
    by_cases e : c = x
    · subst e
      have : (plit c).sameKey (plit c) = true := WideAt.sameKey_self (plit_key c)
      simp [this, hh]
    · have : (plit c).sameKey (plit x) = false := Maps.sameKey_ne (fun e2 => e (plit_inj hc ho e2))
      simp [this, e]
def WfP (l : List S32) : Prop := ∀ x ∈ l, PlOk ⟨x.f0, x.f1⟩ ∧ (Lit.int .i64 x.f2).wf = true
theorem pl_ne32 : ∀ q, q ∈ 82 :: k82.E → q ≠ 32 := by
  intro q hq
  have : k82.E = [] := rfl
  rw [this] at hq
  have : q = 82 := by simpa using hq
  omega
theorem keyOf82_of {x : Pl} {kl : Lit} (h : keyOf Try.prog 82 (plV x) = some kl) : PlOk x ∧ kl = plit x := by
  obtain ⟨k, e, ho, hl⟩ := keyOf82_inv h
  unfold plV at e
  cases x; cases k
  simp at e
  obtain ⟨rfl, rfl⟩ := e
  exact ⟨ho, hl⟩
/-- What is added up of each place. -/
noncomputable def nets (l0 : List S32) (ks : List Pl) : List S32 := ks.map (fun k => ⟨k.d, k.c, (sumF 0 (grp placeL (plit k) l0)).1⟩)
/-- The places, each once, in order. -/
structure PlaceList (l0 : List S32) (ks : List Pl) : Prop where
  nodup : ks.Nodup
  ok : ∀ c ∈ ks, PlOk c
  mem : ∀ c, PlOk c → (c ∈ ks ↔ ∃ x ∈ l0, placeL x = plit c)
  sorted : ks.Pairwise (fun a b => pless b a = false)
/-- The answer of gather. -/
def NetGood (l0 : List S32) (ts : List S32) (f : Int) : Prop :=
  ∃ ks, PlaceList l0 ks ∧ ((f = 0 ∧ ts = nets l0 ks ∧ ∀ k ∈ ks, (sumF 0 (grp placeL (plit k) l0)).2 = 0) ∨ (f = 1 ∧ ts = [] ∧ ∃ k ∈ ks, (sumF 0 (grp placeL (plit k) l0)).2 = 1))
end Go.Proofs.Ytdfndbegifdejaa.PFlowExact
namespace Go.Proofs.Ytdfndbegifdejaa.PFlowExact
set_option linter.unusedVariables false
set_option linter.unusedSimpArgs false
open Go.RowKit Go.Proofs.YtdfndbegifdejaaW.PrintWords Go.Proofs.YtdfndbegifdejaaW.PrintLast Go.Proofs.YtdfndbegifdejaaW.PrintMore Go.Proofs.YtdfndbegifdejaaMine Go.ChangeShapes

set_option maxHeartbeats 4000000 in
set_option maxRecDepth 100000 in
theorem gatherP.calls (A0 : Option Addr) (c0 : Nat) (l0 : List S32) (w : World) (hr0 : Kd.C k32 w A0 l0.length l0) (hc0 : l0.length ≤ c0) (hsz : l0.length * 32 ≤ 140737488351232) (hwf : WfP l0) :
    Calls Try.prog 46 #[.slice A0 l0.length c0, .func (.func 47) #[] #[], .func (.func 48) #[] #[], .func (.func 49) #[] #[]] w fun e w' => ∃ (v : Value) (ts : List S32) (f : Int), e = .returned (.tuple #[v, .int .i64 f]) ∧ Kd.R k32 32 w' w.heap.size (fun _ => True) v ts ∧ Below w.heap.size w w' ∧ ts.length ≤ l0.length ∧ NetGood l0 ts f := by
  have HR0 := Aside0.mk hr0
  have HC0 := Aside0.mk hc0
  have HWF := Aside0.mk hwf
  have hmm := @run_makeMap Try.prog
  have hu82 := Try.underlying82
  clear hr0 hc0 hwf
  obtain ⟨i0, hi, hz0, hz1, hz2⟩ := info_parts info3
  go_enter Try.func46, Try.ntmps46
  go_wp2
  go_loopg [24] l0.length (fun kx s24 wr => ∃ (i : Nat), s24 = .int .i64 i ∧ i ≤ l0.length ∧ l0.length - i ≤ kx ∧ Aside0 (∃ D : DataW Unit, wr.ownsGroups Try.prog 82 (w.heap.size + 1) 3 .i64 w.heap.size i D ∧ Says placeL D (l0.take i)) ∧ Aside0 (Below w.heap.size w wr))
  case atStart => exact ⟨0, rfl, Nat.zero_le _, by omega, Aside0.mk ⟨_, World.ownsGroups_made _ _ _ _ _, says_nil _⟩, Aside0.mk (below_alloc (Below.refl _ _) _)⟩
  case round =>
    obtain ⟨i, rfl, hi2, hkx, HD, HB⟩ := hrel
    obtain ⟨wo, rfl⟩ : ∃ wo : World, wo = wr := ⟨_, rfl⟩
    by_cases hlt : i < l0.length
    · have hltz : (i : Int) < (l0.length : Int) := by omega
      obtain ⟨ad, hA, hx0, hx1, hx2⟩ := at_T32 (Kd.C_below HR0.out HB.out) (i : Int) (by omega) hltz
      rw [Int.toNat_natCast] at hx0 hx1 hx2
      have hmem : rd_T32 l0 (i : Int) ∈ l0 := by simp [rd_T32, hlt]
      have HWX := Aside0.mk (HWF.out _ hmem)
      have HTK := Aside0.mk (show l0.take (i + 1) = l0.take i ++ [rd_T32 l0 (i : Int)] by rw [List.take_succ_eq_append_getElem hlt]; simp [rd_T32, hlt])
      generalize hxx : rd_T32 l0 (i : Int) = x at *
      clear hmem hxx
      subst hA
      go_wp2_with fail
      refine (Net1.calls x _).mono ?_
      rintro e w1 ⟨rfl, hb1⟩
      have hbx : Below (wo.alloc (Obj.cells #[.int .i64 x.f0, .string x.f1, .int .i64 x.f2] 32 (0, 0))).heap.size (wo.alloc (Obj.cells #[.int .i64 x.f0, .string x.f1, .int .i64 x.f2] 32 (0, 0))) w1 := hb1
      have HB1 := Aside0.mk hbx
      have HB2 := Aside0.mk (HB.out.trans (Below.mono ((below_alloc (Below.refl wo.heap.size wo) _).trans (hbx.mono (by simp))) HB.out.size))
      have HW1 := Aside0.mk (show wo.heap.size < w1.heap.size by have := hbx.size; simp at this; omega)
      have BK12 := Aside0.mk (blk_below (blk_new wo (.cells #[.int .i64 x.f0, .string x.f1, .int .i64 x.f2] 32 (0, 0))) hbx)
      clear hb1 hbx
      go_wp2_with fail
      obtain ⟨D, hown, hsay⟩ := HD.out
      have HSY := Aside0.mk hsay
      have hkey : keyOf Try.prog 82 (.agg #[.int .i64 x.f0, .string x.f1]) = some (placeL x) := keyOf82 ⟨x.f0, x.f1⟩ HWX.out.1
      obtain ⟨v, zs, hlk0, hat, hoi, hzl, hback⟩ := hown.at law82 (t := 106) Try.underlying106 (zero74 _) (by unfold maxLen; omega) hkey
      have HZS : Aside0 (zs = grp placeL (placeL x) (l0.take i)) := Aside0.mk (says_at HSY.out (plit_key _) hat hoi)
      have hbz : w.heap.size < wo.heap.size := by
        obtain ⟨es, clock, h3, _⟩ := hown
        exact (Array.getElem?_eq_some_iff.1 h3).1
      have hvm : v.ownBlock ≠ some w.heap.size := fun e => by have := (hoi.1.lt _ e).1; omega
      have hvb12 : v.ownBlock ≠ some wo.heap.size := fun e => by have := (hoi.1.lt _ e).2; omega
      have hw1z := HW1.out
      have hvb13 : v.ownBlock ≠ some w1.heap.size := fun e => by have := (hoi.1.lt _ e).2; omega
      have hlk : ∀ w' : World, wo.grownBy w' v.ownBlock → (Instr.lookup 106 (.map (some w.heap.size)) (.agg #[.int .i64 x.f0, .string x.f1]) false).run Try.prog w' = .ok v w' :=
        fun w' hg => lookup_stays hown law82 Try.underlying106 zero74 hkey (hg.block _ hbz (fun e => hvm e.symm)) hlk0
      have hb2 : Below wo.heap.size wo (w1.alloc (.cells #[.int .i64 x.f0, .string x.f1] 82 (0, 0))).drew := ((below_alloc (below_alloc (Below.refl wo.heap.size wo) _ |>.trans (HB1.out.mono (by simp))) _)).drew
      have HGB := Aside0.mk (grown_of_below hb2 v.ownBlock)
      have HOI := Aside0.mk (hoi.kept (grown_of_below hb2 none) (by cases v.ownBlock <;> simp))
      have BK13 := Aside0.mk (blk_drew (blk_new w1 (.cells #[.int .i64 x.f0, .string x.f1] 82 (0, 0))))
      have n0_ := Aside0.mk (blk_drew (blk_alloc BK12.out (.cells #[.int .i64 x.f0, .string x.f1] 82 (0, 0))))
      have hw2z : wo.heap.size < (w1.alloc (.cells #[.int .i64 x.f0, .string x.f1] 82 (0, 0))).drew.heap.size := by have := HGB.out.size; have := blk_lt BK13.out; omega
      clear BK12 hat hlk0 hown HD hb2
      have BK12 := n0_
      clear n0_
      refine start_ (n := 10) (S := fun w' => wo.grownBy w' v.ownBlock ∧ w'.cell? ⟨w1.heap.size, 0, none⟩ = some (.int .i64 x.f0) ∧ w'.cell? ⟨w1.heap.size, 1, none⟩ = some (.string x.f1) ∧ w'.cell? ⟨wo.heap.size, 2, none⟩ = some (.int .i64 x.f2)) (ds := [9]) #[false, false, false, false, false, false, false, false, false, false] (by kernel_rfl) rfl rfl ⟨HGB.out, (blk_cell BK13.out 0).trans rfl, (blk_cell BK13.out 1).trans rfl, (blk_cell BK12.out 2).trans rfl⟩ (fun hHeld => ?_)
      generalize (w1.alloc (.cells #[.int .i64 x.f0, .string x.f1] 82 (0, 0))).drew = w2 at HGB HOI BK13 BK12 hHeld hw2z ⊢
      refine pure_ (i := 0) (N := some 31) (v := ?_) (a' := ?_) #[true, false, false, false, false, false, false, false, false, false] rfl rfl (by kernel_rfl) (fun _ _ _ h => h) (Or.inl ⟨by rfl, ?_⟩) ?_ ?_
      rotate_left
      · intro w'
        go_simp
        with_reducible rfl
      rotate_left
      · simp only [Act.put, List.setIfInBounds_toArray, List.set_cons_zero, List.set_cons_succ, i64_w, i32_w]
        rfl
      refine pure_ (i := 2) (N := some 33) (v := ?_) (a' := ?_) #[true, false, true, false, false, false, false, false, false, false] rfl rfl (by kernel_rfl) (fun _ _ _ h => h) (Or.inl ⟨by rfl, ?_⟩) ?_ ?_
      rotate_left
      · intro w'
        go_simp
        with_reducible rfl
      rotate_left
      · simp only [Act.put, List.setIfInBounds_toArray, List.set_cons_zero, List.set_cons_succ, i64_w, i32_w]
        rfl
      refine pure_ (i := 5) (N := some 36) (v := ?_) (a' := ?_) #[true, false, true, false, false, true, false, false, false, false] rfl rfl (by kernel_rfl) (fun _ _ _ h => h) (Or.inl ⟨by rfl, ?_⟩) ?_ ?_
      rotate_left
      · intro w'
        go_simp
        with_reducible rfl
      rotate_left
      · simp only [Act.put, List.setIfInBounds_toArray, List.set_cons_zero, List.set_cons_succ, i64_w, i32_w]
        rfl
      refine take_ (i := 1) (N := some 32) (v := ?_) (a' := ?_) #[true, true, true, false, false, true, false, false, false, false] rfl rfl (by kernel_rfl) (fun _ _ _ h => h) (Or.inl ⟨by rfl, ?_⟩) hHeld ?_ ?_
      rotate_left
      · rintro w' ⟨s0, s1, s2, s3⟩
        go_simp
        with_reducible rfl
      rotate_left
      · simp only [Act.put, List.setIfInBounds_toArray, List.set_cons_zero, List.set_cons_succ, i64_w, i32_w]
        rfl
      refine take_ (i := 3) (N := some 34) (v := ?_) (a' := ?_) #[true, true, true, true, false, true, false, false, false, false] rfl rfl (by kernel_rfl) (fun _ _ _ h => h) (Or.inl ⟨by rfl, ?_⟩) hHeld ?_ ?_
      rotate_left
      · rintro w' ⟨s0, s1, s2, s3⟩
        go_simp
        with_reducible rfl
      rotate_left
      · simp only [Act.put, List.setIfInBounds_toArray, List.set_cons_zero, List.set_cons_succ, i64_w, i32_w]
        rfl
      refine take_ (i := 6) (N := some 37) (v := ?_) (a' := ?_) #[true, true, true, true, false, true, true, false, false, false] rfl rfl (by kernel_rfl) (fun _ _ _ h => h) (Or.inl ⟨by rfl, ?_⟩) hHeld ?_ ?_
      rotate_left
      · rintro w' ⟨s0, s1, s2, s3⟩
        go_simp
        with_reducible rfl
      rotate_left
      · simp only [Act.put, List.setIfInBounds_toArray, List.set_cons_zero, List.set_cons_succ, i64_w, i32_w]
        rfl
      refine take_ (i := 4) (N := some 35) (v := ?_) (a' := ?_) #[true, true, true, true, true, true, true, false, false, false] rfl rfl (by kernel_rfl) (fun _ _ _ h => h) (Or.inl ⟨by rfl, ?_⟩) hHeld ?_ ?_
      rotate_left
      · rintro w' ⟨s0, s1, s2, s3⟩
        have hrun_ := hlk w' s0
        go_simp
        with_reducible rfl
      rotate_left
      · simp only [Act.put, List.setIfInBounds_toArray, List.set_cons_zero, List.set_cons_succ, i64_w, i32_w]
        rfl
      refine one_ (i := 7) (N := some 38) #[true, true, true, true, true, true, true, true, false, false] rfl rfl (by kernel_rfl) (by decide) (fun K hK => ?_)
      refine value_ (w1 := ?_) (v := ?_) (by rfl) rfl ?_ ?_
      rotate_left 2
      · go_simp
        constructor
        · rfl
        · rfl
      have n0_ := Aside0.mk (HGB.out.trans (World.grownBy_alloc w2 (.cells #[.int .i64 x.f2] 3 (0, 0)) v.ownBlock))
      have n1_ := Aside0.mk (blk_alloc BK13.out (.cells #[.int .i64 x.f2] 3 (0, 0))); have n2_ := Aside0.mk (blk_alloc BK12.out (.cells #[.int .i64 x.f2] 3 (0, 0)))
      have HOI2 := Aside0.mk (HOI.out.alloc (.cells #[.int .i64 x.f2] 3 (0, 0)))
      clear HGB BK13 BK12
      have HGB := n0_; have BK13 := n1_; have BK12 := n2_
      clear n0_ n1_ n2_
      refine hK.out _ _ ⟨HGB.out, (blk_cell BK13.out 0).trans rfl, (blk_cell BK13.out 1).trans rfl, (blk_cell BK12.out 2).trans rfl⟩ (fun hHeld => ?_)
      clear hK K
      refine norm_ (a' := ?_) ?_ ?_
      rotate_left
      · show Act.put _ (some 38) _ = _
        simp only [Act.put, List.setIfInBounds_toArray, List.set_cons_zero, List.set_cons_succ, i64_w, i32_w]
        rfl
      refine one_ (i := 8) (N := some 39) #[true, true, true, true, true, true, true, true, true, false] rfl rfl (by kernel_rfl) (by decide) (fun K hK => ?_)
      refine append_ (by rfl) rfl _ _ 74 rfl (w.heap.size + 1) 3 i0 (.int .i64 0) 1 8 Try.underlying74 hi hz0 hz1 hz2 rfl (by decide) _ _ _ rfl HOI2.out.1 ⟨w2.heap.size, 0, none⟩ 1 1 [.int .i64 x.f2] rfl rfl (cell_one_new _ _ _) (ints_oneCell .i64 [x.f2]) (by unfold maxLen; omega) (by omega) (by simp; omega) ?_
      intro v' w3 hown' hgrow hloc
      have n0_ := Aside0.mk (HGB.out.trans hgrow)
      have n1_ := Aside0.mk ((hgrow.block _ (blk_lt BK13.out) (fun e => hvb13 e.symm)).trans BK13.out); have n2_ := Aside0.mk ((hgrow.block _ (blk_lt BK12.out) (fun e => hvb12 e.symm)).trans BK12.out)
      have HLOC := Aside0.mk (show v'.ownBlock = v.ownBlock ∨ ∃ g, v'.ownBlock = some g ∧ wo.heap.size ≤ g from hloc.imp id (fun h => ⟨_, h, by simp; omega⟩))
      have HOI3 := Aside0.mk (HOI.out.appended hown' HWX.out.2)
      clear HGB BK13 BK12 hown' hgrow hloc
      have HGB := n0_; have BK13 := n1_; have BK12 := n2_
      clear n0_ n1_ n2_
      refine hK.out _ _ ⟨HGB.out, (blk_cell BK13.out 0).trans rfl, (blk_cell BK13.out 1).trans rfl, (blk_cell BK12.out 2).trans rfl⟩ (fun hHeld => ?_)
      clear hK K
      refine norm_ (a' := ?_) ?_ ?_
      rotate_left
      · show Act.put _ (some 39) _ = _
        simp only [Act.put, List.setIfInBounds_toArray, List.set_cons_zero, List.set_cons_succ, i64_w, i32_w]
        rfl
      refine last_ (i := 9) (N := none) #[true, true, true, true, true, true, true, true, true, true] rfl rfl (by kernel_rfl) (by decide) (fun K hK => ?_)
      refine mapUpdate_ (by rfl) rfl _ _ _ 106 rfl v' hback rfl rfl rfl HGB.out HOI3.out (by simp; omega) HLOC.out ?_
      intro w4 hown3 hgrow3
      have HO4 := Aside0.mk hown3
      have HG4 := Aside0.mk hgrow3
      clear hown3 hgrow3
      refine hK.out _ _ ?_
      clear hK K
      refine norm_ (a' := ?_) ?_ ?_
      rotate_left
      · show Act.put _ (none) _ = _
        simp only [Act.put, List.setIfInBounds_toArray, List.set_cons_zero, List.set_cons_succ, i64_w, i32_w]
        rfl
      refine done_ (by kernel_rfl) ?_
      go_wp2_with fail
      have HB3 := Aside0.mk (Below.groups HB.out hoi HGB.out HG4.out (by omega) (by omega) (Nat.le_refl _))
      have HOW := Aside0.mk (show ∃ D : DataW Unit, w4.ownsGroups Try.prog 82 (w.heap.size + 1) 3 .i64 w.heap.size (i + 1) D ∧ Says placeL D (l0.take (i + 1)) from ⟨_, HO4.out, by
        rw [HTK.out]
        refine says_step HSY.out (fun y => plit_key _) x _ ?_
        have h1 := HOI3.out.datum_pos (H := Unit) (by simp)
        rw [h1, HZS.out, gd_pos (by simp)]⟩)
      clear hback hoi hzl HGB BK13 BK12 HOI HOI2 HOI3 HLOC HO4 HG4 hlk hvm hvb12 hvb13
      go_roundg (l0.length - (i + 1))
      case measure => omega
      case rel => exact ⟨i + 1, by go_num, by omega, Nat.le_refl _, HOW, HB3⟩
    · have hltz : ¬ (i : Int) < (l0.length : Int) := by omega
      obtain rfl : i = l0.length := by omega
      rw [List.take_length] at HD
      obtain ⟨D, hown, hsay⟩ := HD.out
      have HSY := Aside0.mk hsay
      have HOG := Aside0.mk hown
      have hmap : wo.ownsMap Try.prog 82 (rowElem wo (w.heap.size + 1) 3 .i64) w.heap.size l0.length D := by
        obtain ⟨es, clock, h1, h2, h3, h4, _⟩ := hown
        exact ⟨es, clock, h1, h2, h3, h4⟩
      clear hown hsay HD hi2 hkx hltz hlt
      have hshun : wo.Shuns w.heap.size (fun g => wo.heap.size ≤ g) := by
        obtain ⟨es, clock, h1, F, _⟩ := HOG.out
        intro es' clock' h2 y hy g hg
        rw [h1] at h2
        cases h2
        obtain ⟨z, hz⟩ := F.reads y hy
        obtain ⟨u, hu, _⟩ := WideElems.rd_val hz
        obtain ⟨zs, ho, _⟩ := rowElem_inv hu
        have := (ho.1.lt g hg).2
        omega
      have hdl : Maps.size D ≤ l0.length := by
        obtain ⟨es, clock, h1, F, h3, rfl, _⟩ := HOG.out
        rw [Maps.size_eq, length_sorted]
        simpa using h3
      have hbz : w.heap.size < wo.heap.size := by
        obtain ⟨es, clock, h3, _⟩ := HOG.out
        exact (Array.getElem?_eq_some_iff.1 h3).1
      have HSH := Aside0.mk hshun
      clear hshun
      go_wp2_with (at_range; refine wpList_range_own _ rfl _ 106 rfl 82 74 law82 Try.underlying106 _ w.heap.size l0.length D rfl hmap ?_; intro w1 hrg hgr hsz1)
      have HRG := Aside0.mk hrg
      have HOG1 := Aside0.mk (HOG.out.kept hgr (by simp) (fun es clock hb x hx => by cases x.val.ownBlock <;> simp))
      have HSH1 := Aside0.mk (HSH.out.kept hgr hbz (by simp))
      have HB1 := Aside0.mk (HB.out.grown hgr HB.out.size (fun j hj => by cases hj))
      have hw1z : w1.heap.size = wo.heap.size + 1 := hsz1
      clear hrg hgr HOG HSH hmap hsz1
      generalize wo.heap.size = r at *
      have hw1a : r < w1.heap.size := by omega
      clear hw1z
      go_frame
      go_loopg [14] (Maps.size D) (fun kx s14 wr => ∃ (left : Lit → Bool) (cnt : Nat) (ks : List Pl), cnt ≤ kx ∧ ks.length + cnt ≤ l0.length ∧ Aside0 (wr.ranges Try.prog 82 (rowElem wo (w.heap.size + 1) 3 .i64) w.heap.size r l0.length D left cnt) ∧ Aside0 (k82.R 82 wr (r + 1) (fun _ => True) s14 ks) ∧ Aside0 (KeysP D left ks) ∧ Aside0 (wr.ownsGroups Try.prog 82 (w.heap.size + 1) 3 .i64 w.heap.size l0.length D) ∧ Aside0 (wr.Shuns w.heap.size (fun g => r ≤ g)) ∧ Aside0 (Below w.heap.size w wr ∧ r < wr.heap.size))
      case atStart => exact ⟨_, _, [], Nat.le_refl _, by simpa using hdl, HRG, Aside0.mk (Kd.R_nil _ _ _ _ _), Aside0.mk (keysP_start D), HOG1, HSH1, Aside0.mk ⟨HB1.out, hw1a⟩⟩
      case round =>
        clear HRG HOG1 HSH1 HB1
        obtain ⟨left, cnt, ks, hcnt, hkl, HRG, HK, HKS, HOG, HSH, HB1⟩ := hrel
        obtain ⟨wi, rfl⟩ : ∃ wi : World, wi = wr := ⟨_, rfl⟩
        have HRR := HRG.out
        go_wp2_with (at_next; refine wpList_next_ranges _ rfl _ rfl 82 law82 (rowElem wo (w.heap.size + 1) 3 .i64) plV (id : Value → Value) ?_ (fun v y _ => ⟨v, rfl⟩) w.heap.size r l0.length D left cnt rfl HRR ?_ ?_)
        · intro key kl hk
          obtain ⟨k, rfl, _⟩ := keyOf82_inv hk
          exact ⟨k, rfl⟩
        · -- nothing is left
          intro hc0 hl0
          have HKL : Aside0 (∀ c, PlOk c → (c ∈ ks ↔ ∃ x ∈ l0, placeL x = plit c)) := Aside0.mk (fun c hc => by
            rw [HKS.out.mem c hc, hl0, HSY.out.has _ (plit_key c)]; simp)
          have hks0 : ks.length ≤ l0.length := by omega
          clear hc0 hl0 HRR HRG hkl hcnt
          obtain ⟨Ak, ck, rfl⟩ := Kd.R_slice HK.out
          go_upto_region 14 with (go_at_call 63; refine (sortPls_row wi (r + 1) (fun _ => True) (.slice Ak ks.length ck) ks HK.out (by omega)).mono ?_; rintro e w2 ⟨rfl, m, hml, hR, hg, hperm, hsrt⟩; have HM := Aside0.mk hR; have HG2 := Aside0.mk hg; have HP := Aside0.mk hperm; have HS := Aside0.mk hsrt; have HML := Aside0.mk hml; clear hR hg hperm hsrt hml)
          have hbs : w.heap.size < wi.heap.size ∧ r < wi.heap.size ∧ w.heap.size < r := by
            obtain ⟨es, clock, h3, _⟩ := HOG.out
            exact ⟨(Array.getElem?_eq_some_iff.1 h3).1, HB1.out.2, hbz⟩
          have hrow : ∀ j, (Value.slice Ak ks.length ck).ownBlock = some j → r + 1 ≤ j := fun j hj => Kd.R_base HK.out j hj
          have HOG2 := Aside0.mk (HOG.out.kept HG2.out (fun e => by have := hrow _ e.symm; omega) (HSH.out.rowsOff (fun j hj => by have := hrow _ hj; omega)))
          have HSH2 := Aside0.mk (HSH.out.kept HG2.out hbs.1 (fun e => by have := hrow _ e.symm; omega))
          have HB2 := Aside0.mk (show Below w.heap.size w w2 ∧ r < w2.heap.size from ⟨HB1.out.1.grown HG2.out (by omega) (fun j hj => by have := hrow _ hj; omega), by have := HG2.out.size; omega⟩)
          have HKEY : Aside0 (PlaceList l0 m) := Aside0.mk ⟨(HP.out.nodup_iff).2 HKS.out.nodup, fun c hc => HKS.out.ok c (HP.out.mem_iff.1 hc), fun c hc => by rw [HP.out.mem_iff]; exact HKL.out c hc, HS.out⟩
          clear HOG HSH HB1 HKS HKL HP HS HK HG2 hrow
          go_wp2
          go_loopg [16, 56] ks.length (fun kx s16 s56 wr => ∃ (j : Nat), s56 = .int .i64 j ∧ j ≤ ks.length ∧ ks.length - j ≤ kx ∧ Aside0 (k32.R 32 wr (r + 1) (fun _ => True) s16 (nets l0 (m.take j))) ∧ Aside0 (∀ k ∈ m.take j, (sumF 0 (grp placeL (plit k) l0)).2 = 0) ∧ Aside0 (k82.R 82 wr (r + 1) (fun _ => True) (.slice Ak ks.length ck) m) ∧ Aside0 (wr.ownsGroups Try.prog 82 (w.heap.size + 1) 3 .i64 w.heap.size l0.length D) ∧ Aside0 (wr.Shuns w.heap.size (fun g => r ≤ g)) ∧ Aside0 (Below w.heap.size w wr ∧ r < wr.heap.size))
          case atStart => exact ⟨0, rfl, Nat.zero_le _, by omega, Aside0.mk (Kd.R_nil _ _ _ _ _), Aside0.mk (by simp), HM, HOG2, HSH2, HB2⟩
          case round =>
            clear HM HOG2 HSH2 HB2
            obtain ⟨j, rfl, hj, hkx, HO, HZ, HM, HOG, HSH, HB⟩ := hrel
            obtain ⟨wl, rfl⟩ : ∃ wl : World, wl = wr := ⟨_, rfl⟩
            by_cases hlt : j < ks.length
            · have hltz : (j : Int) < (ks.length : Int) := by omega
              have hjm : j < m.length := by rw [HML.out]; exact hlt
              have hM := HM.out
              rw [← HML.out] at hM
              obtain ⟨ad, hA, hx0, hx1⟩ := at_T82 (Kd.R_reads' hM).2.2 (j : Int) (by omega) (by omega)
              rw [Int.toNat_natCast, show rd_T82 m (j : Int) = m[j] by simp [rd_T82, hjm]] at hx0 hx1
              have hkm : m[j] ∈ m := List.getElem_mem hjm
              have hok : PlOk m[j] := HKEY.out.ok _ hkm
              have HTK := Aside0.mk (show m.take (j + 1) = m.take j ++ [m[j]] from List.take_succ_eq_append_getElem hjm)
              have HKM := Aside0.mk hkm
              generalize m[j] = key at *
              clear hkm hM
              subst hA
              have hkey : keyOf Try.prog 82 (.agg #[.int .i64 key.d, .string key.c]) = some (plit key) := keyOf82 key hok
              obtain ⟨sm, ft, hsf⟩ : ∃ sm ft, sumF 0 (grp placeL (plit key) l0) = (sm, ft) := ⟨_, _, rfl⟩
              have HSF := Aside0.mk hsf
              have hft := sumF_two (grp placeL (plit key) l0) 0
              rw [hsf] at hft
              have HFT := Aside0.mk hft
              clear hsf hft hok
              have hba : Below wl.heap.size wl (wl.alloc (.cells #[.int .i64 key.d, .string key.c] 82 (0, 0))) := below_alloc (Below.refl _ _) _
              have HOa := Aside0.mk (Kd.R_below HO.out hba)
              have HMa := Aside0.mk (Kd.R_below HM.out hba)
              have HOGa := Aside0.mk (HOG.out.kept (grown_of_below hba none) (by simp) (fun es clock hb x hx => by cases x.val.ownBlock <;> simp))
              have HSHa := Aside0.mk (HSH.out.kept (grown_of_below hba none) (by have := HB.out.2; omega) (by simp))
              have HBa := Aside0.mk (show Below w.heap.size w (wl.alloc (.cells #[.int .i64 key.d, .string key.c] 82 (0, 0))) ∧ r < (wl.alloc (.cells #[.int .i64 key.d, .string key.c] 82 (0, 0))).heap.size from ⟨HB.out.1.trans (hba.mono (by have := HB.out.2; omega)), by have := HB.out.2; simp; omega⟩)
              have BKk := Aside0.mk (blk_new wl (.cells #[.int .i64 key.d, .string key.c] 82 (0, 0)))
              clear HO HM HOG HSH HB hba
              have hown1 := HOGa.out
              go_upto_region 19 with (first | (at_lookup; refine wpList_lookup_groups _ rfl _ _ 106 rfl 82 74 3 .i64 law82 Try.underlying106 (zero74 _) (w.heap.size + 1) w.heap.size l0.length D rfl hown1 (by unfold maxLen; omega) _ _ rfl hkey ?_; intro v zs hat hoi hzl hback; obtain ⟨Az, cz, rfl⟩ := Kd.R_slice (Kd.R_of_own (enc := Value.int .i64) (h1 := fun _ => rfl) (ok := fun _ => True) hoi.1 (fun _ _ => trivial)); have hzs := says_at HSY.out (plit_key _) hat hoi; have HRZ := Aside0.mk (Kd.R_of_own (enc := Value.int .i64) (h1 := fun _ => rfl) (ok := fun _ => True) hoi.1 (fun _ _ => trivial)); have HZS := Aside0.mk hzs; clear hat hown1 hback hoi hzs) | (go_at_call 61; obtain ⟨kk, hkk⟩ := numSum_f zs (by omega); refine (num_Sum.calls kk Az cz zs sm ft _ (Kd.R_reads' HRZ.out).2.2 (Kd.R_reads' HRZ.out).2.1 (by rw [hkk, HZS.out, HSF.out])).mono ?_; clear hkk kk; rintro e w3 ⟨rfl, hd⟩; have HD3 := Aside0.mk hd.below; clear hd))
              have HBB := Aside0.mk (HBa.out.1.trans (HD3.out.mono (by have := HBa.out.2; omega)))
              rcases HFT.out with h0 | h1
              · obtain rfl : ft = 0 := h0
                have HO3 := Aside0.mk (Kd.R_below HOa.out HD3.out)
                have HM3 := Aside0.mk (Kd.R_below HMa.out HD3.out)
                have HOG3 := Aside0.mk (HOGa.out.kept (grown_of_below HD3.out none) (by simp) (fun es clock hb x hx => by cases x.val.ownBlock <;> simp))
                have HSH3 := Aside0.mk (HSHa.out.kept (grown_of_below HD3.out none) (by have := HBa.out.2; omega) (by simp))
                have hr3 : r < w3.heap.size := by have := HD3.out.size; have := HBa.out.2; omega
                have hlen : (nets l0 (m.take j)).length ≤ l0.length := by unfold nets; rw [List.length_map, List.length_take]; omega
                have hk3 := blk_below BKk.out HD3.out
                have hkd : w3.cell? ⟨wl.heap.size, 0, none⟩ = some (.int .i64 key.d) := (blk_cell hk3 0).trans rfl
                have hkc : w3.cell? ⟨wl.heap.size, 1, none⟩ = some (.string key.c) := (blk_cell hk3 1).trans rfl
                clear HOa HMa HOGa HSHa HFT HRZ HZS hx0 hx1 hkey hk3 BKk
                go_wp2_with (first | (go_at_call 49; refine (Net3.calls key sm _).mono ?_; rintro e w4 ⟨rfl, hb4⟩; have HB4 := Aside0.mk hb4; have HO4 := Aside0.mk (Kd.R_below HO3.out HB4.out); have hwz4 : r + 1 ≤ w4.heap.size := (by have := hb4.size; omega); clear hb4) | ((with_reducible refine gate_builtin (b := .append) (xs := #[.tmp 70, .tmp 75]) rfl ?_); at_builtin; refine Kd.R_append k32 (w0 := w4) (r + 1) rfl (.tmp 70) (.tmp 75) 22 32 (.agg #[.int .i64 0, .string ⟨#[]⟩, .int .i64 0]) 32 rfl Try.underlying22 info32 rfl (by decide) (by omega) u16 (nets l0 (m.take j)) ⟨key.d, key.c, sm⟩ [.int .i64 key.d, .string key.c, .int .i64 sm] (fun _ => True) (fun _ => False) rfl rfl (k32_mkM _ _ _ ⟨key.d, key.c, sm⟩) (fun _ h => h.elim) (fun _ _ => trivial) HO4.out (Below.refl _ _) hwz4 (by omega) ?_; intro v' w5 ho hb hg hat2; have HO5 := Aside0.mk ho; have HG5 := Aside0.mk hg; clear ho hb hg hat2))
                have hrow : ∀ q, u16.ownBlock = some q → r + 1 ≤ q := fun q hq => Kd.R_base HO4.out q hq
                have hbs : w.heap.size < w3.heap.size := by omega
                have HG4 := Aside0.mk (grown_of_below HB4.out none)
                have HSH4 := Aside0.mk (HSH3.out.kept HG4.out hbs (by simp))
                have HOG5 := Aside0.mk ((HOG3.out.kept HG4.out (by simp) (fun es clock hb x hx => by cases x.val.ownBlock <;> simp)).kept HG5.out (fun e => by have := hrow _ e.symm; omega) (HSH4.out.rowsOff (fun q hq => by have := hrow _ hq; omega)))
                have HSH5 := Aside0.mk (HSH4.out.kept HG5.out (by omega) (fun e => by have := hrow _ e.symm; omega))
                have HB5 := Aside0.mk (show Below w.heap.size w w5 ∧ r < w5.heap.size from ⟨(HBB.out.trans (HB4.out.mono (by omega))).grown HG5.out (by omega) (fun q hq => by have := hrow _ hq; omega), by have := HG5.out.size; omega⟩)
                have HM5 := Aside0.mk (Kd.R_over (Kd.R_below HM3.out HB4.out) HO4.out pl_ne32 HG5.out)
                go_roundg (ks.length - (j + 1))
                case measure => omega
                case rel =>
                  refine ⟨j + 1, by go_num, by omega, Nat.le_refl _, Aside0.mk ?_, Aside0.mk ?_, HM5, HOG5, HSH5, HB5⟩
                  · rw [HTK.out]
                    have e : nets l0 (m.take j ++ [key]) = nets l0 (m.take j) ++ [⟨key.d, key.c, sm⟩] := by
                      unfold nets; rw [List.map_append, List.map_singleton, HSF.out]
                    rw [e]; exact HO5.out
                  · intro k hk
                    rw [HTK.out, List.mem_append] at hk
                    rcases hk with hk | hk
                    · exact HZ.out k hk
                    · rw [List.mem_singleton.1 hk, HSF.out]
              · cases h1
                go_wp2
                go_ret2
                exact ⟨_, [], 1, rfl, Kd.R_nil _ _ _ _ _, HBB.out, by simp, m, HKEY.out, .inr ⟨rfl, rfl, key, HKM.out, by rw [HSF.out]⟩⟩
            · have hltz : ¬ (j : Int) < (ks.length : Int) := by omega
              obtain rfl : j = ks.length := by omega
              rw [← HML.out, List.take_length] at HO HZ
              go_wp2
              go_ret2
              exact ⟨_, nets l0 m, 0, rfl, Kd.R_lower HO.out (by omega), HB.out.1, by unfold nets; rw [List.length_map, HML.out]; exact hks0, m, HKEY.out, .inl ⟨rfl, rfl, HZ.out⟩⟩
        · -- a key has come
          intro x c kl y1 y2 w1 cnt1 hkx hlk hR hat hrg1 hlt hg1 hs1 hen
          obtain ⟨hxs, rfl⟩ := keyOf82_of hkx
          have hhas := Maps.has_true_of_atKey hat
          have HKS2 := Aside0.mk (keysP_step HKS.out x hxs hlk hhas)
          have hg1a : wi.grownBy (w1.alloc (.cells #[.int .i64 x.d, .string x.c] 82 (0, 0))) (some r) := hg1.trans (World.grownBy_alloc w1 _ _)
          have HK1 := Aside0.mk (Kd.R_mono (Kd.R_grown (Kd.R_bound HK.out) hg1a (fun k hk e => by cases e; have := hk.2.1; omega)) (ok' := fun _ => True) (fun _ _ => trivial))
          have hbs : w.heap.size < wi.heap.size ∧ r < wi.heap.size ∧ w.heap.size < r := by
            obtain ⟨es, clock, h3, _⟩ := HOG.out
            exact ⟨(Array.getElem?_eq_some_iff.1 h3).1, HB1.out.2, hbz⟩
          have HOG2 := Aside0.mk (HOG.out.kept hg1a (fun e => by cases e; omega) (HSH.out.rowsOff (fun j hj => by cases hj; exact Nat.le_refl _)))
          have HSH2 := Aside0.mk (HSH.out.kept hg1a hbs.1 (fun e => by cases e; omega))
          have HB2 := Aside0.mk (HB1.out.1.grown hg1a (by omega) (fun j hj => by cases hj; omega))
          have HRG2 := Aside0.mk (hrg1.kept (World.grownBy_alloc w1 (.cells #[.int .i64 x.d, .string x.c] 82 (0, 0)) none) (by simp) (by simp))
          have hwz : r + 1 ≤ (w1.alloc (.cells #[.int .i64 x.d, .string x.c] 82 (0, 0))).heap.size := by simp; omega
          clear hrg1 HRG HRR HK HKS HOG HSH hR hat hg1 hg1a hkx hlk hhas hs1
          unfold plV at hen ⊢
          have hsW := Aside0.mk (show (w1.alloc (.cells #[.int .i64 x.d, .string x.c] 82 (0, 0))).heap.size = w1.heap.size + 1 by simp)
          go_wp2_with ((with_reducible refine gate_builtin (b := .append) (xs := #[.tmp 47, .tmp 49]) rfl ?_); at_builtin; refine Kd.R_append k82 (w0 := (w1.alloc (.cells #[.int .i64 x.d, .string x.c] 82 (0, 0)))) (r + 1) rfl (.tmp 47) (.tmp 49) 107 82 (.agg #[.int .i64 0, .string ⟨#[]⟩]) 24 rfl Try.underlying107 info82 rfl (by decide) (by omega) u14 ks x [.int .i64 x.d, .string x.c] (fun _ => True) (fun _ => False) rfl (by rw [hsW.out]; rfl) (k82_mkM _ _ _ x) (fun _ h => h.elim) (fun _ _ => trivial) HK1.out (Below.refl _ _) hwz (by omega) ?_; intro v' w2 ho hb hg hat2; have HK2 := Aside0.mk ho; have HG := Aside0.mk hg; clear ho hb hg hat2)
          have hrow : ∀ j, u14.ownBlock = some j → r + 1 ≤ j := fun j hj => Kd.R_base HK1.out j hj
          have HRG3 := Aside0.mk (HRG2.out.kept HG.out (fun e => by have := hrow _ e.symm; omega) (fun e => by have := hrow _ e.symm; omega))
          have HOG3 := Aside0.mk (HOG2.out.kept HG.out (fun e => by have := hrow _ e.symm; omega) (HSH2.out.rowsOff (fun j hj => by have := hrow _ hj; omega)))
          have HSH3 := Aside0.mk (HSH2.out.kept HG.out (by omega) (fun e => by have := hrow _ e.symm; omega))
          have HB3 := Aside0.mk (show Below w.heap.size w w2 ∧ r < w2.heap.size from ⟨HB2.out.grown HG.out (by omega) (fun j hj => by have := hrow _ hj; omega), by have := HG.out.size; omega⟩)
          go_roundg cnt1
          case measure => omega
          case rel => exact ⟨_, cnt1, ks ++ [x], Nat.le_refl _, by simp; omega, HRG3, HK2, HKS2, HOG3, HSH3, HB3⟩
end Go.Proofs.Ytdfndbegifdejaa.PFlowExact
