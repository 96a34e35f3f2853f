import Derived.Test.YtdfndbegifdejaaFym
import Derived.Shelf.SlSortCmp.WholeK
import Derived.Deep.DeepCutAuto
section
namespace Go.Proofs.Ytdfndbegifdejaa.PFlowExact
set_option linter.unusedVariables false
set_option linter.unusedSimpArgs false
open Go.RowKit Go.Proofs.YtdfndbegifdejaaW.PrintWords Go.Proofs.YtdfndbegifdejaaW.PrintLast Go.Proofs.YtdfndbegifdejaaW.PrintMore Go.Proofs.YtdfndbegifdejaaMine Go.Proofs Go.Shelf Go.Sort Go.Lib
open Go.Proofs.Ytdfndbegifdejaa.GNetC (pcmp netCmp c3)
instance : Inhabited Pl := ⟨⟨0, ByteArray.empty⟩⟩
def encP (x : Pl) : List Value := [.int .i64 x.d, .string x.c]
def k82 : Kd Pl := Kd.iso (Kd.pair (Kd.int .i64) Kd.string) (fun x : Pl => (x.d, x.c))
theorem k82_open {w : World} {x : Pl} {cs : List Value} (h : k82.K w x cs) : cs = [.int .i64 x.d, .string x.c] := by
  obtain ⟨_, _, rfl, rfl, rfl⟩ := h
  exact rfl
theorem k82_mkM (w : World) (base : Nat) (ok : Nat → Prop) (x : Pl) : k82.M w base ok x [.int .i64 x.d, .string x.c] := ⟨[.int .i64 x.d], [.string x.c], rfl, rfl, rfl⟩
def z82 : Pl := ⟨0, ⟨#[]⟩⟩
def rd_T82 (xs : List Pl) (i : Int) : Pl := xs.getD i.toNat z82
theorem at_T82 {w : World} {A : Option Addr} {n : Nat} {xs : List Pl} (h : Kd.C k82 w A n xs) (i : Int) (h0 : 0 ≤ i) (h1 : i < n) : ∃ ad , A = some ad ∧ w.cell? (ad.add (i.toNat * 2)) = some (.int .i64 (rd_T82 xs i).d) ∧ w.cell? ⟨(ad.add (i.toNat * 2)).block, (ad.add (i.toNat * 2)).off + 1, none⟩ = some (.string (rd_T82 xs i).c) := by
  obtain ⟨ad, c, e, _, hK, hc0⟩ := Kd.C_get h z82 i h0 h1
  have hc : ∀ j u, c[j]? = some u → w.cell? (ad.add (i.toNat * 2 + j)) = some u := hc0
  obtain rfl := k82_open hK
  exact ⟨ad, e, hc 0 _ rfl, by rw [← add_field _ _ 1 (by omega)]; exact hc 1 _ rfl⟩
theorem flat82 : Flat0 k82 encP := ⟨fun h => k82_open h, fun w b ok x => k82_mkM w b ok x⟩
def pless (a b : Pl) : Bool := decide (a.d < b.d) || (decide (a.d = b.d) && sless a.c b.c)
theorem ltOf_pcmp : ltOf pcmp = pless := by
  funext a b
  have hs : ∀ x y, decide (scmp x y < 0) = sless x y := fun x y => congrFun (congrFun ltOf_scmp x) y
  unfold ltOf pcmp pless
  rw [← hs]
  unfold c3
  by_cases h1 : a.d < b.d
  · simp [h1]
  · by_cases h2 : b.d < a.d
    · have h3 : a.d ≠ b.d := by omega
      simp [h1, h2, h3]
    · have h3 : a.d = b.d := by omega
      simp [h1, h2, h3]
theorem sless_trans {a b c : ByteArray} (h1 : sless a b = true) (h2 : sless b c = true) : sless a c = true := swo_sless.trans a b c h1 h2
theorem swo_pless : SWO pless where
  irrefl a := by simp [pless, swo_sless.irrefl]
  trans a b c h1 h2 := by
    simp only [pless, Bool.or_eq_true, Bool.and_eq_true, decide_eq_true_eq] at *
    rcases h1 with h1 | ⟨h1, h1'⟩ <;> rcases h2 with h2 | ⟨h2, h2'⟩
    · left; omega
    · left; omega
    · left; omega
    · exact .inr ⟨by omega, sless_trans h1' h2'⟩
  ntrans a b c h1 h2 := by
    simp only [pless, Bool.or_eq_false_iff, Bool.and_eq_false_iff, decide_eq_false_iff_not] at *
    obtain ⟨h1, h1'⟩ := h1
    obtain ⟨h2, h2'⟩ := h2
    refine ⟨by omega, ?_⟩
    by_cases e : a.d = c.d
    · right
      have e1 : a.d = b.d := by omega
      have e2 : b.d = c.d := by omega
      rcases h1' with h1' | h1'
      · exact absurd e1 h1'
      rcases h2' with h2' | h2'
      · exact absurd e2 h2'
      exact swo_sless.ntrans _ _ _ h1' h2'
    · exact .inl e
theorem pless_ext {a b : Pl} (h1 : pless a b = false) (h2 : pless b a = false) : a = b := by
  simp only [pless, Bool.or_eq_false_iff, Bool.and_eq_false_iff, decide_eq_false_iff_not] at h1 h2
  obtain ⟨d, c⟩ := a
  obtain ⟨d', c'⟩ := b
  simp only at h1 h2
  have e : d = d' := by omega
  subst e
  have : c = c' := sless_ext (by simpa using h1.2) (by simpa using h2.2)
  rw [this]
theorem netCmp.lays (blk off size : Nat) (w : World) : CmpLays Try.prog 48 #[] encP 2 pcmp blk off size w := fun m os dk hs x y => by
  refine (netCmp x y _).mono ?_
  rintro e w' ⟨rfl, q, os', rfl⟩
  exact ⟨rfl, q, os', rfl⟩
theorem sortPls_none (w : World) : Calls Try.prog 63 #[.slice none 0 0, .func (.func 48) #[] #[]] w fun e w' => e = .returned (.tuple #[]) ∧ w' = w :=
  AnyF.slices_SortFunc_none (P := Try.prog) (ρ := sortPlacesRen) sortPlaces none 0 _ w
set_option maxHeartbeats 1000000 in
theorem sortPls_row (W : World) (base : Nat) (ok : Nat → Prop) (v : Value) (xs : List Pl) (hr : k82.R 82 W base ok v xs) (hn : xs.length < 4611686018427387904) :
    Calls Try.prog 63 #[v, .func (.func 48) #[] #[]] W fun e w' => e = .returned (.tuple #[]) ∧ ∃ m : List Pl, m.length = xs.length ∧ k82.R 82 w' base ok v m ∧ W.grownBy w' v.ownBlock ∧ m.Perm xs ∧ m.Pairwise (fun a b => pless b a = false) := by
  obtain ⟨inner, hown⟩ := Kd.R_own hr
  rcases hown.2 with ⟨rfl, h0⟩ | ⟨g, cap, cur, rfl, _⟩
  · obtain rfl := List.eq_nil_of_length_eq_zero h0
    refine (sortPls_none W).mono ?_
    rintro e w' ⟨rfl, rfl⟩
    exact ⟨rfl, [], rfl, hr, World.grownBy.refl _ _, List.Perm.refl _, List.Pairwise.nil⟩
  · obtain ⟨⟨_, _, hH, hlt⟩, _⟩ := flat82.sort_in (by decide) hr
    have hc := AnyQ.slices_SortFunc sortPlaces 2 Try.isAgg82 Try.sizeOf82 encP (fun _ => rfl) (fun x v hv => by
      simp only [encP, List.mem_cons, List.not_mem_nil, or_false] at hv
      rcases hv with rfl | rfl <;> rfl) pcmp (by rw [ltOf_pcmp]; exact swo_pless) 48 #[] g 0 cap xs.toArray W (enters_of Try.func48 (by kernel_rfl) rfl) (netCmp.lays _ _ _ _) hH hlt (by simpa using hn)
    rw [List.size_toArray] at hc
    refine hc.mono ?_
    rintro e w' ⟨rfl, dk, n, os, hp, hso, rfl⟩
    have hl : dk.size = xs.length := by have := hp.1; simpa using this
    obtain ⟨h1, h2⟩ := flat82.sort_out (by decide) hr ⟨n, os, rfl⟩ hl
    refine ⟨rfl, dk.toList, by simpa using hl, h1, h2, ?_, ?_⟩
    · have h3 := hp.2.2
      have e1 : dk.extract 0 xs.length = dk := by rw [← hl]; exact Array.extract_size
      have e2 : xs.toArray.extract 0 xs.length = xs.toArray := Array.extract_size
      rw [e1, e2] at h3
      simpa using h3
    · rw [List.pairwise_iff_getElem]
      intro i j hi hj hij
      have := hso i j (Nat.zero_le _) hij (by simp at hj; omega)
      rw [ltOf_pcmp, getElem!_pos _ j (by simpa using hj), getElem!_pos _ i (by simpa using hi)] at this
      simpa using this
end Go.Proofs.Ytdfndbegifdejaa.PFlowExact
end
section
namespace Go.Proofs.YtdfndbegifdejaaMine
set_option linter.unusedVariables false
set_option linter.unusedSimpArgs false
open Go.RowKit Go.Proofs.YtdfndbegifdejaaW.PrintWords Go.Proofs.YtdfndbegifdejaaW.PrintLast
variable {P : Program} {ops : Array Oper} {Q : Exit → Act → World → Prop}
theorem lookup_stays {P : Program} {H : Type} {w w' : World} {k E e : TypeId} {base : Nat} {q : IntKind} {b n : Nat} {D : DataW H} {t : TypeId} {key : Value} {kl : Lit} {v : Value}
  (hown : w.ownsGroups P k base e q b n D) (K : Maps.Keyed P k) (ht : P.underlying t = some (.map k E)) (hz : ∀ W, (zeroValue E).run P W = .ok (.slice none 0 0) W) (hkey : keyOf P k key = some kl)
  (hb : w'.heap[b]? = w.heap[b]?) (h : (Instr.lookup t (.map (some b)) key false).run P w = .ok v w) : (Instr.lookup t (.map (some b)) key false).run P w' = .ok v w' := by
 obtain ⟨es, clock, h1, F, _⟩ := hown
 have hap := Maps.fit_apart K F
 have he : ∀ x ∈ es.toList, ∀ y ∈ es.toList, x.key = key → y.key = key → x = y := by
  intro x hx y hy e1 e2
  have hr : ∀ z ∈ es.toList, z.key = key → (WideElems.rg P k (rowElem (H := H) w base e q) z).1 = kl := by
   intro z hz e3
   obtain ⟨y0, hy0⟩ := F.reads z hz
   have m := WideElems.rd_key hy0
   rw [e3, hkey] at m
   rw [WideElems.rg_of hy0]
   exact (Option.some.inj m).symm
  obtain ⟨i, hi, rfl⟩ := List.getElem_of_mem hx
  obtain ⟨j, hj, rfl⟩ := List.getElem_of_mem hy
  have hp := List.pairwise_iff_getElem.1 hap
  rcases Nat.lt_trichotomy i j with hij | hij | hij
  ·refine absurd ?_ (hp i j (by simpa using hi) (by simpa using hj) hij)
   rw [List.getElem_map, List.getElem_map, hr _ hx e1, hr _ hy e2]
  ·subst hij; rfl
  ·refine absurd ?_ (hp j i (by simpa using hj) (by simpa using hi) hij)
   rw [List.getElem_map, List.getElem_map, hr _ hx e1, hr _ hy e2]
 rcases Maps.fit_look false K ht (hz w) h1 F hkey with ⟨r1, n1, _⟩ | ⟨e0, y0, m0, k0, r1, _⟩ <;> rcases Maps.fit_look false K ht (hz w') (hb.trans h1) F hkey with ⟨r2, n2, _⟩ | ⟨e1, y1, m1, k1, r2, _⟩
 ·rw [h] at r1
  injection r1 with r1 _
  rw [r2, r1]
 ·exact absurd k1 (n1 _ m1)
 ·exact absurd k0 (n2 _ m0)
 ·obtain rfl := he _ m0 _ m1 k0 k1
  rw [h] at r1
  injection r1 with r1 _
  rw [r2, r1]
theorem append_ {oi : Oper} {N : Option Tmp} {a : Act} {w : World} {K : Act → World → Prop} (hw : Region.wanted oi (yielded ops a.tmps) = true) (hN : oi.dst = N) (s x : Operand) (t : TypeId)
  (ho : oi.op = .call { callee := .builtin .append, args := #[s, x], argTypes := #[t, t] })
  (base : Nat) (e : TypeId) (i : TypeInfo) (z : Value) (size bytes : Nat) (ht : P.underlying t = some (.slice e)) (hi : P.info? e = some i) (hz : i.zero = some z)
  (hsize : i.size = size) (hby : i.bytes = bytes) (hzs : z.cells.size = size) (hsz : 0 < size)
  (v : Value) (n : Nat) (xs : List Value) (hs : a.eval s = v) (hown : w.ownsRow base e size v n xs)
  (ad : Addr) (m c : Nat) (news : List Value) (hx : a.eval x = .slice (some ad) m c) (hl : news.length = m * size) (hnews : ∀ j u, news[j]? = some u → w.cell? (ad.add j) = some u) (h1 : ∀ u ∈ news, u.oneCell' = true)
  (h63 : n + m ≤ maxLen) (hbytes : (n + m) * bytes ≤ 140737488355328) (hbase : base ≤ w.heap.size)
  (h : ∀ v' w', w'.ownsRow base e size v' (n + m) (xs ++ news) → w.grownBy w' v.ownBlock → (v'.ownBlock = v.ownBlock ∨ v'.ownBlock = some w.heap.size) → K (a.put N v') w') :
  if Region.wanted oi (yielded ops a.tmps) = true then Oper.wp P oi a w K Q else K (a.put N undef) w := by
 rw [if_pos hw]
 subst hN
 obtain ⟨v', w', hr, h2, h3, h4, h5⟩ := run_append_own_at (P := P) w base t oi.type e i z size bytes ht hi hz hsize hby hzs hsz v n xs hown ad m c news hl hnews h1 h63 hbytes hbase
 unfold Oper.wp execOp
 simp only [ho, resolve, invoke, builtin, Sem.run_bind, Sem.run_pure, Result.andThen_ok, List.map_toArray, List.map_cons, List.map_nil, hs, hx, hr]
 exact h v' w' h2 h3 h5
theorem mapUpdate_ {oi : Oper} {a : Act} {w : World} {K : Act → World → Prop} (hw : Region.wanted oi (yielded ops a.tmps) = true) (hN : oi.dst = none) (m x v : Operand) (t : TypeId) (hop : oi.op = Op.mapUpdate t m x v)
  {w0 : World} {k : TypeId} {base : Nat} {e : TypeId} {q : IntKind} {b n : Nat} {D : DataW Unit} {key : Value} {kl : Lit} {u : Value} (v' : Value) {zs' : List Int}
  (hback : w0.groupBack P t k base e q b n D key kl u) (hm : a.eval m = .map (some b)) (hx : a.eval x = key) (hv : a.eval v = v')
  (hgr : w0.grownBy w u.ownBlock) (hown' : w.ownsInts base e q v' zs') (hl' : zs'.length ≤ n + 1) (hloc : v'.ownBlock = u.ownBlock ∨ ∃ g, v'.ownBlock = some g ∧ w0.heap.size ≤ g)
  (hK : ∀ w2, w2.ownsGroups P k base e q b (n + 1) (D.put kl (rowDatum q v' zs')) → w.grownBy w2 (some b) → K (a.put none undef) w2) :
  if Region.wanted oi (yielded ops a.tmps) = true then Oper.wp P oi a w K Q else K (a.put none undef) w := by
 rw [if_pos hw]
 obtain ⟨w2, hrun, r1, r2⟩ := hback w v' zs' hgr hown' hl' hloc
 unfold Oper.wp
 simp [execOp, hop, hm, hx, hv, hrun, Result.andThen]
 show K (a.put oi.dst undef) w2
 rw [hN]
 exact hK w2 r1 r2
end Go.Proofs.YtdfndbegifdejaaMine
namespace Go.Proofs.Ytdfndbegifdejaa.PFlowExact
set_option linter.unusedVariables false
set_option linter.unusedSimpArgs false
open Go.RowKit Go.Proofs.YtdfndbegifdejaaW.PrintWords Go.Proofs.YtdfndbegifdejaaW.PrintLast Go.Proofs.YtdfndbegifdejaaW.PrintMore Go.Proofs.YtdfndbegifdejaaMine Go.ChangeShapes
theorem Net1.calls (x : S32) (w : World) : Calls Try.prog 47 #[.agg #[.int .i64 x.f0, .string x.f1, .int .i64 x.f2]] w fun e w' => e = .returned (.agg #[.int .i64 x.f0, .string x.f1]) ∧ Below w.heap.size w w' :=
 GNetC.flow_Net_1.calls x.f0 x.f1 x.f2 x.f0 x.f1 w rfl
theorem Net3.calls (k : Pl) (s : Int) (w : World) : Calls Try.prog 49 #[.agg #[.int .i64 k.d, .string k.c], .int .i64 s] w fun e w' => e = .returned (.agg #[.int .i64 k.d, .string k.c, .int .i64 s]) ∧ Below w.heap.size w w' :=
 GNetC.flow_Net_3.calls k.d k.c s k.d k.c s w rfl
theorem info82 : (Try.prog.info? 82).map (fun i => (i.zero, i.size, i.bytes)) = some (some (.agg #[.int .i64 0, .string ⟨#[]⟩]), 2, 24) := by kernel_rfl
structure KeysP (D : DataW Unit) (left : Lit → Bool) (ks : List Pl) : Prop where
  nodup : ks.Nodup
  ok : ∀ c ∈ ks, PlOk c
  mem : ∀ c, PlOk c → (c ∈ ks ↔ (Maps.has D (plit c) = true ∧ left (plit c) = false))
theorem keysP_start (D : DataW Unit) : KeysP D (Maps.has D) [] := ⟨List.nodup_nil, by simp, fun c _ => by simp⟩
theorem keysP_step {D : DataW Unit} {left : Lit → Bool} {ks : List Pl} (h : KeysP D left ks) (x : Pl) (ho : PlOk x) (hl : left (plit x) = true) (hh : Maps.has D (plit x) = true) :
  KeysP D (fun z => left z && !z.sameKey (plit x)) (ks ++ [x]) := by
 have hx : x ∉ ks := fun hm => by have := ((h.mem x ho).1 hm).2; rw [hl] at this; cases this
 refine ⟨?_, ?_, fun c hc => ?_⟩
 ·rw [List.nodup_append]
  exact ⟨h.nodup, by simp, fun a ha b hb => by rw [List.mem_singleton.1 hb]; intro e; subst e; exact hx ha⟩
 ·intro c hc
  rcases List.mem_append.1 hc with hc | hc
  ·exact h.ok c hc
  ·rw [List.mem_singleton.1 hc]; exact ho
 ·rw [List.mem_append, List.mem_singleton, h.mem c hc]
  by_cases e : c = x
  ·subst e
   have : (plit c).sameKey (plit c) = true := WideAt.sameKey_self (plit_key c)
   simp [this, hh]
  ·have : (plit c).sameKey (plit x) = false := Maps.sameKey_ne (fun e2 => e (plit_inj hc ho e2))
   simp [this, e]
def WfP (l : List S32) : Prop := ∀ x ∈ l, PlOk ⟨x.f0, x.f1⟩ ∧ (Lit.int .i64 x.f2).wf = true
theorem pl_ne32 : ∀ q, q ∈ 82 :: k82.E → q ≠ 32 := by
 intro q hq
 have : k82.E = [] := rfl
 rw [this] at hq
 have : q = 82 := by simpa using hq
 omega
theorem keyOf82_of {x : Pl} {kl : Lit} (h : keyOf Try.prog 82 (plV x) = some kl) : PlOk x ∧ kl = plit x := by
 obtain ⟨k, e, ho, hl⟩ := keyOf82_inv h
 unfold plV at e
 cases x; cases k
 simp at e
 obtain ⟨rfl, rfl⟩ := e
 exact ⟨ho, hl⟩
noncomputable def nets (l0 : List S32) (ks : List Pl) : List S32 := ks.map (fun k => ⟨k.d, k.c, (sumF 0 (grp placeL (plit k) l0)).1⟩)
structure PlaceList (l0 : List S32) (ks : List Pl) : Prop where
  nodup : ks.Nodup
  ok : ∀ c ∈ ks, PlOk c
  mem : ∀ c, PlOk c → (c ∈ ks ↔ ∃ x ∈ l0, placeL x = plit c)
  sorted : ks.Pairwise (fun a b => pless b a = false)
def NetGood (l0 : List S32) (ts : List S32) (f : Int) : Prop :=
 ∃ ks, PlaceList l0 ks ∧ ((f = 0 ∧ ts = nets l0 ks ∧ ∀ k ∈ ks, (sumF 0 (grp placeL (plit k) l0)).2 = 0) ∨ (f = 1 ∧ ts = [] ∧ ∃ k ∈ ks, (sumF 0 (grp placeL (plit k) l0)).2 = 1))
end Go.Proofs.Ytdfndbegifdejaa.PFlowExact
namespace Go.Proofs.Ytdfndbegifdejaa.PFlowExact
set_option linter.unusedVariables false
set_option linter.unusedSimpArgs false
open Go.RowKit Go.Proofs.YtdfndbegifdejaaW.PrintWords Go.Proofs.YtdfndbegifdejaaW.PrintLast Go.Proofs.YtdfndbegifdejaaW.PrintMore Go.Proofs.YtdfndbegifdejaaMine Go.ChangeShapes
set_option maxHeartbeats 4000000 in
set_option maxRecDepth 100000 in
theorem gatherP.calls (A0 : Option Addr) (c0 : Nat) (l0 : List S32) (w : World) (hr0 : Kd.C k32 w A0 l0.length l0) (hc0 : l0.length ≤ c0) (hsz : l0.length * 32 ≤ 140737488351232) (hwf : WfP l0) :
  Calls Try.prog 46 #[.slice A0 l0.length c0, .func (.func 47) #[] #[], .func (.func 48) #[] #[], .func (.func 49) #[] #[]] w fun e w' => ∃ (v : Value) (ts : List S32) (f : Int), e = .returned (.tuple #[v, .int .i64 f]) ∧ Kd.R k32 32 w' w.heap.size (fun _ => True) v ts ∧ Below w.heap.size w w' ∧ ts.length ≤ l0.length ∧ NetGood l0 ts f := by
 have HR0 := ak hr0
 have HC0 := ak hc0
 have HWF := ak hwf
 have hmm := @run_makeMap Try.prog
 have hu82 := Try.underlying82
 clear hr0 hc0 hwf
 obtain ⟨i0, hi, hz0, hz1, hz2⟩ := info_parts info3
 go_enter Try.func46, Try.ntmps46
 go_wp2
 go_loopg [24] l0.length (fun kx s24 wr => ∃ (i : Nat), s24 = .int .i64 i ∧ i ≤ l0.length ∧ l0.length - i ≤ kx ∧ Aside0 (∃ D : DataW Unit, wr.ownsGroups Try.prog 82 (w.heap.size + 1) 3 .i64 w.heap.size i D ∧ Says placeL D (l0.take i)) ∧ Aside0 (Below w.heap.size w wr))
 case atStart => exact ⟨0, rfl, Nat.zero_le _, by omega, ak ⟨_, World.ownsGroups_made _ _ _ _ _, says_nil _⟩, ak (below_alloc (Below.refl _ _) _)⟩
 case round =>
  obtain ⟨i, rfl, hi2, hkx, HD, HB⟩ := hrel
  obtain ⟨wo, rfl⟩ : ∃ wo : World, wo = wr := ⟨_, rfl⟩
  by_cases hlt : i < l0.length
  ·have hltz : (i : Int) < (l0.length : Int) := by omega
   obtain ⟨ad, hA, hx0, hx1, hx2⟩ := at_T32 (Kd.C_below HR0.out HB.out) (i : Int) (by omega) hltz
   rw [Int.toNat_natCast] at hx0 hx1 hx2
   have hmem : rd_T32 l0 (i : Int) ∈ l0 := by simp [rd_T32, hlt]
   have HWX := ak (HWF.out _ hmem)
   have HTK := ak (show l0.take (i + 1) = l0.take i ++ [rd_T32 l0 (i : Int)] by rw [List.take_succ_eq_append_getElem hlt]; simp [rd_T32, hlt])
   generalize hxx : rd_T32 l0 (i : Int) = x at *
   clear hmem hxx
   subst hA
   go_wp2_with fail
   refine (Net1.calls x _).mono ?_
   rintro e w1 ⟨rfl, hb1⟩
   have hbx : Below (wo.alloc (Obj.cells #[.int .i64 x.f0, .string x.f1, .int .i64 x.f2] 32 (0, 0))).heap.size (wo.alloc (Obj.cells #[.int .i64 x.f0, .string x.f1, .int .i64 x.f2] 32 (0, 0))) w1 := hb1
   have HB1 := ak hbx
   have HB2 := ak (HB.out.trans (Below.mono ((below_alloc (Below.refl wo.heap.size wo) _).trans (hbx.mono (by simp))) HB.out.size))
   have HW1 := ak (show wo.heap.size < w1.heap.size by have := hbx.size; simp at this; omega)
   have BK12 := ak (blk_below (blk_new wo (.cells #[.int .i64 x.f0, .string x.f1, .int .i64 x.f2] 32 (0, 0))) hbx)
   clear hb1 hbx
   go_wp2_with fail
   obtain ⟨D, hown, hsay⟩ := HD.out
   have HSY := ak hsay
   have hkey : keyOf Try.prog 82 (.agg #[.int .i64 x.f0, .string x.f1]) = some (placeL x) := keyOf82 ⟨x.f0, x.f1⟩ HWX.out.1
   obtain ⟨v, zs, hlk0, hat, hoi, hzl, hback⟩ := hown.at law82 (t := 106) Try.underlying106 (zero74 _) (by unfold maxLen; omega) hkey
   have HZS : Aside0 (zs = grp placeL (placeL x) (l0.take i)) := ak (says_at HSY.out (plit_key _) hat hoi)
   have hbz : w.heap.size < wo.heap.size := by
    obtain ⟨es, clock, h3, _⟩ := hown
    exact (Array.getElem?_eq_some_iff.1 h3).1
   have hvm : v.ownBlock ≠ some w.heap.size := fun e => by have := (hoi.1.lt _ e).1; omega
   have hvb12 : v.ownBlock ≠ some wo.heap.size := fun e => by have := (hoi.1.lt _ e).2; omega
   have hw1z := HW1.out
   have hvb13 : v.ownBlock ≠ some w1.heap.size := fun e => by have := (hoi.1.lt _ e).2; omega
   have hlk : ∀ w' : World, wo.grownBy w' v.ownBlock → (Instr.lookup 106 (.map (some w.heap.size)) (.agg #[.int .i64 x.f0, .string x.f1]) false).run Try.prog w' = .ok v w' :=
    fun w' hg => lookup_stays hown law82 Try.underlying106 zero74 hkey (hg.block _ hbz (fun e => hvm e.symm)) hlk0
   have hb2 : Below wo.heap.size wo (w1.alloc (.cells #[.int .i64 x.f0, .string x.f1] 82 (0, 0))).drew := ((below_alloc (below_alloc (Below.refl wo.heap.size wo) _ |>.trans (HB1.out.mono (by simp))) _)).drew
   have HGB := ak (grown_of_below hb2 v.ownBlock)
   have HOI := ak (hoi.kept (grown_of_below hb2 none) (by cases v.ownBlock <;> simp))
   have BK13 := ak (blk_drew (blk_new w1 (.cells #[.int .i64 x.f0, .string x.f1] 82 (0, 0))))
   have n0_ := ak (blk_drew (blk_alloc BK12.out (.cells #[.int .i64 x.f0, .string x.f1] 82 (0, 0))))
   have hw2z : wo.heap.size < (w1.alloc (.cells #[.int .i64 x.f0, .string x.f1] 82 (0, 0))).drew.heap.size := by have := HGB.out.size; have := blk_lt BK13.out; omega
   clear BK12 hat hlk0 hown HD hb2
   have BK12 := n0_
   clear n0_
   refine start_ (n := 10) (S := fun w' => wo.grownBy w' v.ownBlock ∧ w'.cell? ⟨w1.heap.size, 0, none⟩ = some (.int .i64 x.f0) ∧ w'.cell? ⟨w1.heap.size, 1, none⟩ = some (.string x.f1) ∧ w'.cell? ⟨wo.heap.size, 2, none⟩ = some (.int .i64 x.f2)) (ds := [9]) (Go.ba 10 0) (by kernel_rfl) rfl rfl ⟨HGB.out, (blk_cell BK13.out 0).trans rfl, (blk_cell BK13.out 1).trans rfl, (blk_cell BK12.out 2).trans rfl⟩ (fun hHeld => ?_)
   generalize (w1.alloc (.cells #[.int .i64 x.f0, .string x.f1] 82 (0, 0))).drew = w2 at HGB HOI BK13 BK12 hHeld hw2z ⊢
   refine pu 0 31 (Go.ba 10 1) (by kernel_rfl) ?_
   refine pu 2 33 (Go.ba 10 5) (by kernel_rfl) ?_
   refine pu 5 36 (Go.ba 10 37) (by kernel_rfl) ?_
   refine tk 1 32 (Go.ba 10 39) (by kernel_rfl) hHeld ?_ (hy := by rintro w' ⟨s0, s1, s2, s3⟩; go_simp; with_reducible rfl)
   refine tk 3 34 (Go.ba 10 47) (by kernel_rfl) hHeld ?_ (hy := by rintro w' ⟨s0, s1, s2, s3⟩; go_simp; with_reducible rfl)
   refine tk 6 37 (Go.ba 10 111) (by kernel_rfl) hHeld ?_ (hy := by rintro w' ⟨s0, s1, s2, s3⟩; go_simp; with_reducible rfl)
   refine take_ (i := 4) (N := some 35) (v := ?_) (a' := ?_) (Go.ba 10 127) rfl rfl (by kernel_rfl) (fun _ _ _ h => h) (Or.inl ⟨by rfl, ?_⟩) hHeld ?_ ?_
   rotate_left
   ·rintro w' ⟨s0, s1, s2, s3⟩
    have hrun_ := hlk w' s0
    go_simp
    with_reducible rfl
   rotate_left
   ·simp only [pz]
    rfl
   refine one_ (i := 7) (N := some 38) (Go.ba 10 255) rfl rfl (by kernel_rfl) (by decide) (fun K hK => ?_)
   refine value_ (w1 := ?_) (v := ?_) (by rfl) rfl ?_ ?_
   rotate_left 2
   ·go_simp
    constructor
    ·rfl
    ·rfl
   have n0_ := ak (HGB.out.trans (World.grownBy_alloc w2 (.cells #[.int .i64 x.f2] 3 (0, 0)) v.ownBlock))
   have n1_ := ak (blk_alloc BK13.out (.cells #[.int .i64 x.f2] 3 (0, 0))); have n2_ := ak (blk_alloc BK12.out (.cells #[.int .i64 x.f2] 3 (0, 0)))
   have HOI2 := ak (HOI.out.alloc (.cells #[.int .i64 x.f2] 3 (0, 0)))
   clear HGB BK13 BK12
   have HGB := n0_; have BK13 := n1_; have BK12 := n2_
   clear n0_ n1_ n2_
   refine hK.out _ _ ⟨HGB.out, (blk_cell BK13.out 0).trans rfl, (blk_cell BK13.out 1).trans rfl, (blk_cell BK12.out 2).trans rfl⟩ (fun hHeld => ?_)
   clear hK K
   refine norm_ (a' := ?_) ?_ ?_
   rotate_left
   ·show Act.put _ (some 38) _ = _
    simp only [pz]
    rfl
   refine one_ (i := 8) (N := some 39) (Go.ba 10 511) rfl rfl (by kernel_rfl) (by decide) (fun K hK => ?_)
   refine append_ (by rfl) rfl _ _ 74 rfl (w.heap.size + 1) 3 i0 (.int .i64 0) 1 8 Try.underlying74 hi hz0 hz1 hz2 rfl (by decide) _ _ _ rfl HOI2.out.1 ⟨w2.heap.size, 0, none⟩ 1 1 [.int .i64 x.f2] rfl rfl (cell_one_new _ _ _) (ints_oneCell .i64 [x.f2]) (by unfold maxLen; omega) (by omega) (by simp; omega) ?_
   intro v' w3 hown' hgrow hloc
   have n0_ := ak (HGB.out.trans hgrow)
   have n1_ := ak ((hgrow.block _ (blk_lt BK13.out) (fun e => hvb13 e.symm)).trans BK13.out); have n2_ := ak ((hgrow.block _ (blk_lt BK12.out) (fun e => hvb12 e.symm)).trans BK12.out)
   have HLOC := ak (show v'.ownBlock = v.ownBlock ∨ ∃ g, v'.ownBlock = some g ∧ wo.heap.size ≤ g from hloc.imp id (fun h => ⟨_, h, by simp; omega⟩))
   have HOI3 := ak (HOI.out.appended hown' HWX.out.2)
   clear HGB BK13 BK12 hown' hgrow hloc
   have HGB := n0_; have BK13 := n1_; have BK12 := n2_
   clear n0_ n1_ n2_
   refine hK.out _ _ ⟨HGB.out, (blk_cell BK13.out 0).trans rfl, (blk_cell BK13.out 1).trans rfl, (blk_cell BK12.out 2).trans rfl⟩ (fun hHeld => ?_)
   clear hK K
   refine norm_ (a' := ?_) ?_ ?_
   rotate_left
   ·show Act.put _ (some 39) _ = _
    simp only [pz]
    rfl
   refine last_ (i := 9) (N := none) (Go.ba 10 1023) rfl rfl (by kernel_rfl) (by decide) (fun K hK => ?_)
   refine mapUpdate_ (by rfl) rfl _ _ _ 106 rfl v' hback rfl rfl rfl HGB.out HOI3.out (by simp; omega) HLOC.out ?_
   intro w4 hown3 hgrow3
   have HO4 := ak hown3
   have HG4 := ak hgrow3
   clear hown3 hgrow3
   refine hK.out _ _ ?_
   clear hK K
   refine norm_ (a' := ?_) ?_ ?_
   rotate_left
   ·show Act.put _ (none) _ = _
    simp only [pz]
    rfl
   refine done_ (by kernel_rfl) ?_
   go_wp2_with fail
   have HB3 := ak (Below.groups HB.out hoi HGB.out HG4.out (by omega) (by omega) (Nat.le_refl _))
   have HOW := ak (show ∃ D : DataW Unit, w4.ownsGroups Try.prog 82 (w.heap.size + 1) 3 .i64 w.heap.size (i + 1) D ∧ Says placeL D (l0.take (i + 1)) from ⟨_, HO4.out, by
    rw [HTK.out]
    refine says_step HSY.out (fun y => plit_key _) x _ ?_
    have h1 := HOI3.out.datum_pos (H := Unit) (by simp)
    rw [h1, HZS.out, gd_pos (by simp)]⟩)
   clear hback hoi hzl HGB BK13 BK12 HOI HOI2 HOI3 HLOC HO4 HG4 hlk hvm hvb12 hvb13
   go_roundg (l0.length - (i + 1))
   case measure => omega
   case rel => exact ⟨i + 1, by go_num, by omega, Nat.le_refl _, HOW, HB3⟩
  ·have hltz : ¬ (i : Int) < (l0.length : Int) := by omega
   obtain rfl : i = l0.length := by omega
   rw [List.take_length] at HD
   obtain ⟨D, hown, hsay⟩ := HD.out
   have HSY := ak hsay
   have HOG := ak hown
   have hmap : wo.ownsMap Try.prog 82 (rowElem wo (w.heap.size + 1) 3 .i64) w.heap.size l0.length D := by
    obtain ⟨es, clock, h1, h2, h3, h4, _⟩ := hown
    exact ⟨es, clock, h1, h2, h3, h4⟩
   clear hown hsay HD hi2 hkx hltz hlt
   have hshun : wo.Shuns w.heap.size (fun g => wo.heap.size ≤ g) := by
    obtain ⟨es, clock, h1, F, _⟩ := HOG.out
    intro es' clock' h2 y hy g hg
    rw [h1] at h2
    cases h2
    obtain ⟨z, hz⟩ := F.reads y hy
    obtain ⟨u, hu, _⟩ := WideElems.rd_val hz
    obtain ⟨zs, ho, _⟩ := rowElem_inv hu
    have := (ho.1.lt g hg).2
    omega
   have hdl : Maps.size D ≤ l0.length := by
    obtain ⟨es, clock, h1, F, h3, rfl, _⟩ := HOG.out
    rw [Maps.size_eq, length_sorted]
    simpa using h3
   have hbz : w.heap.size < wo.heap.size := by
    obtain ⟨es, clock, h3, _⟩ := HOG.out
    exact (Array.getElem?_eq_some_iff.1 h3).1
   have HSH := ak hshun
   clear hshun
   go_wp2_with (at_range; refine wpList_range_own _ rfl _ 106 rfl 82 74 law82 Try.underlying106 _ w.heap.size l0.length D rfl hmap ?_; intro w1 hrg hgr hsz1)
   have HRG := ak hrg
   have HOG1 := ak (HOG.out.kept hgr (by simp) (fun es clock hb x hx => by cases x.val.ownBlock <;> simp))
   have HSH1 := ak (HSH.out.kept hgr hbz (by simp))
   have HB1 := ak (HB.out.grown hgr HB.out.size (fun j hj => by cases hj))
   have hw1z : w1.heap.size = wo.heap.size + 1 := hsz1
   clear hrg hgr HOG HSH hmap hsz1
   generalize wo.heap.size = r at *
   have hw1a : r < w1.heap.size := by omega
   clear hw1z
   go_frame
   go_loopg [14] (Maps.size D) (fun kx s14 wr => ∃ (left : Lit → Bool) (cnt : Nat) (ks : List Pl), cnt ≤ kx ∧ ks.length + cnt ≤ l0.length ∧ Aside0 (wr.ranges Try.prog 82 (rowElem wo (w.heap.size + 1) 3 .i64) w.heap.size r l0.length D left cnt) ∧ Aside0 (k82.R 82 wr (r + 1) (fun _ => True) s14 ks) ∧ Aside0 (KeysP D left ks) ∧ Aside0 (wr.ownsGroups Try.prog 82 (w.heap.size + 1) 3 .i64 w.heap.size l0.length D) ∧ Aside0 (wr.Shuns w.heap.size (fun g => r ≤ g)) ∧ Aside0 (Below w.heap.size w wr ∧ r < wr.heap.size))
   case atStart => exact ⟨_, _, [], Nat.le_refl _, by simpa using hdl, HRG, ak (Kd.R_nil _ _ _ _ _), ak (keysP_start D), HOG1, HSH1, ak ⟨HB1.out, hw1a⟩⟩
   case round =>
    clear HRG HOG1 HSH1 HB1
    obtain ⟨left, cnt, ks, hcnt, hkl, HRG, HK, HKS, HOG, HSH, HB1⟩ := hrel
    obtain ⟨wi, rfl⟩ : ∃ wi : World, wi = wr := ⟨_, rfl⟩
    have HRR := HRG.out
    go_wp2_with (at_next; refine wpList_next_ranges _ rfl _ rfl 82 law82 (rowElem wo (w.heap.size + 1) 3 .i64) plV (id : Value → Value) ?_ (fun v y _ => ⟨v, rfl⟩) w.heap.size r l0.length D left cnt rfl HRR ?_ ?_)
    ·intro key kl hk
     obtain ⟨k, rfl, _⟩ := keyOf82_inv hk
     exact ⟨k, rfl⟩
    ·
     intro hc0 hl0
     have HKL : Aside0 (∀ c, PlOk c → (c ∈ ks ↔ ∃ x ∈ l0, placeL x = plit c)) := ak (fun c hc => by
      rw [HKS.out.mem c hc, hl0, HSY.out.has _ (plit_key c)]; simp)
     have hks0 : ks.length ≤ l0.length := by omega
     clear hc0 hl0 HRR HRG hkl hcnt
     obtain ⟨Ak, ck, rfl⟩ := Kd.R_slice HK.out
     go_upto_region 14 with (go_at_call 63; refine (sortPls_row wi (r + 1) (fun _ => True) (.slice Ak ks.length ck) ks HK.out (by omega)).mono ?_; rintro e w2 ⟨rfl, m, hml, hR, hg, hperm, hsrt⟩; have HM := ak hR; have HG2 := ak hg; have HP := ak hperm; have HS := ak hsrt; have HML := ak hml; clear hR hg hperm hsrt hml)
     have hbs : w.heap.size < wi.heap.size ∧ r < wi.heap.size ∧ w.heap.size < r := by
      obtain ⟨es, clock, h3, _⟩ := HOG.out
      exact ⟨(Array.getElem?_eq_some_iff.1 h3).1, HB1.out.2, hbz⟩
     have hrow : ∀ j, (Value.slice Ak ks.length ck).ownBlock = some j → r + 1 ≤ j := fun j hj => Kd.R_base HK.out j hj
     have HOG2 := ak (HOG.out.kept HG2.out (fun e => by have := hrow _ e.symm; omega) (HSH.out.rowsOff (fun j hj => by have := hrow _ hj; omega)))
     have HSH2 := ak (HSH.out.kept HG2.out hbs.1 (fun e => by have := hrow _ e.symm; omega))
     have HB2 := ak (show Below w.heap.size w w2 ∧ r < w2.heap.size from ⟨HB1.out.1.grown HG2.out (by omega) (fun j hj => by have := hrow _ hj; omega), by have := HG2.out.size; omega⟩)
     have HKEY : Aside0 (PlaceList l0 m) := ak ⟨(HP.out.nodup_iff).2 HKS.out.nodup, fun c hc => HKS.out.ok c (HP.out.mem_iff.1 hc), fun c hc => by rw [HP.out.mem_iff]; exact HKL.out c hc, HS.out⟩
     clear HOG HSH HB1 HKS HKL HP HS HK HG2 hrow
     go_wp2
     go_loopg [16, 56] ks.length (fun kx s16 s56 wr => ∃ (j : Nat), s56 = .int .i64 j ∧ j ≤ ks.length ∧ ks.length - j ≤ kx ∧ Aside0 (k32.R 32 wr (r + 1) (fun _ => True) s16 (nets l0 (m.take j))) ∧ Aside0 (∀ k ∈ m.take j, (sumF 0 (grp placeL (plit k) l0)).2 = 0) ∧ Aside0 (k82.R 82 wr (r + 1) (fun _ => True) (.slice Ak ks.length ck) m) ∧ Aside0 (wr.ownsGroups Try.prog 82 (w.heap.size + 1) 3 .i64 w.heap.size l0.length D) ∧ Aside0 (wr.Shuns w.heap.size (fun g => r ≤ g)) ∧ Aside0 (Below w.heap.size w wr ∧ r < wr.heap.size))
     case atStart => exact ⟨0, rfl, Nat.zero_le _, by omega, ak (Kd.R_nil _ _ _ _ _), ak (by simp), HM, HOG2, HSH2, HB2⟩
     case round =>
      clear HM HOG2 HSH2 HB2
      obtain ⟨j, rfl, hj, hkx, HO, HZ, HM, HOG, HSH, HB⟩ := hrel
      obtain ⟨wl, rfl⟩ : ∃ wl : World, wl = wr := ⟨_, rfl⟩
      by_cases hlt : j < ks.length
      ·have hltz : (j : Int) < (ks.length : Int) := by omega
       have hjm : j < m.length := by rw [HML.out]; exact hlt
       have hM := HM.out
       rw [← HML.out] at hM
       obtain ⟨ad, hA, hx0, hx1⟩ := at_T82 (Kd.R_reads' hM).2.2 (j : Int) (by omega) (by omega)
       rw [Int.toNat_natCast, show rd_T82 m (j : Int) = m[j] by simp [rd_T82, hjm]] at hx0 hx1
       have hkm : m[j] ∈ m := List.getElem_mem hjm
       have hok : PlOk m[j] := HKEY.out.ok _ hkm
       have HTK := ak (show m.take (j + 1) = m.take j ++ [m[j]] from List.take_succ_eq_append_getElem hjm)
       have HKM := ak hkm
       generalize m[j] = key at *
       clear hkm hM
       subst hA
       have hkey : keyOf Try.prog 82 (.agg #[.int .i64 key.d, .string key.c]) = some (plit key) := keyOf82 key hok
       obtain ⟨sm, ft, hsf⟩ : ∃ sm ft, sumF 0 (grp placeL (plit key) l0) = (sm, ft) := ⟨_, _, rfl⟩
       have HSF := ak hsf
       have hft := sumF_two (grp placeL (plit key) l0) 0
       rw [hsf] at hft
       have HFT := ak hft
       clear hsf hft hok
       have hba : Below wl.heap.size wl (wl.alloc (.cells #[.int .i64 key.d, .string key.c] 82 (0, 0))) := below_alloc (Below.refl _ _) _
       have HOa := ak (Kd.R_below HO.out hba)
       have HMa := ak (Kd.R_below HM.out hba)
       have HOGa := ak (HOG.out.kept (grown_of_below hba none) (by simp) (fun es clock hb x hx => by cases x.val.ownBlock <;> simp))
       have HSHa := ak (HSH.out.kept (grown_of_below hba none) (by have := HB.out.2; omega) (by simp))
       have HBa := ak (show Below w.heap.size w (wl.alloc (.cells #[.int .i64 key.d, .string key.c] 82 (0, 0))) ∧ r < (wl.alloc (.cells #[.int .i64 key.d, .string key.c] 82 (0, 0))).heap.size from ⟨HB.out.1.trans (hba.mono (by have := HB.out.2; omega)), by have := HB.out.2; simp; omega⟩)
       have BKk := ak (blk_new wl (.cells #[.int .i64 key.d, .string key.c] 82 (0, 0)))
       clear HO HM HOG HSH HB hba
       have hown1 := HOGa.out
       go_upto_region 19 with (first | (at_lookup; refine wpList_lookup_groups _ rfl _ _ 106 rfl 82 74 3 .i64 law82 Try.underlying106 (zero74 _) (w.heap.size + 1) w.heap.size l0.length D rfl hown1 (by unfold maxLen; omega) _ _ rfl hkey ?_; intro v zs hat hoi hzl hback; obtain ⟨Az, cz, rfl⟩ := Kd.R_slice (Kd.R_of_own (enc := Value.int .i64) (h1 := fun _ => rfl) (ok := fun _ => True) hoi.1 (fun _ _ => trivial)); have hzs := says_at HSY.out (plit_key _) hat hoi; have HRZ := ak (Kd.R_of_own (enc := Value.int .i64) (h1 := fun _ => rfl) (ok := fun _ => True) hoi.1 (fun _ _ => trivial)); have HZS := ak hzs; clear hat hown1 hback hoi hzs) | (go_at_call 61; obtain ⟨kk, hkk⟩ := numSum_f zs (by omega); refine (num_Sum.calls kk Az cz zs sm ft _ (Kd.R_reads' HRZ.out).2.2 (Kd.R_reads' HRZ.out).2.1 (by rw [hkk, HZS.out, HSF.out])).mono ?_; clear hkk kk; rintro e w3 ⟨rfl, hd⟩; have HD3 := ak hd.below; clear hd))
       have HBB := ak (HBa.out.1.trans (HD3.out.mono (by have := HBa.out.2; omega)))
       rcases HFT.out with h0 | h1
       ·obtain rfl : ft = 0 := h0
        have HO3 := ak (Kd.R_below HOa.out HD3.out)
        have HM3 := ak (Kd.R_below HMa.out HD3.out)
        have HOG3 := ak (HOGa.out.kept (grown_of_below HD3.out none) (by simp) (fun es clock hb x hx => by cases x.val.ownBlock <;> simp))
        have HSH3 := ak (HSHa.out.kept (grown_of_below HD3.out none) (by have := HBa.out.2; omega) (by simp))
        have hr3 : r < w3.heap.size := by have := HD3.out.size; have := HBa.out.2; omega
        have hlen : (nets l0 (m.take j)).length ≤ l0.length := by unfold nets; rw [List.length_map, List.length_take]; omega
        have hk3 := blk_below BKk.out HD3.out
        have hkd : w3.cell? ⟨wl.heap.size, 0, none⟩ = some (.int .i64 key.d) := (blk_cell hk3 0).trans rfl
        have hkc : w3.cell? ⟨wl.heap.size, 1, none⟩ = some (.string key.c) := (blk_cell hk3 1).trans rfl
        clear HOa HMa HOGa HSHa HFT HRZ HZS hx0 hx1 hkey hk3 BKk
        go_wp2_with (first | (go_at_call 49; refine (Net3.calls key sm _).mono ?_; rintro e w4 ⟨rfl, hb4⟩; have HB4 := ak hb4; have HO4 := ak (Kd.R_below HO3.out HB4.out); have hwz4 : r + 1 ≤ w4.heap.size := (by have := hb4.size; omega); clear hb4) | ((with_reducible refine gate_builtin (b := .append) (xs := #[.tmp 70, .tmp 75]) rfl ?_); at_builtin; refine Kd.R_append k32 (w0 := w4) (r + 1) rfl (.tmp 70) (.tmp 75) 22 32 (.agg #[.int .i64 0, .string ⟨#[]⟩, .int .i64 0]) 32 rfl Try.underlying22 info32 rfl (by decide) (by omega) u16 (nets l0 (m.take j)) ⟨key.d, key.c, sm⟩ [.int .i64 key.d, .string key.c, .int .i64 sm] (fun _ => True) (fun _ => False) rfl rfl (k32_mkM _ _ _ ⟨key.d, key.c, sm⟩) (fun _ h => h.elim) (fun _ _ => trivial) HO4.out (Below.refl _ _) hwz4 (by omega) ?_; intro v' w5 ho hb hg hat2; have HO5 := ak ho; have HG5 := ak hg; clear ho hb hg hat2))
        have hrow : ∀ q, u16.ownBlock = some q → r + 1 ≤ q := fun q hq => Kd.R_base HO4.out q hq
        have hbs : w.heap.size < w3.heap.size := by omega
        have HG4 := ak (grown_of_below HB4.out none)
        have HSH4 := ak (HSH3.out.kept HG4.out hbs (by simp))
        have HOG5 := ak ((HOG3.out.kept HG4.out (by simp) (fun es clock hb x hx => by cases x.val.ownBlock <;> simp)).kept HG5.out (fun e => by have := hrow _ e.symm; omega) (HSH4.out.rowsOff (fun q hq => by have := hrow _ hq; omega)))
        have HSH5 := ak (HSH4.out.kept HG5.out (by omega) (fun e => by have := hrow _ e.symm; omega))
        have HB5 := ak (show Below w.heap.size w w5 ∧ r < w5.heap.size from ⟨(HBB.out.trans (HB4.out.mono (by omega))).grown HG5.out (by omega) (fun q hq => by have := hrow _ hq; omega), by have := HG5.out.size; omega⟩)
        have HM5 := ak (Kd.R_over (Kd.R_below HM3.out HB4.out) HO4.out pl_ne32 HG5.out)
        go_roundg (ks.length - (j + 1))
        case measure => omega
        case rel =>
         refine ⟨j + 1, by go_num, by omega, Nat.le_refl _, ak ?_, ak ?_, HM5, HOG5, HSH5, HB5⟩
         ·rw [HTK.out]
          have e : nets l0 (m.take j ++ [key]) = nets l0 (m.take j) ++ [⟨key.d, key.c, sm⟩] := by
           unfold nets; rw [List.map_append, List.map_singleton, HSF.out]
          rw [e]; exact HO5.out
         ·intro k hk
          rw [HTK.out, List.mem_append] at hk
          rcases hk with hk | hk
          ·exact HZ.out k hk
          ·rw [List.mem_singleton.1 hk, HSF.out]
       ·cases h1
        go_wp2
        go_ret2
        exact ⟨_, [], 1, rfl, Kd.R_nil _ _ _ _ _, HBB.out, by simp, m, HKEY.out, .inr ⟨rfl, rfl, key, HKM.out, by rw [HSF.out]⟩⟩
      ·have hltz : ¬ (j : Int) < (ks.length : Int) := by omega
       obtain rfl : j = ks.length := by omega
       rw [← HML.out, List.take_length] at HO HZ
       go_wp2
       go_ret2
       exact ⟨_, nets l0 m, 0, rfl, Kd.R_lower HO.out (by omega), HB.out.1, by unfold nets; rw [List.length_map, HML.out]; exact hks0, m, HKEY.out, .inl ⟨rfl, rfl, HZ.out⟩⟩
    ·
     intro x c kl y1 y2 w1 cnt1 hkx hlk hR hat hrg1 hlt hg1 hs1 hen
     obtain ⟨hxs, rfl⟩ := keyOf82_of hkx
     have hhas := Maps.has_true_of_atKey hat
     have HKS2 := ak (keysP_step HKS.out x hxs hlk hhas)
     have hg1a : wi.grownBy (w1.alloc (.cells #[.int .i64 x.d, .string x.c] 82 (0, 0))) (some r) := hg1.trans (World.grownBy_alloc w1 _ _)
     have HK1 := ak (Kd.R_mono (Kd.R_grown (Kd.R_bound HK.out) hg1a (fun k hk e => by cases e; have := hk.2.1; omega)) (ok' := fun _ => True) (fun _ _ => trivial))
     have hbs : w.heap.size < wi.heap.size ∧ r < wi.heap.size ∧ w.heap.size < r := by
      obtain ⟨es, clock, h3, _⟩ := HOG.out
      exact ⟨(Array.getElem?_eq_some_iff.1 h3).1, HB1.out.2, hbz⟩
     have HOG2 := ak (HOG.out.kept hg1a (fun e => by cases e; omega) (HSH.out.rowsOff (fun j hj => by cases hj; exact Nat.le_refl _)))
     have HSH2 := ak (HSH.out.kept hg1a hbs.1 (fun e => by cases e; omega))
     have HB2 := ak (HB1.out.1.grown hg1a (by omega) (fun j hj => by cases hj; omega))
     have HRG2 := ak (hrg1.kept (World.grownBy_alloc w1 (.cells #[.int .i64 x.d, .string x.c] 82 (0, 0)) none) (by simp) (by simp))
     have hwz : r + 1 ≤ (w1.alloc (.cells #[.int .i64 x.d, .string x.c] 82 (0, 0))).heap.size := by simp; omega
     clear hrg1 HRG HRR HK HKS HOG HSH hR hat hg1 hg1a hkx hlk hhas hs1
     unfold plV at hen ⊢
     have hsW := ak (show (w1.alloc (.cells #[.int .i64 x.d, .string x.c] 82 (0, 0))).heap.size = w1.heap.size + 1 by simp)
     go_wp2_with ((with_reducible refine gate_builtin (b := .append) (xs := #[.tmp 47, .tmp 49]) rfl ?_); at_builtin; refine Kd.R_append k82 (w0 := (w1.alloc (.cells #[.int .i64 x.d, .string x.c] 82 (0, 0)))) (r + 1) rfl (.tmp 47) (.tmp 49) 107 82 (.agg #[.int .i64 0, .string ⟨#[]⟩]) 24 rfl Try.underlying107 info82 rfl (by decide) (by omega) u14 ks x [.int .i64 x.d, .string x.c] (fun _ => True) (fun _ => False) rfl (by rw [hsW.out]; rfl) (k82_mkM _ _ _ x) (fun _ h => h.elim) (fun _ _ => trivial) HK1.out (Below.refl _ _) hwz (by omega) ?_; intro v' w2 ho hb hg hat2; have HK2 := ak ho; have HG := ak hg; clear ho hb hg hat2)
     have hrow : ∀ j, u14.ownBlock = some j → r + 1 ≤ j := fun j hj => Kd.R_base HK1.out j hj
     have HRG3 := ak (HRG2.out.kept HG.out (fun e => by have := hrow _ e.symm; omega) (fun e => by have := hrow _ e.symm; omega))
     have HOG3 := ak (HOG2.out.kept HG.out (fun e => by have := hrow _ e.symm; omega) (HSH2.out.rowsOff (fun j hj => by have := hrow _ hj; omega)))
     have HSH3 := ak (HSH2.out.kept HG.out (by omega) (fun e => by have := hrow _ e.symm; omega))
     have HB3 := ak (show Below w.heap.size w w2 ∧ r < w2.heap.size from ⟨HB2.out.grown HG.out (by omega) (fun j hj => by have := hrow _ hj; omega), by have := HG.out.size; omega⟩)
     go_roundg cnt1
     case measure => omega
     case rel => exact ⟨_, cnt1, ks ++ [x], Nat.le_refl _, by simp; omega, HRG3, HK2, HKS2, HOG3, HSH3, HB3⟩
end Go.Proofs.Ytdfndbegifdejaa.PFlowExact
end
section
namespace Go.Proofs.Ytdfndbegifdejaa.PFlowExact
set_option linter.unusedVariables false
set_option linter.unusedSimpArgs false
open Go.RowKit Go.Proofs.YtdfndbegifdejaaW.PrintWords Go.Sort
open Classical
def plOf (e : S32) : Pl := ⟨e.f0, e.f1⟩
theorem nfT (x : S32) : nf true x = x := by unfold nf; simp
theorem grp_P (k : Pl) (hk : PlOk k) (l : List S32) (hl : ∀ x ∈ l, PlOk (plOf x)) : grp placeL (plit k) l = grpB true ⟨k.d, k.c, 0⟩ l := by
  unfold grp grpB
  congr 1
  apply List.filter_congr
  intro x hx
  have : placeL x = plit k ↔ keyEq (nf true x) ⟨k.d, k.c, 0⟩ := by
    rw [nfT]
    constructor
    · intro h
      have := plit_inj (hl x hx) hk h
      subst this
      exact ⟨rfl, rfl⟩
    · rintro ⟨h1, h2⟩
      unfold placeL
      rw [show x.f0 = k.d from h1, show x.f1 = k.c from h2]
  simp [this]
theorem sortedP_eq {a b : List Pl} (ha : a.Nodup) (hb : b.Nodup) (hm : ∀ c, c ∈ a ↔ c ∈ b) (hsa : a.Pairwise (fun x y => pless y x = false)) (hsb : b.Pairwise (fun x y => pless y x = false)) : a = b := by
  refine List.Perm.eq_of_pairwise (le := fun x y => pless y x = false) (fun x y _ _ h1 h2 => pless_ext h2 h1) hsa hsb ?_
  exact (List.perm_ext_iff_of_nodup ha hb).2 hm
theorem refNets (l0 : List S32) (hn : l0.length ≤ 4398046511103) (hwf : ∀ x ∈ l0, I64 x.f2) (hok0 : ∀ x ∈ l0, PlOk (plOf x)) (ts : List S32) (f : Int) (hg : NetGood l0 ts f) : ∃ k, payoffref03_Net.f k l0 = some (ts, f) := by
  obtain ⟨ks, hk, hg⟩ := hg
  rcases sums_f l0 true hn hwf with ⟨L, hS, hP, K, hK⟩ | ⟨⟨x, hx, hbad⟩, K, hK⟩
  · have hokL : ∀ p, p < L.length → PlOk (plOf (acc L p)) := fun p hp => by
      obtain ⟨x, hx, h⟩ := hS.came p hp
      rw [nfT] at h
      have := hok0 x hx
      unfold plOf at this ⊢
      rw [← show x.f0 = (acc L p).f0 from h.1, ← show x.f1 = (acc L p).f1 from h.2]
      exact this
    have hmem : ∀ c, c ∈ L.map plOf ↔ c ∈ ks := by
      intro c
      constructor
      · intro hc
        obtain ⟨e, he, rfl⟩ := List.mem_map.1 hc
        obtain ⟨p, hp, rfl⟩ := List.mem_iff_getElem.1 he
        have hok := hokL p hp
        rw [acc_get _ _ hp] at hok
        rw [hk.mem _ hok]
        obtain ⟨x, hx, h⟩ := hS.came p hp
        rw [nfT, acc_get _ _ hp] at h
        refine ⟨x, hx, ?_⟩
        unfold placeL plOf
        rw [show x.f0 = L[p].f0 from h.1, show x.f1 = L[p].f1 from h.2]
      · intro hc
        have hok := hk.ok c hc
        obtain ⟨x, hx, h⟩ := (hk.mem c hok).1 hc
        obtain ⟨p, hp, h2⟩ := hS.there x hx
        have h3 := plit_inj (hok0 x hx) hok h
        rw [nfT, acc_get _ _ hp] at h2
        refine List.mem_map.2 ⟨L[p], List.getElem_mem hp, ?_⟩
        rw [← h3]
        unfold plOf
        rw [show L[p].f0 = x.f0 from h2.1.symm, show L[p].f1 = x.f1 from h2.2.symm]
    have hlt : ∀ p q, p < q → q < L.length → pless (plOf (acc L p)) (plOf (acc L q)) = true := fun p q hpq hq => by
      unfold pless plOf
      rcases hP p q (by omega) hpq hq with h | ⟨h, h2⟩
      · simp [h]
      · simp [h, h2]
    have hnd : (L.map plOf).Nodup := by
      unfold List.Nodup
      rw [List.pairwise_map, List.pairwise_iff_getElem]
      intro p q hp hq hpq e
      have := hlt p q hpq hq
      rw [acc_get _ _ hp, acc_get _ _ hq, e, swo_pless.irrefl] at this
      cases this
    have hso : (L.map plOf).Pairwise (fun x y => pless y x = false) := by
      rw [List.pairwise_map, List.pairwise_iff_getElem]
      intro p q hp hq hpq
      have h1 := hlt p q hpq hq
      rw [acc_get _ _ hp, acc_get _ _ hq] at h1
      cases h2 : pless (plOf L[q]) (plOf L[p])
      · rfl
      · have := swo_pless.trans _ _ _ h1 h2
        rw [swo_pless.irrefl] at this; cases this
    have hks := sortedP_eq hnd hk.nodup hmem hso hk.sorted
    have hsum : ∀ p, p < L.length → sumF 0 (grp placeL (plit (plOf (acc L p))) l0) = ((acc L p).f2, 0) := fun p hp => by
      rw [grp_P _ (hokL p hp) l0 hok0, ← grpB_key true (show keyEq (acc L p) ⟨(plOf (acc L p)).d, (plOf (acc L p)).c, 0⟩ from ⟨rfl, rfl⟩)]
      exact hS.sum p hp
    have hts : nets l0 ks = L := by
      unfold nets
      rw [← hks, List.map_map]
      conv => rhs; rw [← List.map_id L]
      refine List.map_congr_left fun e he => ?_
      obtain ⟨p, hp, rfl⟩ := List.mem_iff_getElem.1 he
      have := hsum p hp
      rw [acc_get _ _ hp] at this
      simp [this]
      rfl
    rcases hg with ⟨rfl, rfl, _⟩ | ⟨_, _, k, hkk, hb⟩
    · refine ⟨0 + K, ?_⟩
      unfold payoffref03_Net.f
      rw [hK, hts]
      simp
    · exfalso
      rw [← hks] at hkk
      obtain ⟨e, he, rfl⟩ := List.mem_map.1 hkk
      obtain ⟨p, hp, rfl⟩ := List.mem_iff_getElem.1 he
      have := hsum p hp
      rw [acc_get _ _ hp] at this
      rw [this] at hb
      cases hb
  · rcases hg with ⟨rfl, _, hok⟩ | ⟨rfl, rfl, _⟩
    · exfalso
      have ho := hok0 x hx
      have h1 := hok (plOf x) ((hk.mem _ ho).2 ⟨x, hx, rfl⟩)
      rw [grp_P _ ho l0 hok0, ← grpB_key true (show keyEq (nf true x) ⟨(plOf x).d, (plOf x).c, 0⟩ by rw [nfT]; exact ⟨rfl, rfl⟩), hbad] at h1
      cases h1
    · refine ⟨0 + K, ?_⟩
      unfold payoffref03_Net.f
      rw [hK]
      simp
end Go.Proofs.Ytdfndbegifdejaa.PFlowExact
namespace Go.Proofs.Ytdfndbegifdejaa.PFlowExact
set_option linter.unusedVariables false
set_option linter.unusedSimpArgs false
open Go.RowKit Go.Proofs.YtdfndbegifdejaaW.PrintWords Go.Proofs.YtdfndbegifdejaaW.PrintLast Go.Proofs.YtdfndbegifdejaaW.PrintMore Go.Proofs.YtdfndbegifdejaaMine
attribute [local go_sem] max2_int min2_int max_two min_two max_three min_three max_four min_four
theorem wf_I64n {a : Int} (h : (Lit.int .i64 a).wf = true) : I64 a := by
  simp [Lit.wf, IntKind.min, IntKind.max, IntKind.signed, IntKind.bits] at h
  unfold I64
  omega
theorem flow_Net.calls (A0 : Option Addr) (c0 : Nat) (l0 : List S32) (w : World) (hr0 : Kd.C k32 w A0 l0.length l0) (hc0 : l0.length ≤ c0) (hsz : l0.length * 32 ≤ 140737488351232) (hwf : WfP l0) :
    Calls Try.prog 28 #[.slice A0 l0.length c0] w fun e w' => ∃ (v : Value) (ts : List S32) (f : Int), e = .returned (.tuple #[v, .int .i64 f]) ∧ Kd.R k32 32 w' w.heap.size (fun _ => True) v ts ∧ Below w.heap.size w w' ∧ ts.length ≤ l0.length ∧ NetGood l0 ts f := by
  have hcall := gatherP.calls A0 c0 l0 w hr0 hc0 hsz hwf
  have HC := ak hcall
  clear hr0 hc0 hwf hcall
  go_enter Try.func28, Try.ntmps28
  go_wp2_with (go_at_call 46; refine HC.out.mono ?_; rintro e w1 ⟨v, ts, f, rfl, h1, h2, h3, h4⟩)
  go_ret2
  exact ⟨_, ts, f, rfl, h1, h2, h3, h4⟩
end Go.Proofs.Ytdfndbegifdejaa.PFlowExact
end
section
namespace Go.Proofs.Ytdfndbegifdejaa.PFlowExact
set_option linter.unusedVariables false
set_option linter.unusedSimpArgs false
open Go.RowKit Go.Proofs.YtdfndbegifdejaaW.PrintWords Go.Sort
open Classical
theorem grp_B (c : ByteArray) (l : List S32) : grp curL (slit c) l = grpB false ⟨0, c, 0⟩ l := by
  unfold grp grpB
  congr 1
  apply List.filter_congr
  intro x _
  have : curL x = slit c ↔ keyEq (nf false x) ⟨0, c, 0⟩ := ⟨fun h => ⟨rfl, slit_inj h⟩, fun h => by unfold curL; rw [show x.f1 = c from h.2]⟩
  simp [this]
theorem nfF_key (x : S32) : keyEq (nf false x) ⟨0, x.f1, 0⟩ := ⟨rfl, rfl⟩
theorem sorted_eq {a b : List ByteArray} (ha : a.Nodup) (hb : b.Nodup) (hm : ∀ c, c ∈ a ↔ c ∈ b) (hsa : a.Pairwise (fun x y => sless y x = false)) (hsb : b.Pairwise (fun x y => sless y x = false)) : a = b := by
  refine List.Perm.eq_of_pairwise (le := fun x y => sless y x = false) (fun x y _ _ h1 h2 => sless_ext h2 h1) hsa hsb ?_
  exact (List.perm_ext_iff_of_nodup ha hb).2 hm
theorem tot_loop (L : List S32) (hL : L.length ≤ 4398046511104) : ∀ (d i : Nat) (out : List S62), L.length - i = d → i ≤ L.length → out.length = i →
    ∀ k, payoffref03_Totals.l0 (k + d + 1) L out (i : Int) = some (out ++ (L.drop i).map (fun e => ⟨e.f1, e.f2⟩), 0) := by
  intro d
  induction d with
  | zero =>
    intro i out hd hi ho k
    obtain rfl : i = L.length := by omega
    simp only [payoffref03_Totals.l0, Nat.add_zero]
    rw [if_neg (by omega), List.drop_length]; simp
  | succ d ih =>
    intro i out hd hi ho k
    have hil : i < L.length := by omega
    have := ih (i + 1) (out ++ [⟨(acc L i).f1, (acc L i).f2⟩]) (by omega) (by omega) (by simp [ho]) k
    rw [show k + (d + 1) + 1 = (k + d + 1) + 1 by omega]
    generalize k + d + 1 = m at this ⊢
    simp only [payoffref03_Totals.l0]
    rw [if_pos (by omega), if_pos (by omega), if_pos (by omega), w64 i (by omega)]
    rw [show (⟨(rd_T32 L (i : Int)).f1, (rd_T32 L (i : Int)).f2⟩ : S62) = ⟨(acc L i).f1, (acc L i).f2⟩ from rfl, this]
    rw [List.drop_eq_getElem_cons hil, acc_get _ _ hil, List.map_cons, List.append_assoc]
    rfl
theorem refTotals (l0 : List S32) (hn : l0.length ≤ 4398046511103) (hwf : ∀ x ∈ l0, I64 x.f2) (ts : List S62) (f : Int) (hg : TotGood l0 ts f) : ∃ k, payoffref03_Totals.f k l0 = some (ts, f) := by
  obtain ⟨ks, hk, hg⟩ := hg
  rcases sums_f l0 false hn hwf with ⟨L, hS, hP, K, hK⟩ | ⟨⟨x, hx, hbad⟩, K, hK⟩
  · have hz : ∀ p, p < L.length → (acc L p).f0 = 0 := fun p hp => by
      obtain ⟨x, _, h⟩ := hS.came p hp
      exact h.1.symm
    have hacc : ∀ p, p < L.length → keyEq (acc L p) ⟨0, (acc L p).f1, 0⟩ := fun p hp => ⟨hz p hp, rfl⟩
    have hmem : ∀ c, c ∈ L.map (·.f1) ↔ c ∈ ks := by
      intro c
      rw [hk.mem]
      constructor
      · intro hc
        obtain ⟨e, he, rfl⟩ := List.mem_map.1 hc
        obtain ⟨p, hp, rfl⟩ := List.mem_iff_getElem.1 he
        obtain ⟨x, hx, h⟩ := hS.came p hp
        rw [acc_get _ _ hp] at h
        exact ⟨x, hx, by unfold curL; rw [show x.f1 = L[p].f1 from h.2]⟩
      · rintro ⟨x, hx, h⟩
        obtain ⟨p, hp, h2⟩ := hS.there x hx
        have h3 := slit_inj h
        rw [acc_get _ _ hp] at h2
        exact List.mem_map.2 ⟨L[p], List.getElem_mem hp, by rw [← h3]; exact h2.2.symm⟩
    have hlt : ∀ p q, p < q → q < L.length → sless (acc L p).f1 (acc L q).f1 = true := fun p q hpq hq => by
      rcases hP p q (by omega) hpq hq with h | ⟨_, h⟩
      · rw [hz p (by omega), hz q hq] at h; omega
      · exact h
    have hnd : (L.map (·.f1)).Nodup := by
      unfold List.Nodup
      rw [List.pairwise_map, List.pairwise_iff_getElem]
      intro p q hp hq hpq e
      have := hlt p q hpq hq
      rw [acc_get _ _ hp, acc_get _ _ hq, e, swo_sless.irrefl] at this
      cases this
    have hso : (L.map (·.f1)).Pairwise (fun x y => sless y x = false) := by
      rw [List.pairwise_map, List.pairwise_iff_getElem]
      intro p q hp hq hpq
      have h1 := hlt p q hpq hq
      rw [acc_get _ _ hp, acc_get _ _ hq] at h1
      cases h2 : sless L[q].f1 L[p].f1
      · rfl
      · have := swo_sless.trans _ _ _ h1 h2
        rw [swo_sless.irrefl] at this; cases this
    have hks := sorted_eq hnd hk.nodup hmem hso hk.sorted
    have hsum : ∀ p, p < L.length → sumF 0 (grp curL (slit (acc L p).f1) l0) = ((acc L p).f2, 0) := fun p hp => by
      rw [grp_B, ← grpB_key false (hacc p hp)]; exact hS.sum p hp
    have hts : tots l0 ks = L.map (fun e => ⟨e.f1, e.f2⟩) := by
      unfold tots
      rw [← hks, List.map_map]
      refine List.map_congr_left fun e he => ?_
      obtain ⟨p, hp, rfl⟩ := List.mem_iff_getElem.1 he
      have := hsum p hp
      rw [acc_get _ _ hp] at this
      simp [this]
    rcases hg with ⟨rfl, rfl, _⟩ | ⟨_, _, k, hkk, hb⟩
    · refine ⟨0 + L.length + 1 + K, ?_⟩
      unfold payoffref03_Totals.f
      rw [hK]
      simp only [Option.bind_some, if_true]
      have h1 := tot_loop L (by have := hS.len; omega) L.length 0 [] (by omega) (by omega) rfl K
      rw [show ((0 : Nat) : Int) = 0 from rfl] at h1
      rw [show 0 + L.length + 1 + K = K + L.length + 1 by omega, h1, hts]
      simp
    · exfalso
      rw [← hks] at hkk
      obtain ⟨e, he, rfl⟩ := List.mem_map.1 hkk
      obtain ⟨p, hp, rfl⟩ := List.mem_iff_getElem.1 he
      have := hsum p hp
      rw [acc_get _ _ hp] at this
      rw [this] at hb
      cases hb
  · rcases hg with ⟨rfl, _, hok⟩ | ⟨rfl, rfl, _⟩
    · exfalso
      have h1 := hok x.f1 ((hk.mem _).2 ⟨x, hx, rfl⟩)
      rw [grp_B, ← grpB_key false (nfF_key x), hbad] at h1
      cases h1
    · refine ⟨0 + K, ?_⟩
      unfold payoffref03_Totals.f
      rw [hK]
      simp
end Go.Proofs.Ytdfndbegifdejaa.PFlowExact
end
section
namespace Go.Proofs.Ytdfndbegifdejaa.PFlowExact
set_option linter.unusedVariables false
set_option linter.unusedSimpArgs false
open Go.RowKit Go.Proofs.YtdfndbegifdejaaW.PrintWords Go.Proofs.YtdfndbegifdejaaW.PrintLast Go.Proofs.YtdfndbegifdejaaW.PrintMore Go.Proofs.YtdfndbegifdejaaMine
attribute [local go_sem] max2_int min2_int max_two min_two max_three min_three max_four min_four
theorem sameT_self (a : List S62) (hl : a.length ≤ 140737488355328) (k : Nat) (hk : a.length < k) : payofflaw03_sameTotals.f k a a = some true := by
  unfold payofflaw03_sameTotals.f
  rw [if_pos rfl]
  have key : ∀ (d i : Nat) (k : Nat), a.length - i = d → i ≤ a.length → d < k → payofflaw03_sameTotals.l0 k a a (i : Int) = some true := by
    intro d
    induction d with
    | zero =>
      intro i k hd hi hk
      obtain ⟨k, rfl⟩ : ∃ q, k = q + 1 := ⟨k - 1, by omega⟩
      simp only [payofflaw03_sameTotals.l0]
      rw [if_neg (by omega)]
    | succ d ih =>
      intro i k hd hi hk
      obtain ⟨k, rfl⟩ : ∃ q, k = q + 1 := ⟨k - 1, by omega⟩
      simp only [payofflaw03_sameTotals.l0]
      rw [if_pos (by omega), if_pos (by omega), if_pos (by omega), if_neg (by simp)]
      rw [show wrap64 ((i : Int) + 1) = ((i + 1 : Nat) : Int) by unfold wrap64; omega]
      exact ih (i + 1) k (by omega) (by omega) (by omega)
  exact key a.length 0 k (by omega) (by omega) (by omega)
theorem wf_I64 {a : Int} (h : (Lit.int .i64 a).wf = true) : I64 a := by
  simp [Lit.wf, IntKind.min, IntKind.max, IntKind.signed, IntKind.bits] at h
  unfold I64
  omega
theorem flow_Totals.calls (A0 : Option Addr) (c0 : Nat) (l0 : List S32) (w : World) (hr0 : Kd.C k32 w A0 l0.length l0) (hc0 : l0.length ≤ c0) (hsz : l0.length * 32 ≤ 140737488351232) (hwf : WfA l0) :
    Calls Try.prog 24 #[.slice A0 l0.length c0] w fun e w' => ∃ (v : Value) (ts : List S62) (f : Int), e = .returned (.tuple #[v, .int .i64 f]) ∧ Kd.R k62 62 w' w.heap.size (fun _ => True) v ts ∧ Below w.heap.size w w' ∧ ts.length ≤ l0.length ∧ TotGood l0 ts f := by
  have hcall := gatherS.calls A0 c0 l0 w hr0 hc0 hsz hwf
  have HC := ak hcall
  clear hr0 hc0 hwf hcall
  go_enter Try.func24, Try.ntmps24
  go_wp2_with (go_at_call 42; refine HC.out.mono ?_; rintro e w1 ⟨v, ts, f, rfl, h1, h2, h3, h4⟩)
  go_ret2
  exact ⟨_, ts, f, rfl, h1, h2, h3, h4⟩
end Go.Proofs.Ytdfndbegifdejaa.PFlowExact
end
section
namespace Go.Proofs.Ytdfndbegifdejaa.PFlowExact
open Go.RowKit Go.Proofs.YtdfndbegifdejaaW.PrintWords Go.Proofs.YtdfndbegifdejaaW.PrintLast Go.Proofs.YtdfndbegifdejaaW.PrintMore
attribute [local go_sem] max2_int min2_int max_two min_two max_three min_three max_four min_four
set_option linter.unusedVariables false
set_option linter.unusedSimpArgs false
mutual
def payoffref03_Merge.l0 : Nat → List (List (S32)) → List Int → Int → Option ((List (S32)) × Int)
  | 0, _, _, _ => none
  | k + 1, x0, x4, x5 => if x5 < (x0.length : Int) then (payoffref03_Merge.l1 k x0 x4 x5 1) else (payoffref03_Merge.l2 k x0 x4 ([] : List (S32)))
def payoffref03_Merge.l1 : Nat → List (List (S32)) → List Int → Int → Int → Option ((List (S32)) × Int)
  | 0, _, _, _, _ => none
  | k + 1, x0, x4, x5, x6 => if 0 ≤ x5 then (if x5 < (x0.length : Int) then (if x6 < ((rd_L4 x0 x5).length : Int) then (if 0 ≤ x6 then (if 0 ≤ (wrap64 (x6 - 1)) then (if (wrap64 (x6 - 1)) < ((rd_L4 x0 x5).length : Int) then (if ((rd_T32 (rd_L4 x0 x5) x6).f0) < ((rd_T32 (rd_L4 x0 x5) (wrap64 (x6 - 1))).f0) then (some (([] : List (S32)), 1)) else (payoffref03_Merge.l1 k x0 x4 x5 (wrap64 (x6 + 1)))) else (none)) else (none)) else (none)) else (payoffref03_Merge.l0 k x0 x4 (wrap64 (x5 + 1)))) else (none)) else (none)
def payoffref03_Merge.l2 : Nat → List (List (S32)) → List Int → List (S32) → Option ((List (S32)) × Int)
  | 0, _, _, _ => none
  | k + 1, x0, x4, x7 => payoffref03_Merge.l3 k x0 x4 x7 (-1) 0
def payoffref03_Merge.l3 : Nat → List (List (S32)) → List Int → List (S32) → Int → Int → Option ((List (S32)) × Int)
  | 0, _, _, _, _, _ => none
  | k + 1, x0, x4, x7, x8, x9 => if x9 < (x0.length : Int) then (if 0 ≤ x9 then (if x9 < (x4.length : Int) then (if (rd x4 x9) < ((rd_L4 x0 x9).length : Int) then (if x8 < 0 then (payoffref03_Merge.l3 k x0 x4 x7 x9 (wrap64 (x9 + 1))) else (if 0 ≤ (rd x4 x9) then (if 0 ≤ x8 then (if x8 < (x0.length : Int) then (if x8 < (x4.length : Int) then (if 0 ≤ (rd x4 x8) then (if (rd x4 x8) < ((rd_L4 x0 x8).length : Int) then (if ((rd_T32 (rd_L4 x0 x9) (rd x4 x9)).f0) < ((rd_T32 (rd_L4 x0 x8) (rd x4 x8)).f0) then (payoffref03_Merge.l3 k x0 x4 x7 x9 (wrap64 (x9 + 1))) else (payoffref03_Merge.l3 k x0 x4 x7 x8 (wrap64 (x9 + 1)))) else (none)) else (none)) else (none)) else (none)) else (none)) else (none))) else (payoffref03_Merge.l3 k x0 x4 x7 x8 (wrap64 (x9 + 1)))) else (none)) else (none)) else (if x8 < 0 then (some (x7, 0)) else (if 0 ≤ x8 then (if x8 < (x0.length : Int) then (if x8 < (x4.length : Int) then (if 0 ≤ (rd x4 x8) then (if (rd x4 x8) < ((rd_L4 x0 x8).length : Int) then (if x7.length < 4398046511104 then (payoffref03_Merge.l2 k x0 (x4.set (x8 : Int).toNat (wrap64 ((rd x4 x8) + 1))) (x7 ++ [(⟨(rd_T32 (rd_L4 x0 x8) (rd x4 x8)).f0, (rd_T32 (rd_L4 x0 x8) (rd x4 x8)).f1, (rd_T32 (rd_L4 x0 x8) (rd x4 x8)).f2⟩ : S32)])) else (none)) else (none)) else (none)) else (none)) else (none)) else (none)))
end
def payoffref03_Merge.f (k : Nat) (l0 : List (List (S32))) : Option ((List (S32)) × Int) := if 0 ≤ (l0.length : Int) then (if ((l0.length : Int) : Int).toNat ≤ 35184372088832 then (payoffref03_Merge.l0 k l0 (List.replicate ((l0.length : Int) : Int).toNat 0) 0) else (none)) else (none)
theorem payoffref03_Merge.mono_l : ∀ k, (∀ y0 y1 y2, LeO (payoffref03_Merge.l0 k y0 y1 y2) (payoffref03_Merge.l0 (k + 1) y0 y1 y2)) ∧ (∀ y0 y1 y2 y3, LeO (payoffref03_Merge.l1 k y0 y1 y2 y3) (payoffref03_Merge.l1 (k + 1) y0 y1 y2 y3)) ∧ (∀ y0 y1 y2, LeO (payoffref03_Merge.l2 k y0 y1 y2) (payoffref03_Merge.l2 (k + 1) y0 y1 y2)) ∧ (∀ y0 y1 y2 y3 y4, LeO (payoffref03_Merge.l3 k y0 y1 y2 y3 y4) (payoffref03_Merge.l3 (k + 1) y0 y1 y2 y3 y4))
 | 0 => ⟨fun _ _ _ r h => by simp [payoffref03_Merge.l0] at h, fun _ _ _ _ r h => by simp [payoffref03_Merge.l1] at h, fun _ _ _ r h => by simp [payoffref03_Merge.l2] at h, fun _ _ _ _ _ r h => by simp [payoffref03_Merge.l3] at h⟩
 | k + 1 => by
  obtain ⟨ih0, ih1, ih2, ih3⟩ := payoffref03_Merge.mono_l k
  refine ⟨?_, ?_, ?_, ?_⟩
  ·intro y0 y1 y2
   unfold payoffref03_Merge.l0
   repeat' first
   | (with_reducible exact ih0 _ _ _)
   | (with_reducible exact ih1 _ _ _ _)
   | (with_reducible exact ih2 _ _ _)
   | (with_reducible exact ih3 _ _ _ _ _)
   | (with_reducible exact LeO.refl _)
   | (with_reducible exact LeO.none _)
   | (with_reducible refine LeO.ite ?_ ?_)
   | (with_reducible refine LeO.bind ?_ (fun _ => ?_))
   | exact ih0 _ _ _
   | exact ih1 _ _ _ _
   | exact ih2 _ _ _
   | exact ih3 _ _ _ _ _
   | exact LeO.none _
   | refine LeO.ite ?_ ?_
   | refine LeO.bind ?_ (fun _ => ?_)
  ·intro y0 y1 y2 y3
   unfold payoffref03_Merge.l1
   repeat' first
   | (with_reducible exact ih0 _ _ _)
   | (with_reducible exact ih1 _ _ _ _)
   | (with_reducible exact ih2 _ _ _)
   | (with_reducible exact ih3 _ _ _ _ _)
   | (with_reducible exact LeO.refl _)
   | (with_reducible exact LeO.none _)
   | (with_reducible refine LeO.ite ?_ ?_)
   | (with_reducible refine LeO.bind ?_ (fun _ => ?_))
   | exact ih0 _ _ _
   | exact ih1 _ _ _ _
   | exact ih2 _ _ _
   | exact ih3 _ _ _ _ _
   | exact LeO.none _
   | refine LeO.ite ?_ ?_
   | refine LeO.bind ?_ (fun _ => ?_)
  ·intro y0 y1 y2
   unfold payoffref03_Merge.l2
   repeat' first
   | (with_reducible exact ih0 _ _ _)
   | (with_reducible exact ih1 _ _ _ _)
   | (with_reducible exact ih2 _ _ _)
   | (with_reducible exact ih3 _ _ _ _ _)
   | (with_reducible exact LeO.refl _)
   | (with_reducible exact LeO.none _)
   | (with_reducible refine LeO.ite ?_ ?_)
   | (with_reducible refine LeO.bind ?_ (fun _ => ?_))
   | exact ih0 _ _ _
   | exact ih1 _ _ _ _
   | exact ih2 _ _ _
   | exact ih3 _ _ _ _ _
   | exact LeO.none _
   | refine LeO.ite ?_ ?_
   | refine LeO.bind ?_ (fun _ => ?_)
  ·intro y0 y1 y2 y3 y4
   unfold payoffref03_Merge.l3
   repeat' first
   | (with_reducible exact ih0 _ _ _)
   | (with_reducible exact ih1 _ _ _ _)
   | (with_reducible exact ih2 _ _ _)
   | (with_reducible exact ih3 _ _ _ _ _)
   | (with_reducible exact LeO.refl _)
   | (with_reducible exact LeO.none _)
   | (with_reducible refine LeO.ite ?_ ?_)
   | (with_reducible refine LeO.bind ?_ (fun _ => ?_))
   | exact ih0 _ _ _
   | exact ih1 _ _ _ _
   | exact ih2 _ _ _
   | exact ih3 _ _ _ _ _
   | exact LeO.none _
   | refine LeO.ite ?_ ?_
   | refine LeO.bind ?_ (fun _ => ?_)
theorem payoffref03_Merge.mono : ∀ a0 k, LeO (payoffref03_Merge.f k a0) (payoffref03_Merge.f (k + 1) a0) := by
 intro a0 k
 obtain ⟨ih0, ih1, ih2, ih3⟩ := payoffref03_Merge.mono_l k
 unfold payoffref03_Merge.f
 repeat' first
  | (with_reducible exact ih0 _ _ _)
  | (with_reducible exact ih1 _ _ _ _)
  | (with_reducible exact ih2 _ _ _)
  | (with_reducible exact ih3 _ _ _ _ _)
  | (with_reducible exact LeO.refl _)
  | (with_reducible exact LeO.none _)
  | (with_reducible refine LeO.ite ?_ ?_)
  | (with_reducible refine LeO.bind ?_ (fun _ => ?_))
  | exact ih0 _ _ _
  | exact ih1 _ _ _ _
  | exact ih2 _ _ _
  | exact ih3 _ _ _ _ _
  | exact LeO.none _
  | refine LeO.ite ?_ ?_
  | refine LeO.bind ?_ (fun _ => ?_)
def payoffref03_Merge.T8 : Bool × List (List Nat × List Nat) := (true, [([], []), ([], []), ([0, 1], [0, 1]), ([2], [2]), ([], []), ([3, 4], [3, 4]), ([5], [5]), ([6], [6]), ([], []), ([], []), ([8, 9], [8, 9]), ([10], [10]), ([], []), ([12], [12]), ([11, 13], [11, 13]), ([14], [14]), ([15], [15]), ([7, 16], [7, 16])])
def payoffref03_Merge.B8 : List Nat := [0, 0, 3, 7, 0, 31, 63, 127, 0, 0, 768, 1792, 0, 4096, 16128, 32512, 65280, 131071]
theorem payoffref03_Merge.tab8 : rtab .any (opsOf Try.f23 8) = payoffref03_Merge.T8 := by kernel_rfl
theorem payoffref03_Merge.bits8 : waitsOk payoffref03_Merge.T8.2 payoffref03_Merge.B8 = true := by kernel_rfl
def payoffref03_Merge.T15 : Bool × List (List Nat × List Nat) := (true, [([], []), ([], []), ([0, 1], [0, 1]), ([2], [2]), ([], []), ([], []), ([4, 5], [4, 5]), ([6], [6]), ([7], [7]), ([3, 8], [3, 8]), ([9], [9]), ([10], [10]), ([11, 10], [10, 11]), ([12, 10, 10], [10, 12]), ([13], [13]), ([13], [13]), ([14, 15, 13], [13, 14, 15]), ([16, 13], [13, 16]), ([13], [13]), ([13], [13]), ([18, 19, 13], [13, 18, 19]), ([20, 13], [13, 20]), ([17, 21, 13], [13, 17, 21]), ([22, 13], [13, 22]), ([23, 13], [13, 23]), ([13], [13]), ([13], [13]), ([25, 26, 13], [13, 25, 26]), ([27, 13], [13, 27]), ([13], [13]), ([13], [13]), ([29, 30, 13], [13, 29, 30]), ([31, 13], [13, 31]), ([28, 32, 13], [13, 28, 32]), ([33, 13], [13, 33]), ([34, 13], [13, 34]), ([24, 35, 13], [13, 24, 35]), ([13, 36, 10], [10, 13, 36]), ([10, 37], [10, 37])])
def payoffref03_Merge.B15 : List Nat := [0, 0, 3, 7, 0, 0, 48, 112, 240, 511, 1023, 2047, 4095, 8191, 16383, 16383, 65535, 131071, 16383, 16383, 802815, 1851391, 4194303, 8388607, 16777215, 16383, 16383, 100679679, 234897407, 16383, 16383, 1610629119, 3758112767, 8556396543, 17146331135, 34326200319, 68719476735, 137438953471, 274877906943]
theorem payoffref03_Merge.tab15 : rtab .any (opsOf Try.f23 15) = payoffref03_Merge.T15 := by kernel_rfl
theorem payoffref03_Merge.bits15 : waitsOk payoffref03_Merge.T15.2 payoffref03_Merge.B15 = true := by kernel_rfl
def payoffref03_Merge.T19 : Bool × List (List Nat × List Nat) := (true, [([], []), ([], []), ([], []), ([1, 2], [1, 2]), ([3], [3]), ([], []), ([], []), ([5, 6], [5, 6]), ([7], [7]), ([4, 8], [4, 8]), ([9], [9]), ([10], [10]), ([0, 11], [0, 11]), ([12, 12, 0, 1, 2, 3, 4, 5, 6, 7, 8, 9, 10, 11, 12], [0, 12])])
def payoffref03_Merge.B19 : List Nat := [0, 0, 0, 6, 14, 0, 0, 96, 224, 510, 1022, 2046, 4095, 8191]
theorem payoffref03_Merge.tab19 : rtab .any (opsOf Try.f23 19) = payoffref03_Merge.T19 := by kernel_rfl
theorem payoffref03_Merge.bits19 : waitsOk payoffref03_Merge.T19.2 payoffref03_Merge.B19 = true := by kernel_rfl
set_option maxHeartbeats 8000000 in
set_option maxRecDepth 100000 in
theorem payoffref03_Merge.calls (k : Nat) (A0 : Option Addr) (c0 : Nat) (l0 : List (List (S32))) (r1 : List (S32)) (r2 : Int) (w : World) (hr0 : Kd.C (Kd.slice 32 k32) w A0 l0.length l0) (hc0 : l0.length ≤ c0) (h : payoffref03_Merge.f k l0 = some (r1, r2)) :
  Calls Try.prog 23 #[.slice A0 l0.length c0] w fun e w' => ∃ v0_ : Value, e = .returned (.tuple #[v0_, .int .i64 r2]) ∧ Kd.R k32 32 w' w.heap.size (fun _ => True) v0_ r1 ∧ Below w.heap.size w w' := by
 have hu32 := Try.underlying32
 have HR0 := ak hr0
 have HC0 := ak hc0
 clear hr0 hc0
 have HB := ak (Below.refl w.heap.size w)
 have H : (if 0 ≤ (l0.length : Int) then (if ((l0.length : Int) : Int).toNat ≤ 35184372088832 then (payoffref03_Merge.l0 k l0 (List.replicate ((l0.length : Int) : Int).toNat 0) 0) else (none)) else (none)) = some (r1, r2) := h
 clear h
 by_cases c2 : 0 ≤ (l0.length : Int)
 ·rw [if_pos c2] at H
  have c2b0 := eq_true c2
  have c2b1 := decide_eq_true c2
  clear c2
  by_cases c3 : ((l0.length : Int) : Int).toNat ≤ 35184372088832
  ·rw [if_pos c3] at H
   have c3b0 := eq_true c3
   have c3b1 := decide_eq_true c3
   clear c3
   obtain ⟨y220, hy220⟩ : ∃ y_ : List Int, y_ = (List.replicate ((l0.length : Int) : Int).toNat 0) := ⟨_, rfl⟩
   replace H : (payoffref03_Merge.l0 k l0 y220 0) = some (r1, r2) := by first | (rw [hy220]; with_reducible exact H) | (have H2_ := (Option.bind_some _ _).symm.trans H; rw [hy220]; with_reducible exact H2_) | (have H2_ := (Option.bind_some _ _).symm.trans H; with_reducible exact H2_) | with_reducible exact H | (rw [hy220]; exact H) | exact H
   have Ny220 := ak hy220
   clear hy220
   have H' := ak H
   clear H
   go_enter Try.func23, Try.ntmps23
   go_wp2_with (first | ((with_reducible refine gate_dst (N := 12) rfl ?_); refine Kd.R_make (Kd.int .i64) _ 3 rfl (N := 12) rfl 74 _ _ rfl (l0.length : Int) rfl rfl Try.underlying74 (.int .i64 0) 8 info3 rfl (by decide) (by omega) 0 (ok := fun _ => True) (okp := fun _ => True) rfl (fun _ hk => hk) trivial (of_decide_eq_true (by first | (with_reducible assumption) | assumption)) (Nat.le_trans (Nat.mul_le_mul_right _ (of_decide_eq_true (by first | (with_reducible assumption) | assumption) : (l0.length : Int).toNat ≤ 35184372088832)) (by omega)) (Below.refl _ _) (Nat.le_refl _) ?_; intro v221 w4 ho5 hb hg_ hnew_; clear hg_ hnew_; (first | rw [← Ny220.out] at ho5 | (simp only [Int.reduceToNat] at ho5; rw [← Ny220.out] at ho5)); have HO222 := ak (Kd.R_lower ho5 (below_size (by repeat (first | (with_reducible first | exact HB.out | apply below_alloc | apply pw_below_drewN | apply below_drew1) | exact HB.out)))); replace HB := ak (below_step (by repeat (first | (with_reducible first | exact HB.out | apply below_alloc | apply pw_below_drewN | apply below_drew1) | exact HB.out)) hb); clear hb ho5))
   go_loopg [5] k (fun kq v5 w' => ∃ (x5_1 : Int), v5 = .int .i64 x5_1 ∧ Aside0 (payoffref03_Merge.l0 kq l0 y220 x5_1 = some (r1, r2)) ∧ Aside0 (kq ≤ k) ∧ Aside0 (Kd.R (Kd.int .i64) 3 w' w.heap.size (fun _ => True) v221 y220) ∧ Aside0 (Below w.heap.size w w'))
   case atStart => exact ⟨(0), (by first | rfl | (simp; done) | (simp [*]; done)), H', ⟨Nat.le_refl _⟩, ⟨by (with_reducible repeat (first | apply Kd.R_alloc | apply Kd.R_drewN | apply Kd.R_drew)); exact HO222.out⟩, ⟨by repeat (first | (with_reducible first | exact HB.out | apply below_alloc | apply pw_below_drewN | apply below_drew1) | exact HB.out)⟩⟩
   case round =>
    clear H'
    try clear c2
    try clear c2b0
    try clear c2b1
    try clear p2
    try clear c3
    try clear c3b0
    try clear c3b1
    obtain ⟨x5_1, rfl, HA, HK1, HO_4, HB⟩ := hrel
    cases gk with
    | zero => exact absurd HA.out (by simp [payoffref03_Merge.l0])
    | succ k1 =>
     have H := HA.out
     clear HA
     simp only [payoffref03_Merge.l0] at H
     by_cases c6 : x5_1 < (l0.length : Int)
     ·rw [if_pos c6] at H
      have c6b0 := decide_eq_true c6
      clear c6
      have H' := ak H
      clear H
      go_wp2
      go_loopg [6] k1 (fun kq v6 w' => ∃ (x6_2 : Int), v6 = .int .i64 x6_2 ∧ Aside0 (payoffref03_Merge.l1 kq l0 y220 x5_1 x6_2 = some (r1, r2)) ∧ Aside0 (kq ≤ k1) ∧ Aside0 (Kd.R (Kd.int .i64) 3 w' w.heap.size (fun _ => True) v221 y220) ∧ Aside0 (Below w.heap.size w w'))
      case atStart => exact ⟨(1), (by first | rfl | (simp; done) | (simp [*]; done)), H', ⟨Nat.le_refl _⟩, ⟨by (with_reducible repeat (first | apply Kd.R_alloc | apply Kd.R_drewN | apply Kd.R_drew)); exact HO_4.out⟩, ⟨by repeat (first | (with_reducible first | exact HB.out | apply below_alloc | apply pw_below_drewN | apply below_drew1) | exact HB.out)⟩⟩
      case round =>
       clear H'
       try clear c2
       try clear c2b0
       try clear c2b1
       try clear p2
       try clear c3
       try clear c3b0
       try clear c3b1
       try clear c6
       try clear c6b0
       try clear p2
       obtain ⟨x6_2, rfl, HA, HK2, HO_4, HB⟩ := hrel
       cases gk with
       | zero => exact absurd HA.out (by simp [payoffref03_Merge.l1])
       | succ k2 =>
        have H := HA.out
        clear HA
        simp only [payoffref03_Merge.l1] at H
        by_cases c7 : 0 ≤ x5_1
        ·rw [if_pos c7] at H
         have c7b0 := decide_eq_true c7
         clear c7
         by_cases c8 : x5_1 < (l0.length : Int)
         ·rw [if_pos c8] at H
          have c8b0 := decide_eq_true c8
          clear c8
          by_cases c9 : x6_2 < ((rd_L4 l0 x5_1).length : Int)
          ·rw [if_pos c9] at H
           have c9b0 := decide_eq_true c9
           clear c9
           by_cases c10 : 0 ≤ x6_2
           ·rw [if_pos c10] at H
            have c10b0 := decide_eq_true c10
            clear c10
            obtain ⟨ji11, hji11⟩ : ∃ j_ : Int, (wrap64 (x6_2 - 1)) = j_ := ⟨_, rfl⟩
            replace H : (if 0 ≤ (ji11) then (if (ji11) < ((rd_L4 l0 x5_1).length : Int) then (if ((rd_T32 (rd_L4 l0 x5_1) x6_2).f0) < ((rd_T32 (rd_L4 l0 x5_1) (ji11)).f0) then (some (([] : List (S32)), 1)) else (payoffref03_Merge.l1 k2 l0 y220 x5_1 (wrap64 (x6_2 + 1)))) else (none)) else (none)) = some (r1, r2) := by first | (rw [hji11] at H; exact H) | (simp only [hji11] at H ⊢; exact H)
            have hji11w : (IntKind.i64.wrap (x6_2 - 1)) = ji11 := (i64_w _).trans hji11
            by_cases c12 : 0 ≤ (ji11)
            ·rw [if_pos c12] at H
             have c12b0 := decide_eq_true c12
             clear c12
             by_cases c13 : (ji11) < ((rd_L4 l0 x5_1).length : Int)
             ·rw [if_pos c13] at H
              have c13b0 := decide_eq_true c13
              clear c13
              by_cases c14 : ((rd_T32 (rd_L4 l0 x5_1) x6_2).f0) < ((rd_T32 (rd_L4 l0 x5_1) (ji11)).f0)
              ·rw [if_pos c14] at H
               have c14b0 := decide_eq_true c14
               clear c14
               simp only [Option.some.injEq, Prod.mk.injEq] at H
               obtain ⟨rfl, rfl⟩ := H
               have p223 : 0 ≤ (x5_1 : Int) := of_decide_eq_true (by first | (with_reducible assumption) | assumption)
               have q223 : x5_1 < (l0.length : Int) := of_decide_eq_true (by first | (with_reducible assumption) | assumption)
               obtain ⟨ad223, A223_0, c223_0, e223, hx223_0, hl223_0, hi223_0⟩ := at_L4 HR0.out x5_1 p223 q223
               cases e223
               replace hx223_0 := (HB.out.cell (World.block_lt_of_cell? w _ hx223_0)).trans hx223_0
               have HR223_0 := ak hi223_0
               have HC223_0 := ak hl223_0
               clear hi223_0 hl223_0
               replace p223 := eq_true p223
               replace q223 := eq_true q223
               try go_wp2
               replace HO_4 := ak (Kd.R_drew HO_4.out)
               replace HB := ak (below_drew1 HB.out)
               have p224 : 0 ≤ (x5_1 : Int) := of_decide_eq_true (by first | (with_reducible assumption) | assumption)
               have q224 : x5_1 < (l0.length : Int) := of_decide_eq_true (by first | (with_reducible assumption) | assumption)
               obtain ⟨ad224, A224_0, c224_0, e224, hx224_0, hl224_0, hi224_0⟩ := at_L4 HR0.out x5_1 p224 q224
               have hw224_0 := hx224_0
               obtain rfl : ad223 = ad224 := (by injection e224)
               replace hx224_0 := (HB.out.cell (World.block_lt_of_cell? w _ hx224_0)).trans hx224_0
               have HR224_0 := ak hi224_0
               have HC224_0 := ak hl224_0
               clear hi224_0 hl224_0
               replace p224 := eq_true p224
               replace q224 := eq_true q224
               have p225 : 0 ≤ (x6_2 : Int) := of_decide_eq_true (by first | (with_reducible assumption) | assumption)
               have q225 : x6_2 < ((rd_L4 l0 x5_1).length : Int) := of_decide_eq_true (by first | (with_reducible assumption) | assumption)
               obtain ⟨ad225, e225, hx225_0, hx225_1, hx225_2⟩ := at_T32 HR224_0.out x6_2 p225 q225
               have hw225_2 := hx225_2
               have hw225_1 := hx225_1
               have hw225_0 := hx225_0
               cases e225
               replace hx225_0 := (HB.out.cell (World.block_lt_of_cell? w _ hx225_0)).trans hx225_0
               replace hx225_1 := (HB.out.cell (World.block_lt_of_cell? w _ hx225_1)).trans hx225_1
               replace hx225_2 := (HB.out.cell (World.block_lt_of_cell? w _ hx225_2)).trans hx225_2
               replace p225 := eq_true p225
               replace q225 := eq_true q225
               have p226 : 0 ≤ (x5_1 : Int) := of_decide_eq_true (by first | (with_reducible assumption) | assumption)
               have q226 : x5_1 < (l0.length : Int) := of_decide_eq_true (by first | (with_reducible assumption) | assumption)
               obtain ⟨ad226, A226_0, c226_0, e226, hx226_0, hl226_0, hi226_0⟩ := at_L4 HR0.out x5_1 p226 q226
               have hw226_0 := hx226_0
               obtain rfl : ad223 = ad226 := (by injection e226)
               replace hx226_0 := (HB.out.cell (World.block_lt_of_cell? w _ hx226_0)).trans hx226_0
               have HR226_0 := ak hi226_0
               have HC226_0 := ak hl226_0
               clear hi226_0 hl226_0
               replace p226 := eq_true p226
               replace q226 := eq_true q226
               have ea_ := Option.some.inj (hx224_0.symm.trans hx226_0)
               injection ea_ with ea_ en_ ec_
               subst ea_
               subst ec_
               clear en_
               have p227 : 0 ≤ ((ji11) : Int) := of_decide_eq_true (by first | (with_reducible assumption) | assumption)
               have q227 : (ji11) < ((rd_L4 l0 x5_1).length : Int) := of_decide_eq_true (by first | (with_reducible assumption) | assumption)
               obtain ⟨ad227, e227, hx227_0, hx227_1, hx227_2⟩ := at_T32 HR226_0.out (ji11) p227 q227
               have hw227_2 := hx227_2
               have hw227_1 := hx227_1
               have hw227_0 := hx227_0
               cases e227
               replace hx227_0 := (HB.out.cell (World.block_lt_of_cell? w _ hx227_0)).trans hx227_0
               replace hx227_1 := (HB.out.cell (World.block_lt_of_cell? w _ hx227_1)).trans hx227_1
               replace hx227_2 := (HB.out.cell (World.block_lt_of_cell? w _ hx227_2)).trans hx227_2
               replace p227 := eq_true p227
               replace q227 := eq_true q227
               refine start_ (n := 18) (S := fun w' => w'.cell? (ad223.add (x5_1).toNat) = some (.slice (some ad225) (rd_L4 l0 x5_1).length c224_0) ∧ w'.cell? (ad225.add ((x6_2).toNat * 3)) = some (.int .i64 ((rd_T32 (rd_L4 l0 x5_1) x6_2).f0)) ∧ w'.cell? ⟨(ad225.add ((x6_2).toNat * 3)).block, (ad225.add ((x6_2).toNat * 3)).off + 1, none⟩ = some (.string ((rd_T32 (rd_L4 l0 x5_1) x6_2).f1)) ∧ w'.cell? ⟨(ad225.add ((x6_2).toNat * 3)).block, (ad225.add ((x6_2).toNat * 3)).off + 2, none⟩ = some (.int .i64 ((rd_T32 (rd_L4 l0 x5_1) x6_2).f2)) ∧ w'.cell? (ad223.add (x5_1).toNat) = some (.slice (some ad225) (rd_L4 l0 x5_1).length c224_0) ∧ w'.cell? (ad225.add (((ji11)).toNat * 3)) = some (.int .i64 ((rd_T32 (rd_L4 l0 x5_1) (ji11)).f0)) ∧ w'.cell? ⟨(ad225.add (((ji11)).toNat * 3)).block, (ad225.add (((ji11)).toNat * 3)).off + 1, none⟩ = some (.string ((rd_T32 (rd_L4 l0 x5_1) (ji11)).f1)) ∧ w'.cell? ⟨(ad225.add (((ji11)).toNat * 3)).block, (ad225.add (((ji11)).toNat * 3)).off + 2, none⟩ = some (.int .i64 ((rd_T32 (rd_L4 l0 x5_1) (ji11)).f2))) (ds := []) (Go.ba 18 0) (by kernel_rfl) rfl rfl ⟨((HB.out.cell (World.block_lt_of_cell? w _ hw224_0)).trans hw224_0), ((HB.out.cell (World.block_lt_of_cell? w _ hw225_0)).trans hw225_0), ((HB.out.cell (World.block_lt_of_cell? w _ hw225_1)).trans hw225_1), ((HB.out.cell (World.block_lt_of_cell? w _ hw225_2)).trans hw225_2), ((HB.out.cell (World.block_lt_of_cell? w _ hw226_0)).trans hw226_0), ((HB.out.cell (World.block_lt_of_cell? w _ hw227_0)).trans hw227_0), ((HB.out.cell (World.block_lt_of_cell? w _ hw227_1)).trans hw227_1), ((HB.out.cell (World.block_lt_of_cell? w _ hw227_2)).trans hw227_2)⟩ (fun hHeld => ?_); refine with_tabW payoffref03_Merge.tab8 payoffref03_Merge.bits8 (fun HT_ HW_ => ?_)
               generalize wr.drew = w15 at HO_4 HB HR224_0 HR226_0 hx224_0 hx225_0 hx225_1 hx225_2 hx226_0 hx227_0 hx227_1 hx227_2 hHeld ⊢
               refine pu 0 28 (Go.ba 18 1) (any_of HT_.out (by kernel_rfl)) ?_
               refine pu 1 29 (Go.ba 18 3) (any_of HT_.out (by kernel_rfl)) ?_
               refine pu 2 30 (Go.ba 18 7) (any_of HT_.out (by kernel_rfl)) ?_
               refine pu 4 32 (Go.ba 18 23) (any_of HT_.out (by kernel_rfl)) ?_
               refine pu 8 36 (Go.ba 18 279) (any_of HT_.out (by kernel_rfl)) ?_
               refine pu 9 37 (Go.ba 18 791) (any_of HT_.out (by kernel_rfl)) ?_
               refine pu 10 38 (Go.ba 18 1815) (any_of HT_.out (by kernel_rfl)) ?_
               refine pu 12 40 (Go.ba 18 5911) (any_of HT_.out (by kernel_rfl)) ?_
               refine pu 13 41 (Go.ba 18 14103) (any_of HT_.out (by kernel_rfl)) ?_
               refine tk 3 31 (Go.ba 18 14111) (take_ofW HT_.out HW_.out (by kernel_rfl)) hHeld ?_ (hy := by rintro w' ⟨s0, s1, s2, s3, s4, s5, s6, s7⟩; go_simp; with_reducible rfl)
               refine pu 5 33 (Go.ba 18 14143) (any_of HT_.out (by kernel_rfl)) ?_
               refine pu 6 34 (Go.ba 18 14207) (any_of HT_.out (by kernel_rfl)) ?_
               refine tk 7 35 (Go.ba 18 14335) (take_ofW HT_.out HW_.out (by kernel_rfl)) hHeld ?_ (hy := by rintro w' ⟨s0, s1, s2, s3, s4, s5, s6, s7⟩; go_simp; with_reducible rfl)
               refine tk 11 39 (Go.ba 18 16383) (take_ofW HT_.out HW_.out (by kernel_rfl)) hHeld ?_ (hy := by rintro w' ⟨s0, s1, s2, s3, s4, s5, s6, s7⟩; go_simp; with_reducible rfl)
               refine pu 14 42 (Go.ba 18 32767) (any_of HT_.out (by kernel_rfl)) ?_
               refine pu 15 43 (Go.ba 18 65535) (any_of HT_.out (by kernel_rfl)) ?_
               refine tk 16 44 (Go.ba 18 131071) (take_ofW HT_.out HW_.out (by kernel_rfl)) hHeld ?_ (hy := by rintro w' ⟨s0, s1, s2, s3, s4, s5, s6, s7⟩; go_simp; with_reducible rfl)
               refine pu 17 45 (Go.ba 18 262143) (any_of HT_.out (by kernel_rfl)) ?_
               refine done_ (done_of HT_.out (by kernel_rfl)) ?_
               try go_wp2
               go_ret2
               exact ⟨_, by first | rfl | (simp [errW_none, errW_some] <;> rfl) | (simp only [← hji11]; first | rfl | (simp [errW_none, errW_some] <;> rfl)) | (simp [*, errW_none, errW_some] <;> rfl), by first | exact Kd.R_nil _ _ _ _ _ | exact Kd.N_nil _ _ _ _ _ | exact Kd.V_nil _ _ _ _ _ | exact Kd.Q_nil _ _ _ _ _ | exact Kd.S_nil _ _ _ _ _, by repeat (first | (with_reducible first | exact HB.out | apply below_alloc | apply pw_below_drewN | apply below_drew1) | exact HB.out)⟩
              ·rw [if_neg c14] at H
               have c14b0 := decide_eq_false c14
               clear c14
               have H' := ak H
               clear H
               have p223 : 0 ≤ (x5_1 : Int) := of_decide_eq_true (by first | (with_reducible assumption) | assumption)
               have q223 : x5_1 < (l0.length : Int) := of_decide_eq_true (by first | (with_reducible assumption) | assumption)
               obtain ⟨ad223, A223_0, c223_0, e223, hx223_0, hl223_0, hi223_0⟩ := at_L4 HR0.out x5_1 p223 q223
               cases e223
               replace hx223_0 := (HB.out.cell (World.block_lt_of_cell? w _ hx223_0)).trans hx223_0
               have HR223_0 := ak hi223_0
               have HC223_0 := ak hl223_0
               clear hi223_0 hl223_0
               replace p223 := eq_true p223
               replace q223 := eq_true q223
               try go_wp2
               replace HO_4 := ak (Kd.R_drew HO_4.out)
               replace HB := ak (below_drew1 HB.out)
               have p224 : 0 ≤ (x5_1 : Int) := of_decide_eq_true (by first | (with_reducible assumption) | assumption)
               have q224 : x5_1 < (l0.length : Int) := of_decide_eq_true (by first | (with_reducible assumption) | assumption)
               obtain ⟨ad224, A224_0, c224_0, e224, hx224_0, hl224_0, hi224_0⟩ := at_L4 HR0.out x5_1 p224 q224
               have hw224_0 := hx224_0
               obtain rfl : ad223 = ad224 := (by injection e224)
               replace hx224_0 := (HB.out.cell (World.block_lt_of_cell? w _ hx224_0)).trans hx224_0
               have HR224_0 := ak hi224_0
               have HC224_0 := ak hl224_0
               clear hi224_0 hl224_0
               replace p224 := eq_true p224
               replace q224 := eq_true q224
               have p225 : 0 ≤ (x6_2 : Int) := of_decide_eq_true (by first | (with_reducible assumption) | assumption)
               have q225 : x6_2 < ((rd_L4 l0 x5_1).length : Int) := of_decide_eq_true (by first | (with_reducible assumption) | assumption)
               obtain ⟨ad225, e225, hx225_0, hx225_1, hx225_2⟩ := at_T32 HR224_0.out x6_2 p225 q225
               have hw225_2 := hx225_2
               have hw225_1 := hx225_1
               have hw225_0 := hx225_0
               cases e225
               replace hx225_0 := (HB.out.cell (World.block_lt_of_cell? w _ hx225_0)).trans hx225_0
               replace hx225_1 := (HB.out.cell (World.block_lt_of_cell? w _ hx225_1)).trans hx225_1
               replace hx225_2 := (HB.out.cell (World.block_lt_of_cell? w _ hx225_2)).trans hx225_2
               replace p225 := eq_true p225
               replace q225 := eq_true q225
               have p226 : 0 ≤ (x5_1 : Int) := of_decide_eq_true (by first | (with_reducible assumption) | assumption)
               have q226 : x5_1 < (l0.length : Int) := of_decide_eq_true (by first | (with_reducible assumption) | assumption)
               obtain ⟨ad226, A226_0, c226_0, e226, hx226_0, hl226_0, hi226_0⟩ := at_L4 HR0.out x5_1 p226 q226
               have hw226_0 := hx226_0
               obtain rfl : ad223 = ad226 := (by injection e226)
               replace hx226_0 := (HB.out.cell (World.block_lt_of_cell? w _ hx226_0)).trans hx226_0
               have HR226_0 := ak hi226_0
               have HC226_0 := ak hl226_0
               clear hi226_0 hl226_0
               replace p226 := eq_true p226
               replace q226 := eq_true q226
               have ea_ := Option.some.inj (hx224_0.symm.trans hx226_0)
               injection ea_ with ea_ en_ ec_
               subst ea_
               subst ec_
               clear en_
               have p227 : 0 ≤ ((ji11) : Int) := of_decide_eq_true (by first | (with_reducible assumption) | assumption)
               have q227 : (ji11) < ((rd_L4 l0 x5_1).length : Int) := of_decide_eq_true (by first | (with_reducible assumption) | assumption)
               obtain ⟨ad227, e227, hx227_0, hx227_1, hx227_2⟩ := at_T32 HR226_0.out (ji11) p227 q227
               have hw227_2 := hx227_2
               have hw227_1 := hx227_1
               have hw227_0 := hx227_0
               cases e227
               replace hx227_0 := (HB.out.cell (World.block_lt_of_cell? w _ hx227_0)).trans hx227_0
               replace hx227_1 := (HB.out.cell (World.block_lt_of_cell? w _ hx227_1)).trans hx227_1
               replace hx227_2 := (HB.out.cell (World.block_lt_of_cell? w _ hx227_2)).trans hx227_2
               replace p227 := eq_true p227
               replace q227 := eq_true q227
               refine start_ (n := 18) (S := fun w' => w'.cell? (ad223.add (x5_1).toNat) = some (.slice (some ad225) (rd_L4 l0 x5_1).length c224_0) ∧ w'.cell? (ad225.add ((x6_2).toNat * 3)) = some (.int .i64 ((rd_T32 (rd_L4 l0 x5_1) x6_2).f0)) ∧ w'.cell? ⟨(ad225.add ((x6_2).toNat * 3)).block, (ad225.add ((x6_2).toNat * 3)).off + 1, none⟩ = some (.string ((rd_T32 (rd_L4 l0 x5_1) x6_2).f1)) ∧ w'.cell? ⟨(ad225.add ((x6_2).toNat * 3)).block, (ad225.add ((x6_2).toNat * 3)).off + 2, none⟩ = some (.int .i64 ((rd_T32 (rd_L4 l0 x5_1) x6_2).f2)) ∧ w'.cell? (ad223.add (x5_1).toNat) = some (.slice (some ad225) (rd_L4 l0 x5_1).length c224_0) ∧ w'.cell? (ad225.add (((ji11)).toNat * 3)) = some (.int .i64 ((rd_T32 (rd_L4 l0 x5_1) (ji11)).f0)) ∧ w'.cell? ⟨(ad225.add (((ji11)).toNat * 3)).block, (ad225.add (((ji11)).toNat * 3)).off + 1, none⟩ = some (.string ((rd_T32 (rd_L4 l0 x5_1) (ji11)).f1)) ∧ w'.cell? ⟨(ad225.add (((ji11)).toNat * 3)).block, (ad225.add (((ji11)).toNat * 3)).off + 2, none⟩ = some (.int .i64 ((rd_T32 (rd_L4 l0 x5_1) (ji11)).f2))) (ds := []) (Go.ba 18 0) (by kernel_rfl) rfl rfl ⟨((HB.out.cell (World.block_lt_of_cell? w _ hw224_0)).trans hw224_0), ((HB.out.cell (World.block_lt_of_cell? w _ hw225_0)).trans hw225_0), ((HB.out.cell (World.block_lt_of_cell? w _ hw225_1)).trans hw225_1), ((HB.out.cell (World.block_lt_of_cell? w _ hw225_2)).trans hw225_2), ((HB.out.cell (World.block_lt_of_cell? w _ hw226_0)).trans hw226_0), ((HB.out.cell (World.block_lt_of_cell? w _ hw227_0)).trans hw227_0), ((HB.out.cell (World.block_lt_of_cell? w _ hw227_1)).trans hw227_1), ((HB.out.cell (World.block_lt_of_cell? w _ hw227_2)).trans hw227_2)⟩ (fun hHeld => ?_); refine with_tabW payoffref03_Merge.tab8 payoffref03_Merge.bits8 (fun HT_ HW_ => ?_)
               generalize wr.drew = w16 at HO_4 HB HR224_0 HR226_0 hx224_0 hx225_0 hx225_1 hx225_2 hx226_0 hx227_0 hx227_1 hx227_2 hHeld ⊢
               refine pu 0 28 (Go.ba 18 1) (any_of HT_.out (by kernel_rfl)) ?_
               refine pu 1 29 (Go.ba 18 3) (any_of HT_.out (by kernel_rfl)) ?_
               refine pu 2 30 (Go.ba 18 7) (any_of HT_.out (by kernel_rfl)) ?_
               refine pu 4 32 (Go.ba 18 23) (any_of HT_.out (by kernel_rfl)) ?_
               refine pu 8 36 (Go.ba 18 279) (any_of HT_.out (by kernel_rfl)) ?_
               refine pu 9 37 (Go.ba 18 791) (any_of HT_.out (by kernel_rfl)) ?_
               refine pu 10 38 (Go.ba 18 1815) (any_of HT_.out (by kernel_rfl)) ?_
               refine pu 12 40 (Go.ba 18 5911) (any_of HT_.out (by kernel_rfl)) ?_
               refine pu 13 41 (Go.ba 18 14103) (any_of HT_.out (by kernel_rfl)) ?_
               refine tk 3 31 (Go.ba 18 14111) (take_ofW HT_.out HW_.out (by kernel_rfl)) hHeld ?_ (hy := by rintro w' ⟨s0, s1, s2, s3, s4, s5, s6, s7⟩; go_simp; with_reducible rfl)
               refine pu 5 33 (Go.ba 18 14143) (any_of HT_.out (by kernel_rfl)) ?_
               refine pu 6 34 (Go.ba 18 14207) (any_of HT_.out (by kernel_rfl)) ?_
               refine tk 7 35 (Go.ba 18 14335) (take_ofW HT_.out HW_.out (by kernel_rfl)) hHeld ?_ (hy := by rintro w' ⟨s0, s1, s2, s3, s4, s5, s6, s7⟩; go_simp; with_reducible rfl)
               refine tk 11 39 (Go.ba 18 16383) (take_ofW HT_.out HW_.out (by kernel_rfl)) hHeld ?_ (hy := by rintro w' ⟨s0, s1, s2, s3, s4, s5, s6, s7⟩; go_simp; with_reducible rfl)
               refine pu 14 42 (Go.ba 18 32767) (any_of HT_.out (by kernel_rfl)) ?_
               refine pu 15 43 (Go.ba 18 65535) (any_of HT_.out (by kernel_rfl)) ?_
               refine tk 16 44 (Go.ba 18 131071) (take_ofW HT_.out HW_.out (by kernel_rfl)) hHeld ?_ (hy := by rintro w' ⟨s0, s1, s2, s3, s4, s5, s6, s7⟩; go_simp; with_reducible rfl)
               refine pu 17 45 (Go.ba 18 262143) (any_of HT_.out (by kernel_rfl)) ?_
               refine done_ (done_of HT_.out (by kernel_rfl)) ?_
               try go_wp2
               go_roundg k2
               case measure => have := HK1.out; have := HK2.out; omega
               case rel => exact ⟨(wrap64 (x6_2 + 1)), (by first | rfl | (simp; done) | (simp [*]; done)), H', ⟨by have := HK1.out; have := HK2.out; omega⟩, ⟨by (with_reducible repeat (first | apply Kd.R_alloc | apply Kd.R_drewN | apply Kd.R_drew)); exact HO_4.out⟩, ⟨by repeat (first | (with_reducible first | exact HB.out | apply below_alloc | apply pw_below_drewN | apply below_drew1) | exact HB.out)⟩⟩
             ·rw [if_neg c13] at H
              exact absurd H (by simp)
            ·rw [if_neg c12] at H
             exact absurd H (by simp)
           ·rw [if_neg c10] at H
            exact absurd H (by simp)
          ·rw [if_neg c9] at H
           have c9b0 := decide_eq_false c9
           clear c9
           have H' := ak H
           clear H
           have p223 : 0 ≤ (x5_1 : Int) := of_decide_eq_true (by first | (with_reducible assumption) | assumption)
           have q223 : x5_1 < (l0.length : Int) := of_decide_eq_true (by first | (with_reducible assumption) | assumption)
           obtain ⟨ad223, A223_0, c223_0, e223, hx223_0, hl223_0, hi223_0⟩ := at_L4 HR0.out x5_1 p223 q223
           cases e223
           replace hx223_0 := (HB.out.cell (World.block_lt_of_cell? w _ hx223_0)).trans hx223_0
           have HR223_0 := ak hi223_0
           have HC223_0 := ak hl223_0
           clear hi223_0 hl223_0
           replace p223 := eq_true p223
           replace q223 := eq_true q223
           go_wp2
           go_roundg k2
           case measure => have := HK1.out; have := HK2.out; omega
           case rel => exact ⟨(wrap64 (x5_1 + 1)), (by first | rfl | (simp; done) | (simp [*]; done)), H', ⟨by have := HK1.out; have := HK2.out; omega⟩, ⟨by (with_reducible repeat (first | apply Kd.R_alloc | apply Kd.R_drewN | apply Kd.R_drew)); exact HO_4.out⟩, ⟨by repeat (first | (with_reducible first | exact HB.out | apply below_alloc | apply pw_below_drewN | apply below_drew1) | exact HB.out)⟩⟩
         ·rw [if_neg c8] at H
          exact absurd H (by simp)
        ·rw [if_neg c7] at H
         exact absurd H (by simp)
     ·rw [if_neg c6] at H
      have c6b0 := decide_eq_false c6
      clear c6
      have H' := ak H
      clear H
      go_wp2
      go_loopg [7] k1 (fun kq v7 w' => ∃ (x4_2 : List Int) (x7_2 : List (S32)), Aside0 (payoffref03_Merge.l2 kq l0 x4_2 x7_2 = some (r1, r2)) ∧ Aside0 (kq ≤ k1) ∧ Aside0 (Kd.R (Kd.int .i64) 3 w' w.heap.size (fun _ => True) v221 x4_2) ∧ Aside0 (Kd.R k32 32 w' w.heap.size (fun _ => True) v7 x7_2) ∧ Aside0 (Below w.heap.size w w'))
      case atStart => exact ⟨(y220), (([] : List (S32))), H', ⟨Nat.le_refl _⟩, ⟨by (with_reducible repeat (first | apply Kd.R_alloc | apply Kd.R_drewN | apply Kd.R_drew)); exact HO_4.out⟩, ⟨by first | exact Kd.R_nil _ _ _ _ _ | exact Kd.N_nil _ _ _ _ _ | exact Kd.V_nil _ _ _ _ _ | exact Kd.Q_nil _ _ _ _ _ | exact Kd.S_nil _ _ _ _ _⟩, ⟨by repeat (first | (with_reducible first | exact HB.out | apply below_alloc | apply pw_below_drewN | apply below_drew1) | exact HB.out)⟩⟩
      case round =>
       clear H'
       try clear c1
       try clear c2
       try clear c2b0
       try clear c2b1
       try clear p2
       try clear q2
       try clear hx2
       try clear c3
       try clear c3b0
       try clear c3b1
       try clear c6
       try clear c6b0
       try clear p6
       try clear c7
       try clear c7b0
       try clear c8
       try clear c8b0
       try clear c9
       try clear c9b0
       try clear c10
       try clear c10b0
       try clear c12
       try clear c12b0
       try clear c13
       try clear c13b0
       try clear c14
       try clear c14b0
       try clear hx223_0
       try clear hx224_0
       try clear hx225_0
       try clear hx225_1
       try clear hx225_2
       try clear hx226_0
       try clear hx227_0
       try clear hx227_1
       try clear hx227_2
       try clear p2
       try clear p223
       try clear p224
       try clear p225
       try clear p226
       try clear p227
       try clear q223
       try clear q224
       try clear q225
       try clear q226
       try clear q227
       obtain ⟨x4_2, x7_2, HA, HK2, HO_4, HO_7, HB⟩ := hrel
       cases gk with
       | zero => exact absurd HA.out (by simp [payoffref03_Merge.l2])
       | succ k2 =>
        have H := HA.out
        clear HA
        simp only [payoffref03_Merge.l2] at H
        have H' := ak H
        clear H
        go_wp2
        go_loopg [8, 9] k2 (fun kq v8 v9 w' => ∃ (x8_3 : Int) (x9_3 : Int), v8 = .int .i64 x8_3 ∧ v9 = .int .i64 x9_3 ∧ Aside0 (payoffref03_Merge.l3 kq l0 x4_2 x7_2 x8_3 x9_3 = some (r1, r2)) ∧ Aside0 (kq ≤ k2) ∧ Aside0 (Kd.R (Kd.int .i64) 3 w' w.heap.size (fun _ => True) v221 x4_2) ∧ Aside0 (Kd.R k32 32 w' w.heap.size (fun _ => True) u7 x7_2) ∧ Aside0 (Below w.heap.size w w'))
        case atStart => exact ⟨((-1)), (0), (by first | rfl | (simp; done) | (simp [*]; done)), (by first | rfl | (simp; done) | (simp [*]; done)), H', ⟨Nat.le_refl _⟩, ⟨by (with_reducible repeat (first | apply Kd.R_alloc | apply Kd.R_drewN | apply Kd.R_drew)); exact HO_4.out⟩, ⟨by (with_reducible repeat (first | apply Kd.R_alloc | apply Kd.R_drewN | apply Kd.R_drew)); exact HO_7.out⟩, ⟨by repeat (first | (with_reducible first | exact HB.out | apply below_alloc | apply pw_below_drewN | apply below_drew1) | exact HB.out)⟩⟩
        case round =>
         clear H'
         try clear c1
         try clear c2
         try clear c2b0
         try clear c2b1
         try clear p2
         try clear q2
         try clear hx2
         try clear c3
         try clear c3b0
         try clear c3b1
         try clear c6
         try clear c6b0
         try clear p6
         try clear c7
         try clear c7b0
         try clear c8
         try clear c8b0
         try clear c9
         try clear c9b0
         try clear c10
         try clear c10b0
         try clear c12
         try clear c12b0
         try clear c13
         try clear c13b0
         try clear c14
         try clear c14b0
         try clear hx223_0
         try clear hx224_0
         try clear hx225_0
         try clear hx225_1
         try clear hx225_2
         try clear hx226_0
         try clear hx227_0
         try clear hx227_1
         try clear hx227_2
         try clear p2
         try clear p223
         try clear p224
         try clear p225
         try clear p226
         try clear p227
         try clear p6
         try clear q2
         try clear q223
         try clear q224
         try clear q225
         try clear q226
         try clear q227
         obtain ⟨x8_3, x9_3, rfl, rfl, HA, HK3, HO_4, HO_7, HB⟩ := hrel
         cases gk with
         | zero => exact absurd HA.out (by simp [payoffref03_Merge.l3])
         | succ k3 =>
          have H := HA.out
          clear HA
          simp only [payoffref03_Merge.l3] at H
          by_cases c17 : x9_3 < (l0.length : Int)
          ·rw [if_pos c17] at H
           have c17b0 := decide_eq_true c17
           clear c17
           by_cases c18 : 0 ≤ x9_3
           ·rw [if_pos c18] at H
            have c18b0 := decide_eq_true c18
            clear c18
            by_cases c19 : x9_3 < (x4_2.length : Int)
            ·rw [if_pos c19] at H
             have c19b0 := decide_eq_true c19
             clear c19
             by_cases c20 : (rd x4_2 x9_3) < ((rd_L4 l0 x9_3).length : Int)
             ·rw [if_pos c20] at H
              have c20b0 := decide_eq_true c20
              clear c20
              by_cases c21 : x8_3 < 0
              ·rw [if_pos c21] at H
               have c21b0 := decide_eq_true c21
               clear c21
               have H' := ak H
               clear H
               try go_wp2
               replace HO_4 := ak (Kd.R_drew HO_4.out)
               replace HO_7 := ak (Kd.R_drew HO_7.out)
               replace HB := ak (below_drew1 HB.out)
               obtain ⟨Ao23, co23, eo23⟩ := Kd.R_slice HO_4.out
               (first | subst eo23 | (injection eo23 with f1_ f2_ f3_; have f4_ := f1_.symm; have f5_ := f3_.symm; clear f1_ f2_ f3_; subst f4_; subst f5_))
               have p228 : 0 ≤ (x9_3 : Int) := of_decide_eq_true (by first | (with_reducible assumption) | assumption)
               have q228 : x9_3 < (x4_2.length : Int) := of_decide_eq_true (by first | (with_reducible assumption) | assumption)
               obtain ⟨ad228, e228, hx228_0⟩ := Kd.at_int (Kd.R_reads' HO_4.out).2.2 x9_3 p228 q228
               cases e228
               replace p228 := eq_true p228
               replace q228 := eq_true q228
               have p229 : 0 ≤ (x9_3 : Int) := of_decide_eq_true (by first | (with_reducible assumption) | assumption)
               have q229 : x9_3 < (l0.length : Int) := of_decide_eq_true (by first | (with_reducible assumption) | assumption)
               obtain ⟨ad229, A229_0, c229_0, e229, hx229_0, hl229_0, hi229_0⟩ := at_L4 HR0.out x9_3 p229 q229
               have hw229_0 := hx229_0
               cases e229
               replace hx229_0 := (HB.out.cell (World.block_lt_of_cell? w _ hx229_0)).trans hx229_0
               have HR229_0 := ak hi229_0
               have HC229_0 := ak hl229_0
               clear hi229_0 hl229_0
               replace p229 := eq_true p229
               replace q229 := eq_true q229
               refine start_ (n := 39) (S := fun w' => w'.cell? (ad228.add (x9_3).toNat) = some (.int .i64 (rd x4_2 x9_3)) ∧ w'.cell? (ad229.add (x9_3).toNat) = some (.slice A229_0 (rd_L4 l0 x9_3).length c229_0)) (ds := []) (Go.ba 39 0) (by kernel_rfl) rfl rfl ⟨hx228_0, ((HB.out.cell (World.block_lt_of_cell? w _ hw229_0)).trans hw229_0)⟩ (fun hHeld => ?_); refine with_tabW payoffref03_Merge.tab15 payoffref03_Merge.bits15 (fun HT_ HW_ => ?_)
               generalize wr.drew = w22 at HO_4 HO_7 HB HR229_0 hx228_0 hx229_0 hHeld ⊢
               refine pu 0 52 (Go.ba 39 1) (any_of HT_.out (by kernel_rfl)) ?_
               refine pu 1 53 (Go.ba 39 3) (any_of HT_.out (by kernel_rfl)) ?_
               refine pu 2 54 (Go.ba 39 7) (any_of HT_.out (by kernel_rfl)) ?_
               refine pu 4 56 (Go.ba 39 23) (any_of HT_.out (by kernel_rfl)) ?_
               refine pu 5 57 (Go.ba 39 55) (any_of HT_.out (by kernel_rfl)) ?_
               refine pu 6 58 (Go.ba 39 119) (any_of HT_.out (by kernel_rfl)) ?_
               refine tk 3 55 (Go.ba 39 127) (take_ofW HT_.out HW_.out (by kernel_rfl)) hHeld ?_ (hy := by rintro w' ⟨s0, s1⟩; go_simp; with_reducible rfl)
               refine tk 7 59 (Go.ba 39 255) (take_ofW HT_.out HW_.out (by kernel_rfl)) hHeld ?_ (hy := by rintro w' ⟨s0, s1⟩; go_simp; with_reducible rfl)
               refine pu 8 60 (Go.ba 39 511) (any_of HT_.out (by kernel_rfl)) ?_
               refine pu 9 61 (Go.ba 39 1023) (any_of HT_.out (by kernel_rfl)) ?_
               refine pu 10 62 (Go.ba 39 2047) (any_of HT_.out (by kernel_rfl)) ?_
               refine pu 11 63 (Go.ba 39 4095) (any_of HT_.out (by kernel_rfl)) ?_
               refine pu 12 64 (Go.ba 39 8191) (any_of HT_.out (by kernel_rfl)) ?_
               refine pu 13 65 (Go.ba 39 16383) (any_of HT_.out (by kernel_rfl)) ?_
               refine pure_ (i := 14) (N := some 66) (v := undef) (a' := ?_) (Go.ba 39 32767) rfl rfl (any_of HT_.out (by kernel_rfl)) (fun _ _ _ h => h) (Or.inr ⟨by rfl, rfl⟩) ?_ ?_
               rotate_left
               ·simp only [pz]
                rfl
               refine pure_ (i := 15) (N := some 67) (v := undef) (a' := ?_) (Go.ba 39 65535) rfl rfl (any_of HT_.out (by kernel_rfl)) (fun _ _ _ h => h) (Or.inr ⟨by rfl, rfl⟩) ?_ ?_
               rotate_left
               ·simp only [pz]
                rfl
               refine pure_ (i := 16) (N := some 68) (v := undef) (a' := ?_) (Go.ba 39 131071) rfl rfl (any_of HT_.out (by kernel_rfl)) (fun _ _ _ h => h) (Or.inr ⟨by rfl, rfl⟩) ?_ ?_
               rotate_left
               ·simp only [pz]
                rfl
               refine pure_ (i := 17) (N := some 69) (v := undef) (a' := ?_) (Go.ba 39 262143) rfl rfl (any_of HT_.out (by kernel_rfl)) (fun _ _ _ h => h) (Or.inr ⟨by rfl, rfl⟩) ?_ ?_
               rotate_left
               ·simp only [pz]
                rfl
               refine pure_ (i := 18) (N := some 70) (v := undef) (a' := ?_) (Go.ba 39 524287) rfl rfl (any_of HT_.out (by kernel_rfl)) (fun _ _ _ h => h) (Or.inr ⟨by rfl, rfl⟩) ?_ ?_
               rotate_left
               ·simp only [pz]
                rfl
               refine pure_ (i := 19) (N := some 71) (v := undef) (a' := ?_) (Go.ba 39 1048575) rfl rfl (any_of HT_.out (by kernel_rfl)) (fun _ _ _ h => h) (Or.inr ⟨by rfl, rfl⟩) ?_ ?_
               rotate_left
               ·simp only [pz]
                rfl
               refine pure_ (i := 20) (N := some 72) (v := undef) (a' := ?_) (Go.ba 39 2097151) rfl rfl (any_of HT_.out (by kernel_rfl)) (fun _ _ _ h => h) (Or.inr ⟨by rfl, rfl⟩) ?_ ?_
               rotate_left
               ·simp only [pz]
                rfl
               refine pure_ (i := 21) (N := some 73) (v := undef) (a' := ?_) (Go.ba 39 4194303) rfl rfl (any_of HT_.out (by kernel_rfl)) (fun _ _ _ h => h) (Or.inr ⟨by rfl, rfl⟩) ?_ ?_
               rotate_left
               ·simp only [pz]
                rfl
               refine pure_ (i := 22) (N := some 74) (v := undef) (a' := ?_) (Go.ba 39 8388607) rfl rfl (any_of HT_.out (by kernel_rfl)) (fun _ _ _ h => h) (Or.inr ⟨by rfl, rfl⟩) ?_ ?_
               rotate_left
               ·simp only [pz]
                rfl
               refine pure_ (i := 23) (N := some 75) (v := undef) (a' := ?_) (Go.ba 39 16777215) rfl rfl (any_of HT_.out (by kernel_rfl)) (fun _ _ _ h => h) (Or.inr ⟨by rfl, rfl⟩) ?_ ?_
               rotate_left
               ·simp only [pz]
                rfl
               refine pure_ (i := 24) (N := some 76) (v := undef) (a' := ?_) (Go.ba 39 33554431) rfl rfl (any_of HT_.out (by kernel_rfl)) (fun _ _ _ h => h) (Or.inr ⟨by rfl, rfl⟩) ?_ ?_
               rotate_left
               ·simp only [pz]
                rfl
               refine pure_ (i := 25) (N := some 77) (v := undef) (a' := ?_) (Go.ba 39 67108863) rfl rfl (any_of HT_.out (by kernel_rfl)) (fun _ _ _ h => h) (Or.inr ⟨by rfl, rfl⟩) ?_ ?_
               rotate_left
               ·simp only [pz]
                rfl
               refine pure_ (i := 26) (N := some 78) (v := undef) (a' := ?_) (Go.ba 39 134217727) rfl rfl (any_of HT_.out (by kernel_rfl)) (fun _ _ _ h => h) (Or.inr ⟨by rfl, rfl⟩) ?_ ?_
               rotate_left
               ·simp only [pz]
                rfl
               refine pure_ (i := 27) (N := some 79) (v := undef) (a' := ?_) (Go.ba 39 268435455) rfl rfl (any_of HT_.out (by kernel_rfl)) (fun _ _ _ h => h) (Or.inr ⟨by rfl, rfl⟩) ?_ ?_
               rotate_left
               ·simp only [pz]
                rfl
               refine pure_ (i := 28) (N := some 80) (v := undef) (a' := ?_) (Go.ba 39 536870911) rfl rfl (any_of HT_.out (by kernel_rfl)) (fun _ _ _ h => h) (Or.inr ⟨by rfl, rfl⟩) ?_ ?_
               rotate_left
               ·simp only [pz]
                rfl
               refine pure_ (i := 29) (N := some 81) (v := undef) (a' := ?_) (Go.ba 39 1073741823) rfl rfl (any_of HT_.out (by kernel_rfl)) (fun _ _ _ h => h) (Or.inr ⟨by rfl, rfl⟩) ?_ ?_
               rotate_left
               ·simp only [pz]
                rfl
               refine pure_ (i := 30) (N := some 82) (v := undef) (a' := ?_) (Go.ba 39 2147483647) rfl rfl (any_of HT_.out (by kernel_rfl)) (fun _ _ _ h => h) (Or.inr ⟨by rfl, rfl⟩) ?_ ?_
               rotate_left
               ·simp only [pz]
                rfl
               refine pure_ (i := 31) (N := some 83) (v := undef) (a' := ?_) (Go.ba 39 4294967295) rfl rfl (any_of HT_.out (by kernel_rfl)) (fun _ _ _ h => h) (Or.inr ⟨by rfl, rfl⟩) ?_ ?_
               rotate_left
               ·simp only [pz]
                rfl
               refine pure_ (i := 32) (N := some 84) (v := undef) (a' := ?_) (Go.ba 39 8589934591) rfl rfl (any_of HT_.out (by kernel_rfl)) (fun _ _ _ h => h) (Or.inr ⟨by rfl, rfl⟩) ?_ ?_
               rotate_left
               ·simp only [pz]
                rfl
               refine pure_ (i := 33) (N := some 85) (v := undef) (a' := ?_) (Go.ba 39 17179869183) rfl rfl (any_of HT_.out (by kernel_rfl)) (fun _ _ _ h => h) (Or.inr ⟨by rfl, rfl⟩) ?_ ?_
               rotate_left
               ·simp only [pz]
                rfl
               refine pure_ (i := 34) (N := some 86) (v := undef) (a' := ?_) (Go.ba 39 34359738367) rfl rfl (any_of HT_.out (by kernel_rfl)) (fun _ _ _ h => h) (Or.inr ⟨by rfl, rfl⟩) ?_ ?_
               rotate_left
               ·simp only [pz]
                rfl
               refine pure_ (i := 35) (N := some 87) (v := undef) (a' := ?_) (Go.ba 39 68719476735) rfl rfl (any_of HT_.out (by kernel_rfl)) (fun _ _ _ h => h) (Or.inr ⟨by rfl, rfl⟩) ?_ ?_
               rotate_left
               ·simp only [pz]
                rfl
               refine pure_ (i := 36) (N := some 88) (v := undef) (a' := ?_) (Go.ba 39 137438953471) rfl rfl (any_of HT_.out (by kernel_rfl)) (fun _ _ _ h => h) (Or.inr ⟨by rfl, rfl⟩) ?_ ?_
               rotate_left
               ·simp only [pz]
                rfl
               refine pu 37 89 (Go.ba 39 274877906943) (any_of HT_.out (by kernel_rfl)) ?_
               refine pu 38 90 (Go.ba 39 549755813887) (any_of HT_.out (by kernel_rfl)) ?_
               refine done_ (done_of HT_.out (by kernel_rfl)) ?_
               try go_wp2
               go_roundg k3
               case measure => have := HK1.out; have := HK2.out; have := HK3.out; omega
               case rel => exact ⟨(x9_3), (wrap64 (x9_3 + 1)), (by first | rfl | (simp; done) | (simp [*]; done)), (by first | rfl | (simp; done) | (simp [*]; done)), H', ⟨by have := HK1.out; have := HK2.out; have := HK3.out; omega⟩, ⟨by (with_reducible repeat (first | apply Kd.R_alloc | apply Kd.R_drewN | apply Kd.R_drew)); exact HO_4.out⟩, ⟨by (with_reducible repeat (first | apply Kd.R_alloc | apply Kd.R_drewN | apply Kd.R_drew)); exact HO_7.out⟩, ⟨by repeat (first | (with_reducible first | exact HB.out | apply below_alloc | apply pw_below_drewN | apply below_drew1) | exact HB.out)⟩⟩
              ·rw [if_neg c21] at H
               have c21b0 := decide_eq_false c21
               clear c21
               by_cases c24 : 0 ≤ (rd x4_2 x9_3)
               ·rw [if_pos c24] at H
                have c24b0 := decide_eq_true c24
                clear c24
                by_cases c25 : 0 ≤ x8_3
                ·rw [if_pos c25] at H
                 have c25b0 := decide_eq_true c25
                 clear c25
                 by_cases c26 : x8_3 < (l0.length : Int)
                 ·rw [if_pos c26] at H
                  have c26b0 := decide_eq_true c26
                  clear c26
                  by_cases c27 : x8_3 < (x4_2.length : Int)
                  ·rw [if_pos c27] at H
                   have c27b0 := decide_eq_true c27
                   clear c27
                   by_cases c28 : 0 ≤ (rd x4_2 x8_3)
                   ·rw [if_pos c28] at H
                    have c28b0 := decide_eq_true c28
                    clear c28
                    by_cases c29 : (rd x4_2 x8_3) < ((rd_L4 l0 x8_3).length : Int)
                    ·rw [if_pos c29] at H
                     have c29b0 := decide_eq_true c29
                     clear c29
                     by_cases c30 : ((rd_T32 (rd_L4 l0 x9_3) (rd x4_2 x9_3)).f0) < ((rd_T32 (rd_L4 l0 x8_3) (rd x4_2 x8_3)).f0)
                     ·rw [if_pos c30] at H
                      have c30b0 := decide_eq_true c30
                      clear c30
                      have H' := ak H
                      clear H
                      try go_wp2
                      replace HO_4 := ak (Kd.R_drew HO_4.out)
                      replace HO_7 := ak (Kd.R_drew HO_7.out)
                      replace HB := ak (below_drew1 HB.out)
                      obtain ⟨Ao32, co32, eo32⟩ := Kd.R_slice HO_4.out
                      (first | subst eo32 | (injection eo32 with f1_ f2_ f3_; have f4_ := f1_.symm; have f5_ := f3_.symm; clear f1_ f2_ f3_; subst f4_; subst f5_))
                      have p228 : 0 ≤ (x9_3 : Int) := of_decide_eq_true (by first | (with_reducible assumption) | assumption)
                      have q228 : x9_3 < (x4_2.length : Int) := of_decide_eq_true (by first | (with_reducible assumption) | assumption)
                      obtain ⟨ad228, e228, hx228_0⟩ := Kd.at_int (Kd.R_reads' HO_4.out).2.2 x9_3 p228 q228
                      cases e228
                      replace p228 := eq_true p228
                      replace q228 := eq_true q228
                      have p229 : 0 ≤ (x9_3 : Int) := of_decide_eq_true (by first | (with_reducible assumption) | assumption)
                      have q229 : x9_3 < (l0.length : Int) := of_decide_eq_true (by first | (with_reducible assumption) | assumption)
                      obtain ⟨ad229, A229_0, c229_0, e229, hx229_0, hl229_0, hi229_0⟩ := at_L4 HR0.out x9_3 p229 q229
                      have hw229_0 := hx229_0
                      cases e229
                      replace hx229_0 := (HB.out.cell (World.block_lt_of_cell? w _ hx229_0)).trans hx229_0
                      have HR229_0 := ak hi229_0
                      have HC229_0 := ak hl229_0
                      clear hi229_0 hl229_0
                      replace p229 := eq_true p229
                      replace q229 := eq_true q229
                      have p230 : 0 ≤ (x9_3 : Int) := of_decide_eq_true (by first | (with_reducible assumption) | assumption)
                      have q230 : x9_3 < (l0.length : Int) := of_decide_eq_true (by first | (with_reducible assumption) | assumption)
                      obtain ⟨ad230, A230_0, c230_0, e230, hx230_0, hl230_0, hi230_0⟩ := at_L4 HR0.out x9_3 p230 q230
                      have hw230_0 := hx230_0
                      obtain rfl : ad229 = ad230 := (by injection e230)
                      replace hx230_0 := (HB.out.cell (World.block_lt_of_cell? w _ hx230_0)).trans hx230_0
                      have HR230_0 := ak hi230_0
                      have HC230_0 := ak hl230_0
                      clear hi230_0 hl230_0
                      replace p230 := eq_true p230
                      replace q230 := eq_true q230
                      have ea_ := Option.some.inj (hx229_0.symm.trans hx230_0)
                      injection ea_ with ea_ en_ ec_
                      subst ea_
                      subst ec_
                      clear en_
                      have p231 : 0 ≤ (x9_3 : Int) := of_decide_eq_true (by first | (with_reducible assumption) | assumption)
                      have q231 : x9_3 < (x4_2.length : Int) := of_decide_eq_true (by first | (with_reducible assumption) | assumption)
                      obtain ⟨ad231, e231, hx231_0⟩ := Kd.at_int (Kd.R_reads' HO_4.out).2.2 x9_3 p231 q231
                      obtain rfl : ad228 = ad231 := (by injection e231)
                      replace p231 := eq_true p231
                      replace q231 := eq_true q231
                      have p232 : 0 ≤ ((rd x4_2 x9_3) : Int) := of_decide_eq_true (by first | (with_reducible assumption) | assumption)
                      have q232 : (rd x4_2 x9_3) < ((rd_L4 l0 x9_3).length : Int) := of_decide_eq_true (by first | (with_reducible assumption) | assumption)
                      obtain ⟨ad232, e232, hx232_0, hx232_1, hx232_2⟩ := at_T32 HR230_0.out (rd x4_2 x9_3) p232 q232
                      have hw232_2 := hx232_2
                      have hw232_1 := hx232_1
                      have hw232_0 := hx232_0
                      cases e232
                      replace hx232_0 := (HB.out.cell (World.block_lt_of_cell? w _ hx232_0)).trans hx232_0
                      replace hx232_1 := (HB.out.cell (World.block_lt_of_cell? w _ hx232_1)).trans hx232_1
                      replace hx232_2 := (HB.out.cell (World.block_lt_of_cell? w _ hx232_2)).trans hx232_2
                      replace p232 := eq_true p232
                      replace q232 := eq_true q232
                      have p233 : 0 ≤ (x8_3 : Int) := of_decide_eq_true (by first | (with_reducible assumption) | assumption)
                      have q233 : x8_3 < (l0.length : Int) := of_decide_eq_true (by first | (with_reducible assumption) | assumption)
                      obtain ⟨ad233, A233_0, c233_0, e233, hx233_0, hl233_0, hi233_0⟩ := at_L4 HR0.out x8_3 p233 q233
                      have hw233_0 := hx233_0
                      obtain rfl : ad229 = ad233 := (by injection e233)
                      replace hx233_0 := (HB.out.cell (World.block_lt_of_cell? w _ hx233_0)).trans hx233_0
                      have HR233_0 := ak hi233_0
                      have HC233_0 := ak hl233_0
                      clear hi233_0 hl233_0
                      replace p233 := eq_true p233
                      replace q233 := eq_true q233
                      have p234 : 0 ≤ (x8_3 : Int) := of_decide_eq_true (by first | (with_reducible assumption) | assumption)
                      have q234 : x8_3 < (x4_2.length : Int) := of_decide_eq_true (by first | (with_reducible assumption) | assumption)
                      obtain ⟨ad234, e234, hx234_0⟩ := Kd.at_int (Kd.R_reads' HO_4.out).2.2 x8_3 p234 q234
                      obtain rfl : ad228 = ad234 := (by injection e234)
                      replace p234 := eq_true p234
                      replace q234 := eq_true q234
                      have p235 : 0 ≤ ((rd x4_2 x8_3) : Int) := of_decide_eq_true (by first | (with_reducible assumption) | assumption)
                      have q235 : (rd x4_2 x8_3) < ((rd_L4 l0 x8_3).length : Int) := of_decide_eq_true (by first | (with_reducible assumption) | assumption)
                      obtain ⟨ad235, e235, hx235_0, hx235_1, hx235_2⟩ := at_T32 HR233_0.out (rd x4_2 x8_3) p235 q235
                      have hw235_2 := hx235_2
                      have hw235_1 := hx235_1
                      have hw235_0 := hx235_0
                      cases e235
                      replace hx235_0 := (HB.out.cell (World.block_lt_of_cell? w _ hx235_0)).trans hx235_0
                      replace hx235_1 := (HB.out.cell (World.block_lt_of_cell? w _ hx235_1)).trans hx235_1
                      replace hx235_2 := (HB.out.cell (World.block_lt_of_cell? w _ hx235_2)).trans hx235_2
                      replace p235 := eq_true p235
                      replace q235 := eq_true q235
                      refine start_ (n := 39) (S := fun w' => w'.cell? (ad228.add (x9_3).toNat) = some (.int .i64 (rd x4_2 x9_3)) ∧ w'.cell? (ad229.add (x9_3).toNat) = some (.slice (some ad232) (rd_L4 l0 x9_3).length c229_0) ∧ w'.cell? (ad229.add (x9_3).toNat) = some (.slice (some ad232) (rd_L4 l0 x9_3).length c229_0) ∧ w'.cell? (ad228.add (x9_3).toNat) = some (.int .i64 (rd x4_2 x9_3)) ∧ w'.cell? (ad232.add (((rd x4_2 x9_3)).toNat * 3)) = some (.int .i64 ((rd_T32 (rd_L4 l0 x9_3) (rd x4_2 x9_3)).f0)) ∧ w'.cell? ⟨(ad232.add (((rd x4_2 x9_3)).toNat * 3)).block, (ad232.add (((rd x4_2 x9_3)).toNat * 3)).off + 1, none⟩ = some (.string ((rd_T32 (rd_L4 l0 x9_3) (rd x4_2 x9_3)).f1)) ∧ w'.cell? ⟨(ad232.add (((rd x4_2 x9_3)).toNat * 3)).block, (ad232.add (((rd x4_2 x9_3)).toNat * 3)).off + 2, none⟩ = some (.int .i64 ((rd_T32 (rd_L4 l0 x9_3) (rd x4_2 x9_3)).f2)) ∧ w'.cell? (ad229.add (x8_3).toNat) = some (.slice (some ad235) (rd_L4 l0 x8_3).length c233_0) ∧ w'.cell? (ad228.add (x8_3).toNat) = some (.int .i64 (rd x4_2 x8_3)) ∧ w'.cell? (ad235.add (((rd x4_2 x8_3)).toNat * 3)) = some (.int .i64 ((rd_T32 (rd_L4 l0 x8_3) (rd x4_2 x8_3)).f0)) ∧ w'.cell? ⟨(ad235.add (((rd x4_2 x8_3)).toNat * 3)).block, (ad235.add (((rd x4_2 x8_3)).toNat * 3)).off + 1, none⟩ = some (.string ((rd_T32 (rd_L4 l0 x8_3) (rd x4_2 x8_3)).f1)) ∧ w'.cell? ⟨(ad235.add (((rd x4_2 x8_3)).toNat * 3)).block, (ad235.add (((rd x4_2 x8_3)).toNat * 3)).off + 2, none⟩ = some (.int .i64 ((rd_T32 (rd_L4 l0 x8_3) (rd x4_2 x8_3)).f2))) (ds := []) (Go.ba 39 0) (by kernel_rfl) rfl rfl ⟨hx228_0, ((HB.out.cell (World.block_lt_of_cell? w _ hw229_0)).trans hw229_0), ((HB.out.cell (World.block_lt_of_cell? w _ hw230_0)).trans hw230_0), hx231_0, ((HB.out.cell (World.block_lt_of_cell? w _ hw232_0)).trans hw232_0), ((HB.out.cell (World.block_lt_of_cell? w _ hw232_1)).trans hw232_1), ((HB.out.cell (World.block_lt_of_cell? w _ hw232_2)).trans hw232_2), ((HB.out.cell (World.block_lt_of_cell? w _ hw233_0)).trans hw233_0), hx234_0, ((HB.out.cell (World.block_lt_of_cell? w _ hw235_0)).trans hw235_0), ((HB.out.cell (World.block_lt_of_cell? w _ hw235_1)).trans hw235_1), ((HB.out.cell (World.block_lt_of_cell? w _ hw235_2)).trans hw235_2)⟩ (fun hHeld => ?_); refine with_tabW payoffref03_Merge.tab15 payoffref03_Merge.bits15 (fun HT_ HW_ => ?_)
                      generalize wr.drew = w31 at HO_4 HO_7 HB HR229_0 HR230_0 HR233_0 hx228_0 hx229_0 hx230_0 hx231_0 hx232_0 hx232_1 hx232_2 hx233_0 hx234_0 hx235_0 hx235_1 hx235_2 hHeld ⊢
                      refine pu 0 52 (Go.ba 39 1) (any_of HT_.out (by kernel_rfl)) ?_
                      refine pu 1 53 (Go.ba 39 3) (any_of HT_.out (by kernel_rfl)) ?_
                      refine pu 2 54 (Go.ba 39 7) (any_of HT_.out (by kernel_rfl)) ?_
                      refine pu 4 56 (Go.ba 39 23) (any_of HT_.out (by kernel_rfl)) ?_
                      refine pu 5 57 (Go.ba 39 55) (any_of HT_.out (by kernel_rfl)) ?_
                      refine pu 6 58 (Go.ba 39 119) (any_of HT_.out (by kernel_rfl)) ?_
                      refine tk 3 55 (Go.ba 39 127) (take_ofW HT_.out HW_.out (by kernel_rfl)) hHeld ?_ (hy := by rintro w' ⟨s0, s1, s2, s3, s4, s5, s6, s7, s8, s9, s10, s11⟩; go_simp; with_reducible rfl)
                      refine tk 7 59 (Go.ba 39 255) (take_ofW HT_.out HW_.out (by kernel_rfl)) hHeld ?_ (hy := by rintro w' ⟨s0, s1, s2, s3, s4, s5, s6, s7, s8, s9, s10, s11⟩; go_simp; with_reducible rfl)
                      refine pu 8 60 (Go.ba 39 511) (any_of HT_.out (by kernel_rfl)) ?_
                      refine pu 9 61 (Go.ba 39 1023) (any_of HT_.out (by kernel_rfl)) ?_
                      refine pu 10 62 (Go.ba 39 2047) (any_of HT_.out (by kernel_rfl)) ?_
                      refine pu 11 63 (Go.ba 39 4095) (any_of HT_.out (by kernel_rfl)) ?_
                      refine pu 12 64 (Go.ba 39 8191) (any_of HT_.out (by kernel_rfl)) ?_
                      refine pu 13 65 (Go.ba 39 16383) (any_of HT_.out (by kernel_rfl)) ?_
                      refine pu 14 66 (Go.ba 39 32767) (any_of HT_.out (by kernel_rfl)) ?_
                      refine pu 15 67 (Go.ba 39 65535) (any_of HT_.out (by kernel_rfl)) ?_
                      refine pu 16 68 (Go.ba 39 131071) (any_of HT_.out (by kernel_rfl)) ?_
                      refine pu 18 70 (Go.ba 39 393215) (any_of HT_.out (by kernel_rfl)) ?_
                      refine pu 19 71 (Go.ba 39 917503) (any_of HT_.out (by kernel_rfl)) ?_
                      refine pu 20 72 (Go.ba 39 1966079) (any_of HT_.out (by kernel_rfl)) ?_
                      refine pu 25 77 (Go.ba 39 35520511) (any_of HT_.out (by kernel_rfl)) ?_
                      refine pu 26 78 (Go.ba 39 102629375) (any_of HT_.out (by kernel_rfl)) ?_
                      refine pu 27 79 (Go.ba 39 236847103) (any_of HT_.out (by kernel_rfl)) ?_
                      refine pu 29 81 (Go.ba 39 773718015) (any_of HT_.out (by kernel_rfl)) ?_
                      refine pu 30 82 (Go.ba 39 1847459839) (any_of HT_.out (by kernel_rfl)) ?_
                      refine pu 31 83 (Go.ba 39 3994943487) (any_of HT_.out (by kernel_rfl)) ?_
                      refine tk 17 69 (Go.ba 39 3995074559) (take_ofW HT_.out HW_.out (by kernel_rfl)) hHeld ?_ (hy := by rintro w' ⟨s0, s1, s2, s3, s4, s5, s6, s7, s8, s9, s10, s11⟩; go_simp; with_reducible rfl)
                      refine tk 21 73 (Go.ba 39 3997171711) (take_ofW HT_.out HW_.out (by kernel_rfl)) hHeld ?_ (hy := by rintro w' ⟨s0, s1, s2, s3, s4, s5, s6, s7, s8, s9, s10, s11⟩; go_simp; with_reducible rfl)
                      refine pu 22 74 (Go.ba 39 4001366015) (any_of HT_.out (by kernel_rfl)) ?_
                      refine pu 23 75 (Go.ba 39 4009754623) (any_of HT_.out (by kernel_rfl)) ?_
                      refine tk 24 76 (Go.ba 39 4026531839) (take_ofW HT_.out HW_.out (by kernel_rfl)) hHeld ?_ (hy := by rintro w' ⟨s0, s1, s2, s3, s4, s5, s6, s7, s8, s9, s10, s11⟩; go_simp; with_reducible rfl)
                      refine tk 28 80 (Go.ba 39 4294967295) (take_ofW HT_.out HW_.out (by kernel_rfl)) hHeld ?_ (hy := by rintro w' ⟨s0, s1, s2, s3, s4, s5, s6, s7, s8, s9, s10, s11⟩; go_simp; with_reducible rfl)
                      refine tk 32 84 (Go.ba 39 8589934591) (take_ofW HT_.out HW_.out (by kernel_rfl)) hHeld ?_ (hy := by rintro w' ⟨s0, s1, s2, s3, s4, s5, s6, s7, s8, s9, s10, s11⟩; go_simp; with_reducible rfl)
                      refine pu 33 85 (Go.ba 39 17179869183) (any_of HT_.out (by kernel_rfl)) ?_
                      refine pu 34 86 (Go.ba 39 34359738367) (any_of HT_.out (by kernel_rfl)) ?_
                      refine tk 35 87 (Go.ba 39 68719476735) (take_ofW HT_.out HW_.out (by kernel_rfl)) hHeld ?_ (hy := by rintro w' ⟨s0, s1, s2, s3, s4, s5, s6, s7, s8, s9, s10, s11⟩; go_simp; with_reducible rfl)
                      refine pu 36 88 (Go.ba 39 137438953471) (any_of HT_.out (by kernel_rfl)) ?_
                      refine pu 37 89 (Go.ba 39 274877906943) (any_of HT_.out (by kernel_rfl)) ?_
                      refine pu 38 90 (Go.ba 39 549755813887) (any_of HT_.out (by kernel_rfl)) ?_
                      refine done_ (done_of HT_.out (by kernel_rfl)) ?_
                      try go_wp2
                      go_roundg k3
                      case measure => have := HK1.out; have := HK2.out; have := HK3.out; omega
                      case rel => exact ⟨(x9_3), (wrap64 (x9_3 + 1)), (by first | rfl | (simp; done) | (simp [*]; done)), (by first | rfl | (simp; done) | (simp [*]; done)), H', ⟨by have := HK1.out; have := HK2.out; have := HK3.out; omega⟩, ⟨by (with_reducible repeat (first | apply Kd.R_alloc | apply Kd.R_drewN | apply Kd.R_drew)); exact HO_4.out⟩, ⟨by (with_reducible repeat (first | apply Kd.R_alloc | apply Kd.R_drewN | apply Kd.R_drew)); exact HO_7.out⟩, ⟨by repeat (first | (with_reducible first | exact HB.out | apply below_alloc | apply pw_below_drewN | apply below_drew1) | exact HB.out)⟩⟩
                     ·rw [if_neg c30] at H
                      have c30b0 := decide_eq_false c30
                      clear c30
                      have H' := ak H
                      clear H
                      try go_wp2
                      replace HO_4 := ak (Kd.R_drew HO_4.out)
                      replace HO_7 := ak (Kd.R_drew HO_7.out)
                      replace HB := ak (below_drew1 HB.out)
                      obtain ⟨Ao34, co34, eo34⟩ := Kd.R_slice HO_4.out
                      (first | subst eo34 | (injection eo34 with f1_ f2_ f3_; have f4_ := f1_.symm; have f5_ := f3_.symm; clear f1_ f2_ f3_; subst f4_; subst f5_))
                      have p228 : 0 ≤ (x9_3 : Int) := of_decide_eq_true (by first | (with_reducible assumption) | assumption)
                      have q228 : x9_3 < (x4_2.length : Int) := of_decide_eq_true (by first | (with_reducible assumption) | assumption)
                      obtain ⟨ad228, e228, hx228_0⟩ := Kd.at_int (Kd.R_reads' HO_4.out).2.2 x9_3 p228 q228
                      cases e228
                      replace p228 := eq_true p228
                      replace q228 := eq_true q228
                      have p229 : 0 ≤ (x9_3 : Int) := of_decide_eq_true (by first | (with_reducible assumption) | assumption)
                      have q229 : x9_3 < (l0.length : Int) := of_decide_eq_true (by first | (with_reducible assumption) | assumption)
                      obtain ⟨ad229, A229_0, c229_0, e229, hx229_0, hl229_0, hi229_0⟩ := at_L4 HR0.out x9_3 p229 q229
                      have hw229_0 := hx229_0
                      cases e229
                      replace hx229_0 := (HB.out.cell (World.block_lt_of_cell? w _ hx229_0)).trans hx229_0
                      have HR229_0 := ak hi229_0
                      have HC229_0 := ak hl229_0
                      clear hi229_0 hl229_0
                      replace p229 := eq_true p229
                      replace q229 := eq_true q229
                      have p230 : 0 ≤ (x9_3 : Int) := of_decide_eq_true (by first | (with_reducible assumption) | assumption)
                      have q230 : x9_3 < (l0.length : Int) := of_decide_eq_true (by first | (with_reducible assumption) | assumption)
                      obtain ⟨ad230, A230_0, c230_0, e230, hx230_0, hl230_0, hi230_0⟩ := at_L4 HR0.out x9_3 p230 q230
                      have hw230_0 := hx230_0
                      obtain rfl : ad229 = ad230 := (by injection e230)
                      replace hx230_0 := (HB.out.cell (World.block_lt_of_cell? w _ hx230_0)).trans hx230_0
                      have HR230_0 := ak hi230_0
                      have HC230_0 := ak hl230_0
                      clear hi230_0 hl230_0
                      replace p230 := eq_true p230
                      replace q230 := eq_true q230
                      have ea_ := Option.some.inj (hx229_0.symm.trans hx230_0)
                      injection ea_ with ea_ en_ ec_
                      subst ea_
                      subst ec_
                      clear en_
                      have p231 : 0 ≤ (x9_3 : Int) := of_decide_eq_true (by first | (with_reducible assumption) | assumption)
                      have q231 : x9_3 < (x4_2.length : Int) := of_decide_eq_true (by first | (with_reducible assumption) | assumption)
                      obtain ⟨ad231, e231, hx231_0⟩ := Kd.at_int (Kd.R_reads' HO_4.out).2.2 x9_3 p231 q231
                      obtain rfl : ad228 = ad231 := (by injection e231)
                      replace p231 := eq_true p231
                      replace q231 := eq_true q231
                      have p232 : 0 ≤ ((rd x4_2 x9_3) : Int) := of_decide_eq_true (by first | (with_reducible assumption) | assumption)
                      have q232 : (rd x4_2 x9_3) < ((rd_L4 l0 x9_3).length : Int) := of_decide_eq_true (by first | (with_reducible assumption) | assumption)
                      obtain ⟨ad232, e232, hx232_0, hx232_1, hx232_2⟩ := at_T32 HR230_0.out (rd x4_2 x9_3) p232 q232
                      have hw232_2 := hx232_2
                      have hw232_1 := hx232_1
                      have hw232_0 := hx232_0
                      cases e232
                      replace hx232_0 := (HB.out.cell (World.block_lt_of_cell? w _ hx232_0)).trans hx232_0
                      replace hx232_1 := (HB.out.cell (World.block_lt_of_cell? w _ hx232_1)).trans hx232_1
                      replace hx232_2 := (HB.out.cell (World.block_lt_of_cell? w _ hx232_2)).trans hx232_2
                      replace p232 := eq_true p232
                      replace q232 := eq_true q232
                      have p233 : 0 ≤ (x8_3 : Int) := of_decide_eq_true (by first | (with_reducible assumption) | assumption)
                      have q233 : x8_3 < (l0.length : Int) := of_decide_eq_true (by first | (with_reducible assumption) | assumption)
                      obtain ⟨ad233, A233_0, c233_0, e233, hx233_0, hl233_0, hi233_0⟩ := at_L4 HR0.out x8_3 p233 q233
                      have hw233_0 := hx233_0
                      obtain rfl : ad229 = ad233 := (by injection e233)
                      replace hx233_0 := (HB.out.cell (World.block_lt_of_cell? w _ hx233_0)).trans hx233_0
                      have HR233_0 := ak hi233_0
                      have HC233_0 := ak hl233_0
                      clear hi233_0 hl233_0
                      replace p233 := eq_true p233
                      replace q233 := eq_true q233
                      have p234 : 0 ≤ (x8_3 : Int) := of_decide_eq_true (by first | (with_reducible assumption) | assumption)
                      have q234 : x8_3 < (x4_2.length : Int) := of_decide_eq_true (by first | (with_reducible assumption) | assumption)
                      obtain ⟨ad234, e234, hx234_0⟩ := Kd.at_int (Kd.R_reads' HO_4.out).2.2 x8_3 p234 q234
                      obtain rfl : ad228 = ad234 := (by injection e234)
                      replace p234 := eq_true p234
                      replace q234 := eq_true q234
                      have p235 : 0 ≤ ((rd x4_2 x8_3) : Int) := of_decide_eq_true (by first | (with_reducible assumption) | assumption)
                      have q235 : (rd x4_2 x8_3) < ((rd_L4 l0 x8_3).length : Int) := of_decide_eq_true (by first | (with_reducible assumption) | assumption)
                      obtain ⟨ad235, e235, hx235_0, hx235_1, hx235_2⟩ := at_T32 HR233_0.out (rd x4_2 x8_3) p235 q235
                      have hw235_2 := hx235_2
                      have hw235_1 := hx235_1
                      have hw235_0 := hx235_0
                      cases e235
                      replace hx235_0 := (HB.out.cell (World.block_lt_of_cell? w _ hx235_0)).trans hx235_0
                      replace hx235_1 := (HB.out.cell (World.block_lt_of_cell? w _ hx235_1)).trans hx235_1
                      replace hx235_2 := (HB.out.cell (World.block_lt_of_cell? w _ hx235_2)).trans hx235_2
                      replace p235 := eq_true p235
                      replace q235 := eq_true q235
                      refine start_ (n := 39) (S := fun w' => w'.cell? (ad228.add (x9_3).toNat) = some (.int .i64 (rd x4_2 x9_3)) ∧ w'.cell? (ad229.add (x9_3).toNat) = some (.slice (some ad232) (rd_L4 l0 x9_3).length c229_0) ∧ w'.cell? (ad229.add (x9_3).toNat) = some (.slice (some ad232) (rd_L4 l0 x9_3).length c229_0) ∧ w'.cell? (ad228.add (x9_3).toNat) = some (.int .i64 (rd x4_2 x9_3)) ∧ w'.cell? (ad232.add (((rd x4_2 x9_3)).toNat * 3)) = some (.int .i64 ((rd_T32 (rd_L4 l0 x9_3) (rd x4_2 x9_3)).f0)) ∧ w'.cell? ⟨(ad232.add (((rd x4_2 x9_3)).toNat * 3)).block, (ad232.add (((rd x4_2 x9_3)).toNat * 3)).off + 1, none⟩ = some (.string ((rd_T32 (rd_L4 l0 x9_3) (rd x4_2 x9_3)).f1)) ∧ w'.cell? ⟨(ad232.add (((rd x4_2 x9_3)).toNat * 3)).block, (ad232.add (((rd x4_2 x9_3)).toNat * 3)).off + 2, none⟩ = some (.int .i64 ((rd_T32 (rd_L4 l0 x9_3) (rd x4_2 x9_3)).f2)) ∧ w'.cell? (ad229.add (x8_3).toNat) = some (.slice (some ad235) (rd_L4 l0 x8_3).length c233_0) ∧ w'.cell? (ad228.add (x8_3).toNat) = some (.int .i64 (rd x4_2 x8_3)) ∧ w'.cell? (ad235.add (((rd x4_2 x8_3)).toNat * 3)) = some (.int .i64 ((rd_T32 (rd_L4 l0 x8_3) (rd x4_2 x8_3)).f0)) ∧ w'.cell? ⟨(ad235.add (((rd x4_2 x8_3)).toNat * 3)).block, (ad235.add (((rd x4_2 x8_3)).toNat * 3)).off + 1, none⟩ = some (.string ((rd_T32 (rd_L4 l0 x8_3) (rd x4_2 x8_3)).f1)) ∧ w'.cell? ⟨(ad235.add (((rd x4_2 x8_3)).toNat * 3)).block, (ad235.add (((rd x4_2 x8_3)).toNat * 3)).off + 2, none⟩ = some (.int .i64 ((rd_T32 (rd_L4 l0 x8_3) (rd x4_2 x8_3)).f2))) (ds := []) (Go.ba 39 0) (by kernel_rfl) rfl rfl ⟨hx228_0, ((HB.out.cell (World.block_lt_of_cell? w _ hw229_0)).trans hw229_0), ((HB.out.cell (World.block_lt_of_cell? w _ hw230_0)).trans hw230_0), hx231_0, ((HB.out.cell (World.block_lt_of_cell? w _ hw232_0)).trans hw232_0), ((HB.out.cell (World.block_lt_of_cell? w _ hw232_1)).trans hw232_1), ((HB.out.cell (World.block_lt_of_cell? w _ hw232_2)).trans hw232_2), ((HB.out.cell (World.block_lt_of_cell? w _ hw233_0)).trans hw233_0), hx234_0, ((HB.out.cell (World.block_lt_of_cell? w _ hw235_0)).trans hw235_0), ((HB.out.cell (World.block_lt_of_cell? w _ hw235_1)).trans hw235_1), ((HB.out.cell (World.block_lt_of_cell? w _ hw235_2)).trans hw235_2)⟩ (fun hHeld => ?_); refine with_tabW payoffref03_Merge.tab15 payoffref03_Merge.bits15 (fun HT_ HW_ => ?_)
                      generalize wr.drew = w33 at HO_4 HO_7 HB HR229_0 HR230_0 HR233_0 hx228_0 hx229_0 hx230_0 hx231_0 hx232_0 hx232_1 hx232_2 hx233_0 hx234_0 hx235_0 hx235_1 hx235_2 hHeld ⊢
                      refine pu 0 52 (Go.ba 39 1) (any_of HT_.out (by kernel_rfl)) ?_
                      refine pu 1 53 (Go.ba 39 3) (any_of HT_.out (by kernel_rfl)) ?_
                      refine pu 2 54 (Go.ba 39 7) (any_of HT_.out (by kernel_rfl)) ?_
                      refine pu 4 56 (Go.ba 39 23) (any_of HT_.out (by kernel_rfl)) ?_
                      refine pu 5 57 (Go.ba 39 55) (any_of HT_.out (by kernel_rfl)) ?_
                      refine pu 6 58 (Go.ba 39 119) (any_of HT_.out (by kernel_rfl)) ?_
                      refine tk 3 55 (Go.ba 39 127) (take_ofW HT_.out HW_.out (by kernel_rfl)) hHeld ?_ (hy := by rintro w' ⟨s0, s1, s2, s3, s4, s5, s6, s7, s8, s9, s10, s11⟩; go_simp; with_reducible rfl)
                      refine tk 7 59 (Go.ba 39 255) (take_ofW HT_.out HW_.out (by kernel_rfl)) hHeld ?_ (hy := by rintro w' ⟨s0, s1, s2, s3, s4, s5, s6, s7, s8, s9, s10, s11⟩; go_simp; with_reducible rfl)
                      refine pu 8 60 (Go.ba 39 511) (any_of HT_.out (by kernel_rfl)) ?_
                      refine pu 9 61 (Go.ba 39 1023) (any_of HT_.out (by kernel_rfl)) ?_
                      refine pu 10 62 (Go.ba 39 2047) (any_of HT_.out (by kernel_rfl)) ?_
                      refine pu 11 63 (Go.ba 39 4095) (any_of HT_.out (by kernel_rfl)) ?_
                      refine pu 12 64 (Go.ba 39 8191) (any_of HT_.out (by kernel_rfl)) ?_
                      refine pu 13 65 (Go.ba 39 16383) (any_of HT_.out (by kernel_rfl)) ?_
                      refine pu 14 66 (Go.ba 39 32767) (any_of HT_.out (by kernel_rfl)) ?_
                      refine pu 15 67 (Go.ba 39 65535) (any_of HT_.out (by kernel_rfl)) ?_
                      refine pu 16 68 (Go.ba 39 131071) (any_of HT_.out (by kernel_rfl)) ?_
                      refine pu 18 70 (Go.ba 39 393215) (any_of HT_.out (by kernel_rfl)) ?_
                      refine pu 19 71 (Go.ba 39 917503) (any_of HT_.out (by kernel_rfl)) ?_
                      refine pu 20 72 (Go.ba 39 1966079) (any_of HT_.out (by kernel_rfl)) ?_
                      refine pu 25 77 (Go.ba 39 35520511) (any_of HT_.out (by kernel_rfl)) ?_
                      refine pu 26 78 (Go.ba 39 102629375) (any_of HT_.out (by kernel_rfl)) ?_
                      refine pu 27 79 (Go.ba 39 236847103) (any_of HT_.out (by kernel_rfl)) ?_
                      refine pu 29 81 (Go.ba 39 773718015) (any_of HT_.out (by kernel_rfl)) ?_
                      refine pu 30 82 (Go.ba 39 1847459839) (any_of HT_.out (by kernel_rfl)) ?_
                      refine pu 31 83 (Go.ba 39 3994943487) (any_of HT_.out (by kernel_rfl)) ?_
                      refine tk 17 69 (Go.ba 39 3995074559) (take_ofW HT_.out HW_.out (by kernel_rfl)) hHeld ?_ (hy := by rintro w' ⟨s0, s1, s2, s3, s4, s5, s6, s7, s8, s9, s10, s11⟩; go_simp; with_reducible rfl)
                      refine tk 21 73 (Go.ba 39 3997171711) (take_ofW HT_.out HW_.out (by kernel_rfl)) hHeld ?_ (hy := by rintro w' ⟨s0, s1, s2, s3, s4, s5, s6, s7, s8, s9, s10, s11⟩; go_simp; with_reducible rfl)
                      refine pu 22 74 (Go.ba 39 4001366015) (any_of HT_.out (by kernel_rfl)) ?_
                      refine pu 23 75 (Go.ba 39 4009754623) (any_of HT_.out (by kernel_rfl)) ?_
                      refine tk 24 76 (Go.ba 39 4026531839) (take_ofW HT_.out HW_.out (by kernel_rfl)) hHeld ?_ (hy := by rintro w' ⟨s0, s1, s2, s3, s4, s5, s6, s7, s8, s9, s10, s11⟩; go_simp; with_reducible rfl)
                      refine tk 28 80 (Go.ba 39 4294967295) (take_ofW HT_.out HW_.out (by kernel_rfl)) hHeld ?_ (hy := by rintro w' ⟨s0, s1, s2, s3, s4, s5, s6, s7, s8, s9, s10, s11⟩; go_simp; with_reducible rfl)
                      refine tk 32 84 (Go.ba 39 8589934591) (take_ofW HT_.out HW_.out (by kernel_rfl)) hHeld ?_ (hy := by rintro w' ⟨s0, s1, s2, s3, s4, s5, s6, s7, s8, s9, s10, s11⟩; go_simp; with_reducible rfl)
                      refine pu 33 85 (Go.ba 39 17179869183) (any_of HT_.out (by kernel_rfl)) ?_
                      refine pu 34 86 (Go.ba 39 34359738367) (any_of HT_.out (by kernel_rfl)) ?_
                      refine tk 35 87 (Go.ba 39 68719476735) (take_ofW HT_.out HW_.out (by kernel_rfl)) hHeld ?_ (hy := by rintro w' ⟨s0, s1, s2, s3, s4, s5, s6, s7, s8, s9, s10, s11⟩; go_simp; with_reducible rfl)
                      refine pu 36 88 (Go.ba 39 137438953471) (any_of HT_.out (by kernel_rfl)) ?_
                      refine pu 37 89 (Go.ba 39 274877906943) (any_of HT_.out (by kernel_rfl)) ?_
                      refine pu 38 90 (Go.ba 39 549755813887) (any_of HT_.out (by kernel_rfl)) ?_
                      refine done_ (done_of HT_.out (by kernel_rfl)) ?_
                      try go_wp2
                      go_roundg k3
                      case measure => have := HK1.out; have := HK2.out; have := HK3.out; omega
                      case rel => exact ⟨(x8_3), (wrap64 (x9_3 + 1)), (by first | rfl | (simp; done) | (simp [*]; done)), (by first | rfl | (simp; done) | (simp [*]; done)), H', ⟨by have := HK1.out; have := HK2.out; have := HK3.out; omega⟩, ⟨by (with_reducible repeat (first | apply Kd.R_alloc | apply Kd.R_drewN | apply Kd.R_drew)); exact HO_4.out⟩, ⟨by (with_reducible repeat (first | apply Kd.R_alloc | apply Kd.R_drewN | apply Kd.R_drew)); exact HO_7.out⟩, ⟨by repeat (first | (with_reducible first | exact HB.out | apply below_alloc | apply pw_below_drewN | apply below_drew1) | exact HB.out)⟩⟩
                    ·rw [if_neg c29] at H
                     exact absurd H (by simp)
                   ·rw [if_neg c28] at H
                    exact absurd H (by simp)
                  ·rw [if_neg c27] at H
                   exact absurd H (by simp)
                 ·rw [if_neg c26] at H
                  exact absurd H (by simp)
                ·rw [if_neg c25] at H
                 exact absurd H (by simp)
               ·rw [if_neg c24] at H
                exact absurd H (by simp)
             ·rw [if_neg c20] at H
              have c20b0 := decide_eq_false c20
              clear c20
              have H' := ak H
              clear H
              try go_wp2
              replace HO_4 := ak (Kd.R_drew HO_4.out)
              replace HO_7 := ak (Kd.R_drew HO_7.out)
              replace HB := ak (below_drew1 HB.out)
              obtain ⟨Ao36, co36, eo36⟩ := Kd.R_slice HO_4.out
              (first | subst eo36 | (injection eo36 with f1_ f2_ f3_; have f4_ := f1_.symm; have f5_ := f3_.symm; clear f1_ f2_ f3_; subst f4_; subst f5_))
              have p228 : 0 ≤ (x9_3 : Int) := of_decide_eq_true (by first | (with_reducible assumption) | assumption)
              have q228 : x9_3 < (x4_2.length : Int) := of_decide_eq_true (by first | (with_reducible assumption) | assumption)
              obtain ⟨ad228, e228, hx228_0⟩ := Kd.at_int (Kd.R_reads' HO_4.out).2.2 x9_3 p228 q228
              cases e228
              replace p228 := eq_true p228
              replace q228 := eq_true q228
              have p229 : 0 ≤ (x9_3 : Int) := of_decide_eq_true (by first | (with_reducible assumption) | assumption)
              have q229 : x9_3 < (l0.length : Int) := of_decide_eq_true (by first | (with_reducible assumption) | assumption)
              obtain ⟨ad229, A229_0, c229_0, e229, hx229_0, hl229_0, hi229_0⟩ := at_L4 HR0.out x9_3 p229 q229
              have hw229_0 := hx229_0
              cases e229
              replace hx229_0 := (HB.out.cell (World.block_lt_of_cell? w _ hx229_0)).trans hx229_0
              have HR229_0 := ak hi229_0
              have HC229_0 := ak hl229_0
              clear hi229_0 hl229_0
              replace p229 := eq_true p229
              replace q229 := eq_true q229
              refine start_ (n := 39) (S := fun w' => w'.cell? (ad228.add (x9_3).toNat) = some (.int .i64 (rd x4_2 x9_3)) ∧ w'.cell? (ad229.add (x9_3).toNat) = some (.slice A229_0 (rd_L4 l0 x9_3).length c229_0)) (ds := []) (Go.ba 39 0) (by kernel_rfl) rfl rfl ⟨hx228_0, ((HB.out.cell (World.block_lt_of_cell? w _ hw229_0)).trans hw229_0)⟩ (fun hHeld => ?_); refine with_tabW payoffref03_Merge.tab15 payoffref03_Merge.bits15 (fun HT_ HW_ => ?_)
              generalize wr.drew = w35 at HO_4 HO_7 HB HR229_0 hx228_0 hx229_0 hHeld ⊢
              refine pu 0 52 (Go.ba 39 1) (any_of HT_.out (by kernel_rfl)) ?_
              refine pu 1 53 (Go.ba 39 3) (any_of HT_.out (by kernel_rfl)) ?_
              refine pu 2 54 (Go.ba 39 7) (any_of HT_.out (by kernel_rfl)) ?_
              refine pu 4 56 (Go.ba 39 23) (any_of HT_.out (by kernel_rfl)) ?_
              refine pu 5 57 (Go.ba 39 55) (any_of HT_.out (by kernel_rfl)) ?_
              refine pu 6 58 (Go.ba 39 119) (any_of HT_.out (by kernel_rfl)) ?_
              refine tk 3 55 (Go.ba 39 127) (take_ofW HT_.out HW_.out (by kernel_rfl)) hHeld ?_ (hy := by rintro w' ⟨s0, s1⟩; go_simp; with_reducible rfl)
              refine tk 7 59 (Go.ba 39 255) (take_ofW HT_.out HW_.out (by kernel_rfl)) hHeld ?_ (hy := by rintro w' ⟨s0, s1⟩; go_simp; with_reducible rfl)
              refine pu 8 60 (Go.ba 39 511) (any_of HT_.out (by kernel_rfl)) ?_
              refine pu 9 61 (Go.ba 39 1023) (any_of HT_.out (by kernel_rfl)) ?_
              refine pu 10 62 (Go.ba 39 2047) (any_of HT_.out (by kernel_rfl)) ?_
              refine pure_ (i := 11) (N := some 63) (v := undef) (a' := ?_) (Go.ba 39 4095) rfl rfl (any_of HT_.out (by kernel_rfl)) (fun _ _ _ h => h) (Or.inr ⟨by rfl, rfl⟩) ?_ ?_
              rotate_left
              ·simp only [pz]
               rfl
              refine pure_ (i := 12) (N := some 64) (v := undef) (a' := ?_) (Go.ba 39 8191) rfl rfl (any_of HT_.out (by kernel_rfl)) (fun _ _ _ h => h) (Or.inr ⟨by rfl, rfl⟩) ?_ ?_
              rotate_left
              ·simp only [pz]
               rfl
              refine pure_ (i := 13) (N := some 65) (v := undef) (a' := ?_) (Go.ba 39 16383) rfl rfl (any_of HT_.out (by kernel_rfl)) (fun _ _ _ h => h) (Or.inr ⟨by rfl, rfl⟩) ?_ ?_
              rotate_left
              ·simp only [pz]
               rfl
              refine pure_ (i := 14) (N := some 66) (v := undef) (a' := ?_) (Go.ba 39 32767) rfl rfl (any_of HT_.out (by kernel_rfl)) (fun _ _ _ h => h) (Or.inr ⟨by rfl, rfl⟩) ?_ ?_
              rotate_left
              ·simp only [pz]
               rfl
              refine pure_ (i := 15) (N := some 67) (v := undef) (a' := ?_) (Go.ba 39 65535) rfl rfl (any_of HT_.out (by kernel_rfl)) (fun _ _ _ h => h) (Or.inr ⟨by rfl, rfl⟩) ?_ ?_
              rotate_left
              ·simp only [pz]
               rfl
              refine pure_ (i := 16) (N := some 68) (v := undef) (a' := ?_) (Go.ba 39 131071) rfl rfl (any_of HT_.out (by kernel_rfl)) (fun _ _ _ h => h) (Or.inr ⟨by rfl, rfl⟩) ?_ ?_
              rotate_left
              ·simp only [pz]
               rfl
              refine pure_ (i := 17) (N := some 69) (v := undef) (a' := ?_) (Go.ba 39 262143) rfl rfl (any_of HT_.out (by kernel_rfl)) (fun _ _ _ h => h) (Or.inr ⟨by rfl, rfl⟩) ?_ ?_
              rotate_left
              ·simp only [pz]
               rfl
              refine pure_ (i := 18) (N := some 70) (v := undef) (a' := ?_) (Go.ba 39 524287) rfl rfl (any_of HT_.out (by kernel_rfl)) (fun _ _ _ h => h) (Or.inr ⟨by rfl, rfl⟩) ?_ ?_
              rotate_left
              ·simp only [pz]
               rfl
              refine pure_ (i := 19) (N := some 71) (v := undef) (a' := ?_) (Go.ba 39 1048575) rfl rfl (any_of HT_.out (by kernel_rfl)) (fun _ _ _ h => h) (Or.inr ⟨by rfl, rfl⟩) ?_ ?_
              rotate_left
              ·simp only [pz]
               rfl
              refine pure_ (i := 20) (N := some 72) (v := undef) (a' := ?_) (Go.ba 39 2097151) rfl rfl (any_of HT_.out (by kernel_rfl)) (fun _ _ _ h => h) (Or.inr ⟨by rfl, rfl⟩) ?_ ?_
              rotate_left
              ·simp only [pz]
               rfl
              refine pure_ (i := 21) (N := some 73) (v := undef) (a' := ?_) (Go.ba 39 4194303) rfl rfl (any_of HT_.out (by kernel_rfl)) (fun _ _ _ h => h) (Or.inr ⟨by rfl, rfl⟩) ?_ ?_
              rotate_left
              ·simp only [pz]
               rfl
              refine pure_ (i := 22) (N := some 74) (v := undef) (a' := ?_) (Go.ba 39 8388607) rfl rfl (any_of HT_.out (by kernel_rfl)) (fun _ _ _ h => h) (Or.inr ⟨by rfl, rfl⟩) ?_ ?_
              rotate_left
              ·simp only [pz]
               rfl
              refine pure_ (i := 23) (N := some 75) (v := undef) (a' := ?_) (Go.ba 39 16777215) rfl rfl (any_of HT_.out (by kernel_rfl)) (fun _ _ _ h => h) (Or.inr ⟨by rfl, rfl⟩) ?_ ?_
              rotate_left
              ·simp only [pz]
               rfl
              refine pure_ (i := 24) (N := some 76) (v := undef) (a' := ?_) (Go.ba 39 33554431) rfl rfl (any_of HT_.out (by kernel_rfl)) (fun _ _ _ h => h) (Or.inr ⟨by rfl, rfl⟩) ?_ ?_
              rotate_left
              ·simp only [pz]
               rfl
              refine pure_ (i := 25) (N := some 77) (v := undef) (a' := ?_) (Go.ba 39 67108863) rfl rfl (any_of HT_.out (by kernel_rfl)) (fun _ _ _ h => h) (Or.inr ⟨by rfl, rfl⟩) ?_ ?_
              rotate_left
              ·simp only [pz]
               rfl
              refine pure_ (i := 26) (N := some 78) (v := undef) (a' := ?_) (Go.ba 39 134217727) rfl rfl (any_of HT_.out (by kernel_rfl)) (fun _ _ _ h => h) (Or.inr ⟨by rfl, rfl⟩) ?_ ?_
              rotate_left
              ·simp only [pz]
               rfl
              refine pure_ (i := 27) (N := some 79) (v := undef) (a' := ?_) (Go.ba 39 268435455) rfl rfl (any_of HT_.out (by kernel_rfl)) (fun _ _ _ h => h) (Or.inr ⟨by rfl, rfl⟩) ?_ ?_
              rotate_left
              ·simp only [pz]
               rfl
              refine pure_ (i := 28) (N := some 80) (v := undef) (a' := ?_) (Go.ba 39 536870911) rfl rfl (any_of HT_.out (by kernel_rfl)) (fun _ _ _ h => h) (Or.inr ⟨by rfl, rfl⟩) ?_ ?_
              rotate_left
              ·simp only [pz]
               rfl
              refine pure_ (i := 29) (N := some 81) (v := undef) (a' := ?_) (Go.ba 39 1073741823) rfl rfl (any_of HT_.out (by kernel_rfl)) (fun _ _ _ h => h) (Or.inr ⟨by rfl, rfl⟩) ?_ ?_
              rotate_left
              ·simp only [pz]
               rfl
              refine pure_ (i := 30) (N := some 82) (v := undef) (a' := ?_) (Go.ba 39 2147483647) rfl rfl (any_of HT_.out (by kernel_rfl)) (fun _ _ _ h => h) (Or.inr ⟨by rfl, rfl⟩) ?_ ?_
              rotate_left
              ·simp only [pz]
               rfl
              refine pure_ (i := 31) (N := some 83) (v := undef) (a' := ?_) (Go.ba 39 4294967295) rfl rfl (any_of HT_.out (by kernel_rfl)) (fun _ _ _ h => h) (Or.inr ⟨by rfl, rfl⟩) ?_ ?_
              rotate_left
              ·simp only [pz]
               rfl
              refine pure_ (i := 32) (N := some 84) (v := undef) (a' := ?_) (Go.ba 39 8589934591) rfl rfl (any_of HT_.out (by kernel_rfl)) (fun _ _ _ h => h) (Or.inr ⟨by rfl, rfl⟩) ?_ ?_
              rotate_left
              ·simp only [pz]
               rfl
              refine pure_ (i := 33) (N := some 85) (v := undef) (a' := ?_) (Go.ba 39 17179869183) rfl rfl (any_of HT_.out (by kernel_rfl)) (fun _ _ _ h => h) (Or.inr ⟨by rfl, rfl⟩) ?_ ?_
              rotate_left
              ·simp only [pz]
               rfl
              refine pure_ (i := 34) (N := some 86) (v := undef) (a' := ?_) (Go.ba 39 34359738367) rfl rfl (any_of HT_.out (by kernel_rfl)) (fun _ _ _ h => h) (Or.inr ⟨by rfl, rfl⟩) ?_ ?_
              rotate_left
              ·simp only [pz]
               rfl
              refine pure_ (i := 35) (N := some 87) (v := undef) (a' := ?_) (Go.ba 39 68719476735) rfl rfl (any_of HT_.out (by kernel_rfl)) (fun _ _ _ h => h) (Or.inr ⟨by rfl, rfl⟩) ?_ ?_
              rotate_left
              ·simp only [pz]
               rfl
              refine pure_ (i := 36) (N := some 88) (v := undef) (a' := ?_) (Go.ba 39 137438953471) rfl rfl (any_of HT_.out (by kernel_rfl)) (fun _ _ _ h => h) (Or.inr ⟨by rfl, rfl⟩) ?_ ?_
              rotate_left
              ·simp only [pz]
               rfl
              refine pure_ (i := 37) (N := some 89) (v := undef) (a' := ?_) (Go.ba 39 274877906943) rfl rfl (any_of HT_.out (by kernel_rfl)) (fun _ _ _ h => h) (Or.inr ⟨by rfl, rfl⟩) ?_ ?_
              rotate_left
              ·simp only [pz]
               rfl
              refine pu 38 90 (Go.ba 39 549755813887) (any_of HT_.out (by kernel_rfl)) ?_
              refine done_ (done_of HT_.out (by kernel_rfl)) ?_
              try go_wp2
              go_roundg k3
              case measure => have := HK1.out; have := HK2.out; have := HK3.out; omega
              case rel => exact ⟨(x8_3), (wrap64 (x9_3 + 1)), (by first | rfl | (simp; done) | (simp [*]; done)), (by first | rfl | (simp; done) | (simp [*]; done)), H', ⟨by have := HK1.out; have := HK2.out; have := HK3.out; omega⟩, ⟨by (with_reducible repeat (first | apply Kd.R_alloc | apply Kd.R_drewN | apply Kd.R_drew)); exact HO_4.out⟩, ⟨by (with_reducible repeat (first | apply Kd.R_alloc | apply Kd.R_drewN | apply Kd.R_drew)); exact HO_7.out⟩, ⟨by repeat (first | (with_reducible first | exact HB.out | apply below_alloc | apply pw_below_drewN | apply below_drew1) | exact HB.out)⟩⟩
            ·rw [if_neg c19] at H
             exact absurd H (by simp)
           ·rw [if_neg c18] at H
            exact absurd H (by simp)
          ·rw [if_neg c17] at H
           have c17b0 := decide_eq_false c17
           clear c17
           by_cases c37 : x8_3 < 0
           ·rw [if_pos c37] at H
            have c37b0 := decide_eq_true c37
            clear c37
            simp only [Option.some.injEq, Prod.mk.injEq] at H
            obtain ⟨rfl, rfl⟩ := H
            go_wp2
            go_ret2
            exact ⟨_, by first | rfl | (simp [errW_none, errW_some] <;> rfl) | (simp [*, errW_none, errW_some] <;> rfl), by (with_reducible repeat (first | apply Kd.R_alloc | apply Kd.R_drewN | apply Kd.R_drew)); exact HO_7.out, by repeat (first | (with_reducible first | exact HB.out | apply below_alloc | apply pw_below_drewN | apply below_drew1) | exact HB.out)⟩
           ·rw [if_neg c37] at H
            have c37b0 := decide_eq_false c37
            clear c37
            by_cases c38 : 0 ≤ x8_3
            ·rw [if_pos c38] at H
             have c38b0 := decide_eq_true c38
             clear c38
             by_cases c39 : x8_3 < (l0.length : Int)
             ·rw [if_pos c39] at H
              have c39b0 := decide_eq_true c39
              clear c39
              by_cases c40 : x8_3 < (x4_2.length : Int)
              ·rw [if_pos c40] at H
               have c40b0 := decide_eq_true c40
               clear c40
               by_cases c41 : 0 ≤ (rd x4_2 x8_3)
               ·rw [if_pos c41] at H
                have c41b0 := decide_eq_true c41
                clear c41
                by_cases c42 : (rd x4_2 x8_3) < ((rd_L4 l0 x8_3).length : Int)
                ·rw [if_pos c42] at H
                 have c42b0 := decide_eq_true c42
                 clear c42
                 by_cases c43 : x7_2.length < 4398046511104
                 ·rw [if_pos c43] at H
                  have LMc43 := ak c43
                  clear c43
                  obtain ⟨y239, hy239⟩ : ∃ y_ : List (S32), y_ = (x7_2 ++ [(⟨(rd_T32 (rd_L4 l0 x8_3) (rd x4_2 x8_3)).f0, (rd_T32 (rd_L4 l0 x8_3) (rd x4_2 x8_3)).f1, (rd_T32 (rd_L4 l0 x8_3) (rd x4_2 x8_3)).f2⟩ : S32)]) := ⟨_, rfl⟩
                  replace H : (payoffref03_Merge.l2 k3 l0 (x4_2.set (x8_3 : Int).toNat (wrap64 ((rd x4_2 x8_3) + 1))) y239) = some (r1, r2) := by first | (rw [hy239]; with_reducible exact H) | (have H2_ := (Option.bind_some _ _).symm.trans H; rw [hy239]; with_reducible exact H2_) | (have H2_ := (Option.bind_some _ _).symm.trans H; with_reducible exact H2_) | with_reducible exact H | (rw [hy239]; exact H) | exact H
                  have Ny239 := ak hy239
                  clear hy239
                  obtain ⟨y243, hy243⟩ : ∃ y_ : List Int, y_ = (x4_2.set (x8_3 : Int).toNat (wrap64 ((rd x4_2 x8_3) + 1))) := ⟨_, rfl⟩
                  replace H : (payoffref03_Merge.l2 k3 l0 y243 y239) = some (r1, r2) := by first | (rw [hy243]; with_reducible exact H) | (have H2_ := (Option.bind_some _ _).symm.trans H; rw [hy243]; with_reducible exact H2_) | (have H2_ := (Option.bind_some _ _).symm.trans H; with_reducible exact H2_) | with_reducible exact H | (rw [hy243]; exact H) | exact H
                  have Ny243 := ak hy243
                  clear hy243
                  have H' := ak H
                  clear H
                  try go_wp2
                  replace HO_4 := ak (Kd.R_drew HO_4.out)
                  replace HO_7 := ak (Kd.R_drew HO_7.out)
                  replace HB := ak (below_drew1 HB.out)
                  have p236 : 0 ≤ (x8_3 : Int) := of_decide_eq_true (by first | (with_reducible assumption) | assumption)
                  have q236 : x8_3 < (l0.length : Int) := of_decide_eq_true (by first | (with_reducible assumption) | assumption)
                  obtain ⟨ad236, A236_0, c236_0, e236, hx236_0, hl236_0, hi236_0⟩ := at_L4 HR0.out x8_3 p236 q236
                  have hw236_0 := hx236_0
                  cases e236
                  replace hx236_0 := (HB.out.cell (World.block_lt_of_cell? w _ hx236_0)).trans hx236_0
                  have HR236_0 := ak hi236_0
                  have HC236_0 := ak hl236_0
                  clear hi236_0 hl236_0
                  replace p236 := eq_true p236
                  replace q236 := eq_true q236
                  obtain ⟨Ao46, co46, eo46⟩ := Kd.R_slice HO_4.out
                  (first | subst eo46 | (injection eo46 with f1_ f2_ f3_; have f4_ := f1_.symm; have f5_ := f3_.symm; clear f1_ f2_ f3_; subst f4_; subst f5_))
                  have p237 : 0 ≤ (x8_3 : Int) := of_decide_eq_true (by first | (with_reducible assumption) | assumption)
                  have q237 : x8_3 < (x4_2.length : Int) := of_decide_eq_true (by first | (with_reducible assumption) | assumption)
                  obtain ⟨ad237, e237, hx237_0⟩ := Kd.at_int (Kd.R_reads' HO_4.out).2.2 x8_3 p237 q237
                  cases e237
                  replace p237 := eq_true p237
                  replace q237 := eq_true q237
                  have p238 : 0 ≤ ((rd x4_2 x8_3) : Int) := of_decide_eq_true (by first | (with_reducible assumption) | assumption)
                  have q238 : (rd x4_2 x8_3) < ((rd_L4 l0 x8_3).length : Int) := of_decide_eq_true (by first | (with_reducible assumption) | assumption)
                  obtain ⟨ad238, e238, hx238_0, hx238_1, hx238_2⟩ := at_T32 HR236_0.out (rd x4_2 x8_3) p238 q238
                  have hw238_2 := hx238_2
                  have hw238_1 := hx238_1
                  have hw238_0 := hx238_0
                  cases e238
                  replace hx238_0 := (HB.out.cell (World.block_lt_of_cell? w _ hx238_0)).trans hx238_0
                  replace hx238_1 := (HB.out.cell (World.block_lt_of_cell? w _ hx238_1)).trans hx238_1
                  replace hx238_2 := (HB.out.cell (World.block_lt_of_cell? w _ hx238_2)).trans hx238_2
                  replace p238 := eq_true p238
                  replace q238 := eq_true q238
                  refine start_ (n := 14) (S := fun w' => w'.cell? (ad236.add (x8_3).toNat) = some (.slice (some ad238) (rd_L4 l0 x8_3).length c236_0) ∧ w'.cell? (ad237.add (x8_3).toNat) = some (.int .i64 (rd x4_2 x8_3)) ∧ w'.cell? (ad238.add (((rd x4_2 x8_3)).toNat * 3)) = some (.int .i64 ((rd_T32 (rd_L4 l0 x8_3) (rd x4_2 x8_3)).f0)) ∧ w'.cell? ⟨(ad238.add (((rd x4_2 x8_3)).toNat * 3)).block, (ad238.add (((rd x4_2 x8_3)).toNat * 3)).off + 1, none⟩ = some (.string ((rd_T32 (rd_L4 l0 x8_3) (rd x4_2 x8_3)).f1)) ∧ w'.cell? ⟨(ad238.add (((rd x4_2 x8_3)).toNat * 3)).block, (ad238.add (((rd x4_2 x8_3)).toNat * 3)).off + 2, none⟩ = some (.int .i64 ((rd_T32 (rd_L4 l0 x8_3) (rd x4_2 x8_3)).f2))) (ds := [11, 12]) (Go.ba 14 0) (by kernel_rfl) rfl rfl ⟨((HB.out.cell (World.block_lt_of_cell? w _ hw236_0)).trans hw236_0), hx237_0, ((HB.out.cell (World.block_lt_of_cell? w _ hw238_0)).trans hw238_0), ((HB.out.cell (World.block_lt_of_cell? w _ hw238_1)).trans hw238_1), ((HB.out.cell (World.block_lt_of_cell? w _ hw238_2)).trans hw238_2)⟩ (fun hHeld => ?_); refine with_tabW payoffref03_Merge.tab19 payoffref03_Merge.bits19 (fun HT_ HW_ => ?_)
                  generalize wr.drew = w45 at HO_4 HO_7 HB HR236_0 hx236_0 hx237_0 hx238_0 hx238_1 hx238_2 hHeld ⊢
                  refine pu 0 95 (Go.ba 14 1) (any_of HT_.out (by kernel_rfl)) ?_
                  refine pu 1 96 (Go.ba 14 3) (any_of HT_.out (by kernel_rfl)) ?_
                  refine pu 2 97 (Go.ba 14 7) (any_of HT_.out (by kernel_rfl)) ?_
                  refine pu 3 98 (Go.ba 14 15) (any_of HT_.out (by kernel_rfl)) ?_
                  refine pu 5 100 (Go.ba 14 47) (any_of HT_.out (by kernel_rfl)) ?_
                  refine pu 6 101 (Go.ba 14 111) (any_of HT_.out (by kernel_rfl)) ?_
                  refine pu 7 102 (Go.ba 14 239) (any_of HT_.out (by kernel_rfl)) ?_
                  refine tk 4 99 (Go.ba 14 255) (take_ofW HT_.out HW_.out (by kernel_rfl)) hHeld ?_ (hy := by rintro w' ⟨s0, s1, s2, s3, s4⟩; go_simp; with_reducible rfl)
                  refine tk 8 103 (Go.ba 14 511) (take_ofW HT_.out HW_.out (by kernel_rfl)) hHeld ?_ (hy := by rintro w' ⟨s0, s1, s2, s3, s4⟩; go_simp; with_reducible rfl)
                  refine pu 9 104 (Go.ba 14 1023) (any_of HT_.out (by kernel_rfl)) ?_
                  refine tk 10 105 (Go.ba 14 2047) (take_ofW HT_.out HW_.out (by kernel_rfl)) hHeld ?_ (hy := by rintro w' ⟨s0, s1, s2, s3, s4⟩; go_simp; with_reducible rfl)
                  refine last_ (i := 11) (N := some 106) (Go.ba 14 4095) rfl rfl (one_of HT_.out (by kernel_rfl)) (by decide) (fun K hK => ?_)
                  refine value_ (w1 := ?_) (v := ?_) (by rfl) rfl ?_ ?_
                  rotate_left 2
                  ·go_simp
                   constructor
                   ·rfl
                   ·rfl
                  refine hK.out _ _ ?_
                  clear hK K
                  refine norm_ (a' := ?_) ?_ ?_
                  rotate_left
                  ·show Act.put _ (some 106) _ = _
                   simp only [pz]
                   rfl
                  refine last_ (i := 12) (N := some 107) (Go.ba 14 8191) rfl rfl (one_of HT_.out (by kernel_rfl)) (by decide) (fun K hK => ?_)
                  refine Kd.R_append_step k32 (w0 := w) w.heap.size (by rfl) (.tmp 95) (.tmp 106) 22 32 (.agg #[(.int .i64 0), (.string ⟨#[]⟩), (.int .i64 0)]) 32 rfl Try.underlying22 info32 rfl (by decide) (by omega) u7 x7_2 (⟨(rd_T32 (rd_L4 l0 x8_3) (rd x4_2 x8_3)).f0, (rd_T32 (rd_L4 l0 x8_3) (rd x4_2 x8_3)).f1, (rd_T32 (rd_L4 l0 x8_3) (rd x4_2 x8_3)).f2⟩ : S32) [.int .i64 ((rd_T32 (rd_L4 l0 x8_3) (rd x4_2 x8_3)).f0), .string ((rd_T32 (rd_L4 l0 x8_3) (rd x4_2 x8_3)).f1), .int .i64 ((rd_T32 (rd_L4 l0 x8_3) (rd x4_2 x8_3)).f2)] (fun _ => True) (fun _ => False) rfl rfl ?aP (fun _ hk => hk.elim) ?aF ?aO ?aB ?aS ?aL ?_
                  (case aP => exact k32_mkM _ _ _ (⟨(rd_T32 (rd_L4 l0 x8_3) (rd x4_2 x8_3)).f0, (rd_T32 (rd_L4 l0 x8_3) (rd x4_2 x8_3)).f1, (rd_T32 (rd_L4 l0 x8_3) (rd x4_2 x8_3)).f2⟩ : S32))
                  (case aB => exact (by repeat (first | (with_reducible first | exact HB.out | apply below_alloc | apply pw_below_drewN | apply below_drew1) | exact HB.out)))
                  (case aF => exact (fun _ _ => trivial))
                  (case aO => exact (by (with_reducible repeat (first | apply Kd.R_alloc | apply Kd.R_drewN | apply Kd.R_drew)); exact HO_7.out))
                  (case aS => exact (below_size (by repeat (first | (with_reducible first | exact HB.out | apply below_alloc | apply pw_below_drewN | apply below_drew1) | exact HB.out))))
                  (case aL => have := LMc43.out; omega)
                  intro v240 w47 ho hb hg hat
                  rw [← Ny239.out] at ho
                  replace HO_4 := ak (Kd.R_over' (by (with_reducible repeat (first | apply Kd.R_alloc | apply Kd.R_drewN | apply Kd.R_drew)); exact HO_4.out) (Kd.R_typed (by (with_reducible repeat (first | apply Kd.R_alloc | apply Kd.R_drewN | apply Kd.R_drew)); exact HO_7.out)) (by decide) hg)
                  replace HB := ak (hb)
                  have HO241 := ak (ho)
                  clear HO_7
                  clear ho hb hg hat
                  refine hK.out _ _ ?_
                  clear hK K
                  refine norm_ (a' := ?_) ?_ ?_
                  rotate_left
                  ·show Act.put _ (some 107) _ = _
                   simp only [pz]
                   rfl
                  refine pu 13 7 (Go.ba 14 16383) (any_of HT_.out (by kernel_rfl)) ?_
                  refine done_ (done_of HT_.out (by kernel_rfl)) ?_
                  have p242 : 0 ≤ (x8_3 : Int) := of_decide_eq_true (by first | (with_reducible assumption) | assumption)
                  have q242 : x8_3 < (x4_2.length : Int) := of_decide_eq_true (by first | (with_reducible assumption) | assumption)
                  obtain ⟨ad242, e242, hx242_0⟩ := Kd.at_int (Kd.R_reads' HO_4.out).2.2 x8_3 p242 q242
                  obtain rfl : ad237 = ad242 := (by injection e242)
                  replace p242 := eq_true p242
                  replace q242 := eq_true q242
                  have p44 : 0 ≤ (x8_3 : Int) := of_decide_eq_true (by first | (with_reducible assumption) | assumption)
                  have q44 : (x8_3 : Int) < ((x4_2.length : Int) : Int) := of_decide_eq_true (by first | (with_reducible assumption) | assumption)
                  obtain ⟨go44, co44, eo44, gb44, gl44, cl44, HG44⟩ := Kd.R_form HO_4.out (by omega)
                  (first | cases eo44 | (injection eo44 with ea_ en_ ec_; (first | subst ea_ | (injection ea_ with ea_; subst ea_)); subst ec_; clear en_))
                  have GB44 := ak gb44
                  have GG44 := ak HG44
                  clear gb44 gl44 HG44
                  (first | simp only [add_plain] at hx237_0 | skip)
                  (first | simp only [add_plain] at hx242_0 | skip)
                  obtain ⟨hx44_0, hf44_0⟩ := Kd.R_celln 0 HO_4.out (x8_3 : Int) p44 q44
                  replace p44 := eq_true p44
                  replace q44 := eq_true q44
                  obtain ⟨hy48_, hz48_⟩ := Kd.R_celln 0 HO_4.out (x8_3 : Int) (of_decide_eq_true (by first | (with_reducible assumption) | assumption)) (of_decide_eq_true (by first | (with_reducible assumption) | assumption))
                  have HP48 := Kd.R_putg HO_4.out (x8_3 : Int) (wrap64 ((rd x4_2 x8_3) + 1))
                  try go_wp2_with (first | ((with_reducible refine gate_store (t := 3) (p := 113) rfl ?_); refine store_event (t := 3) (p := 113) (v := ?vo_w49) (w1 := (w47.setCell ⟨go44, (x8_3 : Int).toNat, none⟩ (.int .i64 (wrap64 ((rd x4_2 x8_3) + 1))))) ?hg ?ho ?hn ?hr ?_; (case ho => rfl); (case hg => rfl); (case hn => rfl); (case hr => first | (go_simp; done) | (go_simp; rfl)); intro w49 hw; have hg : w47.grownBy w49 (some go44) := (by rw [hw]; exact HP48.2); have hp_ : Kd.R (Kd.int .i64) 3 w49 w.heap.size (fun _ => True) (.slice (some ⟨go44, 0, none⟩) x4_2.length co46) y243 := (by rw [hw, Ny243.out]; exact HP48.1); clear HP48; have n0_ := ak (hp_); have n1_ := ak (Kd.R_over' (v := (.slice (some ⟨go44, 0, none⟩) x4_2.length co46)) (by (with_reducible repeat (first | apply Kd.R_alloc | apply Kd.R_drewN | apply Kd.R_drew)); exact HO241.out) (Kd.R_typed HO_4.out) (by decide) hg); have n2_ := ak ((by rw [hw]; exact below_set (HB.out) GB44.out : Below w.heap.size w w49)); clear HO_4; clear HO241; clear HB; have HO_4 := n0_; have HO241 := n1_; have HB := n2_; clear n0_ n1_ n2_; clear hg hw hp_))
                  go_roundg k3
                  case measure => have := HK1.out; have := HK2.out; have := HK3.out; omega
                  case rel => exact ⟨(y243), (y239), H', ⟨by have := HK1.out; have := HK2.out; have := HK3.out; omega⟩, ⟨by (with_reducible repeat (first | apply Kd.R_alloc | apply Kd.R_drewN | apply Kd.R_drew)); exact HO_4.out⟩, ⟨by (with_reducible repeat (first | apply Kd.R_alloc | apply Kd.R_drewN | apply Kd.R_drew)); exact HO241.out⟩, ⟨by repeat (first | (with_reducible first | exact HB.out | apply below_alloc | apply pw_below_drewN | apply below_drew1) | exact HB.out)⟩⟩
                 ·rw [if_neg c43] at H
                  exact absurd H (by simp)
                ·rw [if_neg c42] at H
                 exact absurd H (by simp)
               ·rw [if_neg c41] at H
                exact absurd H (by simp)
              ·rw [if_neg c40] at H
               exact absurd H (by simp)
             ·rw [if_neg c39] at H
              exact absurd H (by simp)
            ·rw [if_neg c38] at H
             exact absurd H (by simp)
  ·rw [if_neg c3] at H
   exact absurd H (by simp)
 ·rw [if_neg c2] at H
  exact absurd H (by simp)
end Go.Proofs.Ytdfndbegifdejaa.PFlowExact
end
section
namespace Go.Proofs.YtdfndbegifdejaaStab
set_option linter.unusedVariables false
set_option linter.unusedSimpArgs false
set_option linter.unusedSectionVars false
open Go Go.Proofs Go.Shelf Go.RowKit Go.Lib Go.Sort
variable {P : Program} {α : Type} [Inhabited α]
theorem rot_even (m i t : Nat) (h : i ≤ m) : rotI (m - i) m (m + i) t = swI (m - i) m i t := by
  unfold rotI swI; (repeat' split) <;> omega
theorem rot_gt (m i j t : Nat) (h : i ≤ m) (hij : j < i) : rotI (m - i) m (m + j) t = swI (m - i) m j (rotI (m - (i - j)) m (m + j) t) := by
  have e : ∀ r, r = rotI (m - (i - j)) m (m + j) t → rotI (m - i) m (m + j) t = swI (m - i) m j r := by
    intro r hr
    unfold rotI at hr
    unfold rotI swI
    (repeat' split at hr) <;> (repeat' split) <;> omega
  exact e _ rfl
theorem rot_lt (m i j t : Nat) (h : i ≤ m) (hij : i < j) : rotI (m - i) m (m + j) t = swI (m - i) (m + j - i) i (rotI (m - i) m (m + (j - i)) t) := by
  have e : ∀ r, r = rotI (m - i) m (m + (j - i)) t → rotI (m - i) m (m + j) t = swI (m - i) (m + j - i) i r := by
    intro r hr
    unfold rotI at hr
    unfold rotI swI
    (repeat' split at hr) <;> (repeat' split) <;> omega
  exact e _ rfl
set_option maxHeartbeats 4000000 in
set_option maxRecDepth 1000000 in
theorem rotate (k : Nat) (L : Lays P k) (enc : α → List Value) (g : Nat) (cb : Array Value) (blk off cap a m b : Nat) (d0 d : Array α) (w0 w : World)
    (R : RowK enc k w0 blk off d0) (hs : d0.size = d.size) (S : SWK enc k w0 blk off d w) (ham : a < m) (hmb : m < b) (hb : b ≤ d.size) (hsz : d.size < 4611686018427387904) :
    Calls P 74 #[.slice (some ⟨blk, off, none⟩) d.size cap, .int .i64 a, .int .i64 m, .int .i64 b, .func (.func g) #[] cb] w fun e w' =>
      e = .returned (.tuple #[]) ∧ ∃ dk : Array α, Rot a m b d dk ∧ SWK enc k w0 blk off dk w' := by
  have mixed := L.mixed; have t0 := L.t0; have a0 := L.a0; have z0 := L.z0; have v0 := L.v0; have t3 := L.t3; have a3 := L.a3; have z3 := L.z3; have v3 := L.v3; have t4 := L.t4; have a4 := L.a4; have z4 := L.z4; have v4 := L.v4; have t22 := L.t22; have a22 := L.a22; have z22 := L.z22; have v22 := L.v22; have t35 := L.t35; have a35 := L.a35; have z35 := L.z35; have v35 := L.v35; have aE := L.aE; have zE := L.zE
  have FG := L.f74
  have e93 : ∀ args w, (callFunc 93 args).run P w = .ok (.enter 93 args) w := enters_of L.f93 (by kernel_rfl) rfl
  have S0 : Aside (SWK enc k w0 blk off d w) := S
  clear S
  go_enter FG, Try.ntmps74
  go_wp2
  go_loopg [10, 11] (b - a) (fun kx s10 s11 wr => ∃ (i j : Nat) (dk : Array α), s10 = .int .i64 i ∧ s11 = .int .i64 j ∧ 0 < i ∧ 0 < j ∧ a + i ≤ m ∧ m + j ≤ b ∧ i + j ≤ kx ∧ dk.size = d.size ∧ Aside (SWK enc k w0 blk off dk wr) ∧ Aside (∀ t, d[rotI a m b t]! = dk[rotI (m - i) m (m + j) t]!))
  case atStart => exact ⟨m - a, b - m, d, by first | rfl | go_num | (congr 1; omega), by first | rfl | go_num | (congr 1; omega), by omega, by omega, by omega, by omega, by omega, rfl, S0, (show Aside _ from fun t => by rw [show m - (m - a) = a by omega, show m + (b - m) = b by omega])⟩
  case round =>
    clear S0
    obtain ⟨i, j, dk, rfl, rfl, hi0, hj0, hi, hj, hkx, hds, S1, HE⟩ := hrel
    by_cases heq : i = j
    · subst heq
      have hcall := swapRange k L enc g cb blk off cap (m - i) m i d0 dk w0 wr R (by omega) S1.out (by omega) (by omega) (by omega)
      rw [hds] at hcall
      have ecast : ((m - i : Nat) : Int) = (m : Int) - (i : Int) := by omega
      rw [ecast] at hcall
      clear S1
      go_wp2_with (go_at_fn 93; refine hcall.mono ?_; rintro e w1 ⟨rfl, d2, hd2, hat, S2⟩)
      go_end0
      refine ⟨rfl, d2, ⟨by rw [hd2], fun t => ?_⟩, S2⟩
      rw [HE.out, rot_even m i t (by omega), hat]
    · have hne : ¬ (i : Int) = (j : Int) := by omega
      by_cases hgt : j < i
      · have hgtz : (j : Int) < (i : Int) := by omega
        have hcall := swapRange k L enc g cb blk off cap (m - i) m j d0 dk w0 wr R (by omega) S1.out (by omega) (by omega) (by omega)
        rw [hds] at hcall
        have ecast : ((m - i : Nat) : Int) = (m : Int) - (i : Int) := by omega
        rw [ecast] at hcall
        clear S1
        go_wp2_with (go_at_fn 93; refine hcall.mono ?_; rintro e w1 ⟨rfl, d2, hd2, hat, S2⟩)
        go_roundg (i - j + j)
        case measure => omega
        case rel =>
          exact ⟨i - j, j, d2, by first | rfl | go_num | (congr 1; omega), rfl, by omega, by omega, by omega, by omega, by omega, by rw [hd2], S2, (show Aside _ from fun t => by rw [HE.out, rot_gt m i j t (by omega) hgt, hat])⟩
      · have hgtz : ¬ (j : Int) < (i : Int) := by omega
        have hcall := swapRange k L enc g cb blk off cap (m - i) (m + j - i) i d0 dk w0 wr R (by omega) S1.out (by omega) (by omega) (by omega)
        rw [hds] at hcall
        have ecast : ((m - i : Nat) : Int) = (m : Int) - (i : Int) := by omega
        have ecast2 : ((m + j - i : Nat) : Int) = (m : Int) + (j : Int) - (i : Int) := by omega
        rw [ecast, ecast2] at hcall
        clear S1
        go_wp2_with (go_at_fn 93; refine hcall.mono ?_; rintro e w1 ⟨rfl, d2, hd2, hat, S2⟩)
        go_roundg (i + (j - i))
        case measure => omega
        case rel =>
          exact ⟨i, j - i, d2, rfl, by first | rfl | go_num | (congr 1; omega), by omega, by omega, by omega, by omega, by omega, by rw [hd2], S2, (show Aside _ from fun t => by rw [HE.out, rot_lt m i j t (by omega) (by omega), hat])⟩
end Go.Proofs.YtdfndbegifdejaaStab
end
section
namespace Go.Proofs.YtdfndbegifdejaaStab
set_option linter.unusedVariables false
set_option linter.unusedSimpArgs false
set_option linter.unusedSectionVars false
open Go.Sort
variable {α : Type} [Inhabited α] {d dk : Array α}
theorem rot_right (a c t : Nat) (h : a ≤ c) : rotI a (a + 1) (c + 1 + 1) t = if t = c + 1 then rotI a (a + 1) (c + 1) c else if t = c then rotI a (a + 1) (c + 1) (c + 1) else rotI a (a + 1) (c + 1) t := by
  unfold rotI; (repeat' split) <;> omega
theorem one_left {key : α → Int} {a b c : Nat} {d dk : Array α} (hX : Srt key a (a + 1) d) (hY : Srt key (a + 1) b d) (hac : a ≤ c) (hcb : c + 1 ≤ b) (hr : Rot a (a + 1) (c + 1) d dk)
    (hl : ∀ t, a + 1 ≤ t → t < c + 1 → key d[t]! < key d[a]!) (hg : ∀ t, c + 1 ≤ t → t < b → key d[a]! ≤ key d[t]!) : Seg key a b d dk ∧ Srt key a b dk := by
  have h2 : Srt key a (a + (c - a)) dk := Srt.shift (c - a) a (a + 1) (hY.mono _ _ (Nat.le_refl _) (by omega)) fun i hi => by rw [hr.at_, rotI_in1 (by omega)]
  refine merge_parts (m := a + 1) (s := a) (e := c + 1) (mid := a + (c + 1 - (a + 1))) (Nat.le_refl _) (by omega) (by omega) hcb rfl hX hY
    (fun i j h1 h3 h4 h5 => by obtain rfl : i = a := by omega
                               exact hl j h4 h5) (fun i j h1 h3 _ _ => by omega) hr Seg.refl (by rw [show a + (c + 1 - (a + 1)) = a + (c - a) by omega]; exact h2) Seg.refl ?_
  have e0 : dk[a + (c + 1 - (a + 1))]! = d[a]! := by
    rw [hr.at_, show a + (c + 1 - (a + 1)) = a + (c + 1 - (a + 1)) + 0 by omega, rotI_in2 (by omega) (by omega) (by omega)]; rfl
  intro i j hi hij hj
  have eo : ∀ t, c + 1 ≤ t → dk[t]! = d[t]! := fun t ht => by rw [hr.at_, rotI_out (by omega) (by omega) (.inr ht)]
  by_cases c1 : i = a + (c + 1 - (a + 1))
  · by_cases c2 : j = i
    · subst c2; exact Int.le_refl _
    · rw [c1, e0, eo j (by omega)]; exact hg j (by omega) hj
  · rw [eo i (by omega), eo j (by omega)]; exact hY i j (by omega) hij hj
theorem rot_left (c m t : Nat) (h : c < m) : rotI c m (m + 1) t = if t = c then rotI (c + 1) m (m + 1) (c + 1) else if t = c + 1 then rotI (c + 1) m (m + 1) c else rotI (c + 1) m (m + 1) t := by
  unfold rotI; (repeat' split) <;> omega
theorem one_right {key : α → Int} {a i m : Nat} {d dk : Array α} (hX : Srt key a m d) (hY : Srt key m (m + 1) d) (hai : a ≤ i) (him : i ≤ m) (hr : Rot i m (m + 1) d dk)
    (hl : ∀ t, a ≤ t → t < i → key d[t]! ≤ key d[m]!) (hg : ∀ t, i ≤ t → t < m → key d[m]! < key d[t]!) : Seg key a (m + 1) d dk ∧ Srt key a (m + 1) dk := by
  have e0 : dk[i]! = d[m]! := by rw [hr.at_]; have := rotI_in1 (l := i) (m := m) (r := m + 1) (i := 0) (by omega); simp at this; rw [this]
  have h2 : Srt key a (i + 1) dk := by
    intro p q hp hpq hq
    have eo : ∀ t, t < i → dk[t]! = d[t]! := fun t ht => by rw [hr.at_, rotI_out (by omega) (by omega) (.inl ht)]
    by_cases c1 : q = i
    · subst c1
      by_cases c2 : p = q
      · subst c2; exact Int.le_refl _
      · rw [e0, eo p (by omega)]; exact hl p hp (by omega)
    · rw [eo p (by omega), eo q (by omega)]; exact hX p q hp hpq (by omega)
  have h3 : Srt key (i + 1) (i + 1 + (m - i)) dk := Srt.shift (m - i) (i + 1) i (hX.mono _ _ hai (by omega)) fun t ht => by
    have := rotI_in2 (l := i) (m := m) (r := m + 1) (i := t) (by omega) (by omega) (by omega)
    rw [hr.at_, show i + 1 + t = i + (m + 1 - m) + t by omega, this]
  refine merge_parts (m := m) (s := i) (e := m + 1) (mid := i + (m + 1 - m)) hai him (by omega) (Nat.le_refl _) rfl hX hY
    (fun p q h1 h3 h4 h5 => by obtain rfl : q = m := by omega
                               exact hg p h1 h3) (fun p q h1 h3 h4 h5 => by omega) hr Seg.refl (by rw [show i + (m + 1 - m) = i + 1 by omega]; exact h2) Seg.refl (by rw [show i + (m + 1 - m) = i + 1 by omega, show m + 1 = i + 1 + (m - i) by omega]; exact h3)
end Go.Proofs.YtdfndbegifdejaaStab
end
section
namespace Go.Proofs.YtdfndbegifdejaaStab
set_option linter.unusedVariables false
set_option linter.unusedSimpArgs false
set_option linter.unusedSectionVars false
open Go.Sort
variable {α : Type} [Inhabited α] {key : α → Int} {a b m s e mid lo hi : Nat} {d d1 d2 : Array α}
theorem cut_lo (hX : Srt key a m d) (hY : Srt key m b d) (hal : a ≤ lo) (hls : lo ≤ s) (hsh : s ≤ hi) (him : hi ≤ m) (hid : hi ≤ mid) (hend : mid + m ≤ b + lo) (F4 : hi = m ∨ hi = mid)
    (he : e + s = mid + m) (HR : ∀ t, s ≤ t → t < hi → key d[mid + m - 1 - t]! < key d[t]!) : ∀ i j, s ≤ i → i < m → m ≤ j → j < e → key d[j]! < key d[i]! := by
  intro i j h1 h2 h3 h4
  by_cases c : s < hi
  · have hr := HR s (Nat.le_refl _) c
    have e1 : mid + m - 1 - s = e - 1 := by omega
    rw [e1] at hr
    have h5 := hX s i (by omega) h1 h2
    have h6 := hY j (e - 1) h3 (by omega) (by omega)
    omega
  · omega
theorem cut_hi (hX : Srt key a m d) (hY : Srt key m b d) (hal : a ≤ lo) (hls : lo ≤ s) (hsh : s ≤ hi) (him : hi ≤ m) (hid : hi ≤ mid) (hend : mid + m ≤ b + lo) (F5 : lo = a ∨ lo + b = mid + m)
    (he : e + s = mid + m) (HL : ∀ t, lo ≤ t → t < s → key d[t]! ≤ key d[mid + m - 1 - t]!) : ∀ i j, a ≤ i → i < s → e ≤ j → j < b → key d[i]! ≤ key d[j]! := by
  intro i j h1 h2 h3 h4
  by_cases c : lo < s
  · have hl := HL (s - 1) (by omega) (by omega)
    have e1 : mid + m - 1 - (s - 1) = e := by omega
    rw [e1] at hl
    have h5 := hX i (s - 1) h1 (by omega) (by omega)
    have h6 := hY e j (by omega) h3 h4
    omega
  · omega
theorem rot_pieces (hX : Srt key a m d) (hY : Srt key m b d) (has : a ≤ s) (hsm : s ≤ m) (hme : m ≤ e) (heb : e ≤ b) (he : e + s = mid + m) (h : Rot s m e d d1) :
    Srt key a s d1 ∧ Srt key s mid d1 ∧ Srt key mid e d1 ∧ Srt key e b d1 := by
  refine ⟨(hX.mono a s (Nat.le_refl _) hsm).congr fun t h1 h2 => ?_, ?_, ?_, (hY.mono e b hme (Nat.le_refl _)).congr fun t h1 h2 => ?_⟩
  · rw [h.at_, rotI_out hsm hme (.inl h2)]
  · have := Srt.shift (key := key) (d := d) (d' := d1) (e - m) s m ((hY.mono m e (Nat.le_refl _) heb).mono m (m + (e - m)) (Nat.le_refl _) (by omega)) fun i hi => by rw [h.at_, rotI_in1 hi]
    rwa [show s + (e - m) = mid by omega] at this
  · have := Srt.shift (key := key) (d := d) (d' := d1) (m - s) mid s ((hX.mono s m has (Nat.le_refl _)).mono s (s + (m - s)) (Nat.le_refl _) (by omega)) fun i hi => by
      have := rotI_in2 (l := s) (m := m) (r := e) (i := i) hsm hme hi
      rw [h.at_, show mid + i = s + (e - m) + i by omega, this]
    rwa [show mid + (m - s) = e by omega] at this
  · rw [h.at_, rotI_out hsm hme (.inr h1)]
theorem srt_none (h1 : Srt key a s d) (h2 : Srt key s mid d) (h : ¬ (a < s ∧ s < mid)) (ha : a ≤ s) (hm : s ≤ mid) : Srt key a mid d := by
  by_cases c : a < s
  · have : s = mid := by omega
    subst this; exact h1
  · have : a = s := by omega
    subst this; exact h2
end Go.Proofs.YtdfndbegifdejaaStab
end
section
namespace Go.Proofs.YtdfndbegifdejaaStab
set_option linter.unusedVariables false
set_option linter.unusedSimpArgs false
set_option linter.unusedSectionVars false
open Go Go.Proofs Go.Shelf Go.RowKit Go.Lib Go.Sort
variable {P : Program} {α : Type} [Inhabited α]
set_option maxHeartbeats 4000000 in
set_option maxRecDepth 1000000 in
theorem symL (k : Nat) (L : Lays P k) (enc : α → List Value) (key : α → Int) (cf : α → α → Int) (hcf : ∀ x y, cf x y < 0 ↔ key x < key y) (g : Nat) (cb : Array Value) (eg : ∀ args w, (callFunc g args).run P w = .ok (.enter g args) w) (blk off cap : Nat) (d0 : Array α) (w0 : World)
 (hcmp : CmpLays P g cb enc k cf blk off d0.size w0) (R : RowK enc k w0 blk off d0) (hsz : d0.size < 4611686018427387904) (a m b : Nat) (d : Array α) (w : World) (hs : d.size = d0.size) (S : SWK enc k w0 blk off d w) (ham : a < m) (hmb : m < b) (hb : b ≤ d.size) (hX : Srt key a m d) (hY : Srt key m b d) (hyp1 : Aside (m = a + 1)) :
 Calls P 68 #[.slice (some ⟨blk, off, none⟩) d.size cap, .int .i64 a, .int .i64 m, .int .i64 b, .func (.func g) #[] cb] w fun e w' =>
  e = .returned (.tuple #[]) ∧ ∃ dk : Array α, Seg key a b d dk ∧ Srt key a b dk ∧ SWK enc k w0 blk off dk w' := by
 have mixed := L.mixed; have t0 := L.t0; have a0 := L.a0; have z0 := L.z0; have v0 := L.v0; have t3 := L.t3; have a3 := L.a3; have z3 := L.z3; have v3 := L.v3; have t4 := L.t4; have a4 := L.a4; have z4 := L.z4; have v4 := L.v4; have t22 := L.t22; have a22 := L.a22; have z22 := L.z22; have v22 := L.v22; have t35 := L.t35; have a35 := L.a35; have z35 := L.z35; have v35 := L.v35; have aE := L.aE; have zE := L.zE; have t115 := L.t115; have a115 := L.a115; have z115 := L.z115
 have u3 := run_underlying L.t3
 have u115 := run_underlying L.t115
 have FG := L.f68
 have HC : Aside _ := hcmp
 have S0 : Aside (SWK enc k w0 blk off d w) := S
 have HX : Aside _ := hX
 have HY : Aside _ := hY
 have HS : Aside (d.size = d0.size) := hs
 have hsz2 : d.size < 4611686018427387904 := by omega
 have HCF : Aside _ := hcf
 clear S hcmp hX hY hs hcf
 go_enter FG, Try.ntmps68
 by_cases h1 : m = a + 1
 ·have h1z : (m : Int) - (a : Int) = 1 := by omega
  have hm1 : m ≤ a + 1 := by omega
  have H1 : Aside (m = a + 1) := h1
  clear h1
  go_wp2
  go_loopg [10, 11] (b - m) (fun kx s10 s11 wr => ∃ (i j : Nat), s10 = .int .i64 i ∧ s11 = .int .i64 j ∧ m ≤ i ∧ i ≤ j ∧ j ≤ b ∧ j - i ≤ kx ∧ Aside (SWK enc k w0 blk off d wr) ∧ Aside (∀ t, m ≤ t → t < i → key d[t]! < key d[a]!) ∧ Aside (∀ t, j ≤ t → t < b → key d[a]! ≤ key d[t]!))
  case atStart => exact ⟨m, b, rfl, rfl, Nat.le_refl _, by omega, Nat.le_refl _, Nat.le_refl _, S0, (show Aside _ from fun t h1 h2 => by omega), (show Aside _ from fun t h1 h2 => by omega)⟩
  case round =>
   clear S0
   obtain ⟨i, j, rfl, rfl, hmi, hij, hjb, hkx, S1, HL, HR⟩ := hrel
   by_cases hlt : i < j
   ·have hltz : (i : Int) < (j : Int) := by omega
    obtain ⟨h, hh⟩ : ∃ h : Nat, (h : Int) = ((i : Int) + (j : Int)) / 2 := ⟨(i + j) / 2, by omega⟩
    have hh1 : i ≤ h := by omega
    have hh2 : h < j := by omega
    go_wp2_with fail
    rw [← hh]
    have HHH : Aside _ := hh
    clear hh
    have ea : ((h : Int) : Int).toNat = h := by omega
    have pa : (0 : Int) ≤ ((h : Int) : Int) := by omega
    have ba : ((h : Int) : Int) < (d.size : Int) := by omega
    have ra : IntKind.i64.wrap ((h : Int) : Int) = ((h : Int) : Int) := by rw [IntKind.wrap_i64]; omega
    have ec : ((a : Int) : Int).toNat = a := by omega
    have pc : (0 : Int) ≤ ((a : Int) : Int) := by omega
    have bc : ((a : Int) : Int) < (d.size : Int) := by omega
    have rc : IntKind.i64.wrap ((a : Int) : Int) = ((a : Int) : Int) := by rw [IntKind.wrap_i64]; omega
    obtain ⟨x38, hx38⟩ : ∃ x, x = d[h]! := ⟨_, rfl⟩
    obtain ⟨y38, hy38⟩ : ∃ x, x = d[a]! := ⟨_, rfl⟩
    have l38a := S1.out.ld R (by have := HS.out; omega) P (h) (by omega)
    have l38b := S1.out.ld R (by have := HS.out; omega) P (a) (by omega)
    rw [← hx38] at l38a
    rw [← hy38] at l38b
    have hc38 := S1.out.cmp HC.out (by have := HS.out; omega) x38 y38
    have hkey : cf x38 y38 < 0 ↔ key d[h]! < key d[a]! := by rw [hx38, hy38]; exact HCF.out _ _
    have HK : Aside _ := hkey
    clear hx38 hy38 hkey
    by_cases hv38 : cf x38 y38 < 0
    ·have hd38 : decide (cf x38 y38 < 0) = true := decide_eq_true hv38
     have HL2 : Aside _ := HK.out.1 hv38
     go_wp2_with fail
     go_quiet_grown (first | (go_at_fn g; refine Calls.grown_of (hc38 _ _)))
     have S2 : Aside (SWK enc k w0 blk off d (grow (wr.drewN nq) osq)) := S1.out.grown nq osq
     clear l38a l38b hc38 S1
     generalize grow (wr.drewN nq) osq = w2 at S2 ⊢
     clear nq osq
     go_wp2
     go_roundg (j - (h + 1))
     case measure => omega
     case rel => exact ⟨h + 1, j, by first | rfl | go_num | (congr 1; omega), rfl, by omega, by omega, hjb, Nat.le_refl _, S2, (show Aside _ from fun t h3 h4 => Int.lt_of_le_of_lt (HY.out t h h3 (by omega) (by omega)) HL2.out), HR⟩
    ·have hd38 : decide (cf x38 y38 < 0) = false := decide_eq_false hv38
     have HL2 : Aside _ := fun h => hv38 (HK.out.2 h)
     go_wp2_with fail
     go_quiet_grown (first | (go_at_fn g; refine Calls.grown_of (hc38 _ _)))
     have S2 : Aside (SWK enc k w0 blk off d (grow (wr.drewN nq) osq)) := S1.out.grown nq osq
     clear l38a l38b hc38 S1
     generalize grow (wr.drewN nq) osq = w2 at S2 ⊢
     clear nq osq
     go_wp2
     go_roundg (h - i)
     case measure => omega
     case rel => exact ⟨i, h, rfl, by first | rfl | go_num | (congr 1; omega), hmi, by omega, by omega, Nat.le_refl _, S2, HL, (show Aside _ from fun t h3 h4 => Int.le_trans (Int.not_lt.1 HL2.out) (HY.out h t (by omega) h3 h4))⟩
   ·have hltz : ¬ (i : Int) < (j : Int) := by omega
    obtain rfl : i = j := by omega
    go_wp2
    go_loopg [13] (i - a) (fun kx s13 wr => ∃ (c : Nat) (dk : Array α), s13 = .int .i64 c ∧ a ≤ c ∧ c + 1 ≤ i ∧ i - c ≤ kx ∧ dk.size = d.size ∧ Aside (SWK enc k w0 blk off dk wr) ∧ Aside (∀ t, dk[t]! = d[rotI a (a + 1) (c + 1) t]!))
    case atStart => exact ⟨a, d, rfl, Nat.le_refl _, by omega, Nat.le_refl _, rfl, S1, (show Aside _ from (Rot.none d a (a + 1) (by omega)).2.at_)⟩
    case round =>
     clear S1
     obtain ⟨c, dk, rfl, hac, hci, hkx, hds, S1, HE⟩ := hrel
     by_cases hlt2 : c + 1 < i
     ·have hltz2 : (c : Int) < (i : Int) - 1 := by omega
      go_wp2_with fail
      have ea : ((c : Int) : Int).toNat = c := by omega
      have pa : (0 : Int) ≤ ((c : Int) : Int) := by omega
      have ba : ((c : Int) : Int) < (d.size : Int) := by omega
      have ra : IntKind.i64.wrap ((c : Int) : Int) = ((c : Int) : Int) := by rw [IntKind.wrap_i64]; omega
      have ec : ((c : Int) + 1 : Int).toNat = c + 1 := by omega
      have pc : (0 : Int) ≤ ((c : Int) + 1 : Int) := by omega
      have bc : ((c : Int) + 1 : Int) < (d.size : Int) := by omega
      have rc : IntKind.i64.wrap ((c : Int) + 1 : Int) = ((c : Int) + 1 : Int) := by rw [IntKind.wrap_i64]; omega
      have S2 : Aside (SWK enc k w0 blk off (swp dk (c) (c + 1)) ((wr.drew.setCells blk (off + (c) * k) (enc dk[c + 1]!)).setCells blk (off + (c + 1) * k) (enc dk[c]!))) := S1.out.swapped R (c) (c + 1) (by omega) (by omega)
      have l44a := S1.out.ld1 R (by have := HS.out; omega) P (c) (by omega)
      have l44b := S1.out.ld1 R (by have := HS.out; omega) P (c + 1) (by omega)
      have s44a := S1.out.st1 R (by have := HS.out; omega) P (c) (by omega) dk[c + 1]!
      have s44b := S1.out.st2 R (by have := HS.out; omega) P (c) (c + 1) (by omega) (by omega) dk[c + 1]! dk[c]!
      have n44a : (enc dk[c]!).length = k := R.hk _
      have n44b : (enc dk[c + 1]!).length = k := R.hk _
      generalize enc dk[c]! = cI44 at S2 l44a s44b n44a
      generalize enc dk[c + 1]! = cJ44 at S2 l44b s44a s44b n44b
      clear S1
      go_wp2_with fail
      go_big_region_o
      clear l44a l44b s44a s44b
      generalize (wr.drew.setCells blk (off + (c) * k) cJ44).setCells blk (off + (c + 1) * k) cI44 = w2 at S2 ⊢
      go_wp2
      go_roundg (i - (c + 1))
      case measure => omega
      case rel =>
       refine ⟨c + 1, swp dk c (c + 1), by first | rfl | go_num | (congr 1; omega), by omega, by omega, Nat.le_refl _, by rw [size_swp]; exact hds, S2, (show Aside _ from fun t => ?_)⟩
       rw [swp_get dk (by omega) (by omega), HE.out, HE.out, HE.out, rot_right a c t hac]
       by_cases e1 : t = c + 1
       ·rw [if_pos e1, if_pos e1]
       ·rw [if_neg e1, if_neg e1]
        by_cases e2 : t = c
        ·rw [if_pos e2, if_pos e2]
        ·rw [if_neg e2, if_neg e2]
     ·have hltz2 : ¬ (c : Int) < (i : Int) - 1 := by omega
      obtain rfl : i = c + 1 := by omega
      have HF : Aside (Seg key a b d dk ∧ Srt key a b dk) := by
       obtain rfl := H1.out
       have hr : Rot a (a + 1) (c + 1) d dk := ⟨hds, HE.out⟩
       refine one_left HX.out HY.out (by omega) (by omega) hr HL.out HR.out
      go_wp2
      (try simp only [Exit.inBlock, Exit.then]); refine bodyPost_ret (results_none rfl _ _ _) rfl ?_
      exact ⟨rfl, dk, HF.out.1, HF.out.2, S1.out⟩
 ·exact absurd hyp1.out h1
end Go.Proofs.YtdfndbegifdejaaStab
end
section
namespace Go.Proofs.YtdfndbegifdejaaStab
set_option linter.unusedVariables false
set_option linter.unusedSimpArgs false
set_option linter.unusedSectionVars false
open Go Go.Proofs Go.Shelf Go.RowKit Go.Lib Go.Sort
variable {P : Program} {α : Type} [Inhabited α]
set_option maxHeartbeats 4000000 in
set_option maxRecDepth 1000000 in
theorem symO (k : Nat) (L : Lays P k) (enc : α → List Value) (key : α → Int) (cf : α → α → Int) (hcf : ∀ x y, cf x y < 0 ↔ key x < key y) (g : Nat) (cb : Array Value) (eg : ∀ args w, (callFunc g args).run P w = .ok (.enter g args) w) (blk off cap : Nat) (d0 : Array α) (w0 : World)
 (hcmp : CmpLays P g cb enc k cf blk off d0.size w0) (R : RowK enc k w0 blk off d0) (hsz : d0.size < 4611686018427387904) (a m b : Nat) (d : Array α) (w : World) (hs : d.size = d0.size) (S : SWK enc k w0 blk off d w) (ham : a < m) (hmb : m < b) (hb : b ≤ d.size) (hX : Srt key a m d) (hY : Srt key m b d) (hyp1 : Aside (¬ m = a + 1)) (hyp2 : Aside (b = m + 1)) :
 Calls P 68 #[.slice (some ⟨blk, off, none⟩) d.size cap, .int .i64 a, .int .i64 m, .int .i64 b, .func (.func g) #[] cb] w fun e w' =>
  e = .returned (.tuple #[]) ∧ ∃ dk : Array α, Seg key a b d dk ∧ Srt key a b dk ∧ SWK enc k w0 blk off dk w' := by
 have mixed := L.mixed; have t0 := L.t0; have a0 := L.a0; have z0 := L.z0; have v0 := L.v0; have t3 := L.t3; have a3 := L.a3; have z3 := L.z3; have v3 := L.v3; have t4 := L.t4; have a4 := L.a4; have z4 := L.z4; have v4 := L.v4; have t22 := L.t22; have a22 := L.a22; have z22 := L.z22; have v22 := L.v22; have t35 := L.t35; have a35 := L.a35; have z35 := L.z35; have v35 := L.v35; have aE := L.aE; have zE := L.zE; have t115 := L.t115; have a115 := L.a115; have z115 := L.z115
 have u3 := run_underlying L.t3
 have u115 := run_underlying L.t115
 have FG := L.f68
 have HC : Aside _ := hcmp
 have S0 : Aside (SWK enc k w0 blk off d w) := S
 have HX : Aside _ := hX
 have HY : Aside _ := hY
 have HS : Aside (d.size = d0.size) := hs
 have hsz2 : d.size < 4611686018427387904 := by omega
 have HCF : Aside _ := hcf
 clear S hcmp hX hY hs hcf
 go_enter FG, Try.ntmps68
 by_cases h1 : m = a + 1
 ·exact absurd h1 hyp1.out
 ·have h1z : ¬ (m : Int) - (a : Int) = 1 := by omega
  have h1b : ((m : Int) - (a : Int) == 1) = false := by simpa using h1z
  by_cases h2 : b = m + 1
  ·have h2z : (b : Int) - (m : Int) = 1 := by omega
   have hm2 : b ≤ m + 1 := by omega
   have H2 : Aside (b = m + 1) := h2
   clear h2
   go_wp2
   go_loopg [14, 15] (m - a) (fun kx s10 s11 wr => ∃ (i j : Nat), s10 = .int .i64 i ∧ s11 = .int .i64 j ∧ a ≤ i ∧ i ≤ j ∧ j ≤ m ∧ j - i ≤ kx ∧ Aside (SWK enc k w0 blk off d wr) ∧ Aside (∀ t, a ≤ t → t < i → key d[t]! ≤ key d[m]!) ∧ Aside (∀ t, j ≤ t → t < m → key d[m]! < key d[t]!))
   case atStart => exact ⟨a, m, rfl, rfl, Nat.le_refl _, by omega, Nat.le_refl _, Nat.le_refl _, S0, (show Aside _ from fun t h1 h2 => by omega), (show Aside _ from fun t h1 h2 => by omega)⟩
   case round =>
    clear S0
    obtain ⟨i, j, rfl, rfl, hmi, hij, hjb, hkx, S1, HL, HR⟩ := hrel
    by_cases hlt : i < j
    ·have hltz : (i : Int) < (j : Int) := by omega
     obtain ⟨h, hh⟩ : ∃ h : Nat, (h : Int) = ((i : Int) + (j : Int)) / 2 := ⟨(i + j) / 2, by omega⟩
     have hh1 : i ≤ h := by omega
     have hh2 : h < j := by omega
     go_wp2_with fail
     rw [← hh]
     have HHH : Aside _ := hh
     clear hh
     have ea : ((m : Int) : Int).toNat = m := by omega
     have pa : (0 : Int) ≤ ((m : Int) : Int) := by omega
     have ba : ((m : Int) : Int) < (d.size : Int) := by omega
     have ra : IntKind.i64.wrap ((m : Int) : Int) = ((m : Int) : Int) := by rw [IntKind.wrap_i64]; omega
     have ec : ((h : Int) : Int).toNat = h := by omega
     have pc : (0 : Int) ≤ ((h : Int) : Int) := by omega
     have bc : ((h : Int) : Int) < (d.size : Int) := by omega
     have rc : IntKind.i64.wrap ((h : Int) : Int) = ((h : Int) : Int) := by rw [IntKind.wrap_i64]; omega
     obtain ⟨x38, hx38⟩ : ∃ x, x = d[m]! := ⟨_, rfl⟩
     obtain ⟨y38, hy38⟩ : ∃ x, x = d[h]! := ⟨_, rfl⟩
     have l38a := S1.out.ld R (by have := HS.out; omega) P (m) (by omega)
     have l38b := S1.out.ld R (by have := HS.out; omega) P (h) (by omega)
     rw [← hx38] at l38a
     rw [← hy38] at l38b
     have hc38 := S1.out.cmp HC.out (by have := HS.out; omega) x38 y38
     have hkey : cf x38 y38 < 0 ↔ key d[m]! < key d[h]! := by rw [hx38, hy38]; exact HCF.out _ _
     have HK : Aside _ := hkey
     clear hx38 hy38 hkey
     by_cases hv38 : cf x38 y38 < 0
     ·have hd38 : decide (cf x38 y38 < 0) = true := decide_eq_true hv38
      have HL2 : Aside _ := HK.out.1 hv38
      go_wp2_with fail
      go_quiet_grown (first | (go_at_fn g; refine Calls.grown_of (hc38 _ _)))
      have S2 : Aside (SWK enc k w0 blk off d (grow (wr.drewN nq) osq)) := S1.out.grown nq osq
      clear l38a l38b hc38 S1
      generalize grow (wr.drewN nq) osq = w2 at S2 ⊢
      clear nq osq
      go_wp2
      go_roundg (h - i)
      case measure => omega
      case rel => exact ⟨i, h, rfl, by first | rfl | go_num | (congr 1; omega), hmi, by omega, by omega, Nat.le_refl _, S2, HL, (show Aside _ from fun t h3 h4 => Int.lt_of_lt_of_le HL2.out (HX.out h t (by omega) h3 h4))⟩
     ·have hd38 : decide (cf x38 y38 < 0) = false := decide_eq_false hv38
      have HL2 : Aside _ := fun h => hv38 (HK.out.2 h)
      go_wp2_with fail
      go_quiet_grown (first | (go_at_fn g; refine Calls.grown_of (hc38 _ _)))
      have S2 : Aside (SWK enc k w0 blk off d (grow (wr.drewN nq) osq)) := S1.out.grown nq osq
      clear l38a l38b hc38 S1
      generalize grow (wr.drewN nq) osq = w2 at S2 ⊢
      clear nq osq
      go_wp2
      go_roundg (j - (h + 1))
      case measure => omega
      case rel => exact ⟨h + 1, j, by first | rfl | go_num | (congr 1; omega), rfl, by omega, by omega, hjb, Nat.le_refl _, S2, (show Aside _ from fun t h3 h4 => Int.le_trans (HX.out t h h3 (by omega) (by omega)) (Int.not_lt.1 HL2.out)), HR⟩
    ·have hltz : ¬ (i : Int) < (j : Int) := by omega
     obtain rfl : i = j := by omega
     go_wp2
     go_loopg [17] (m - i) (fun kx s13 wr => ∃ (c : Nat) (dk : Array α), s13 = .int .i64 c ∧ i ≤ c ∧ c ≤ m ∧ c - i ≤ kx ∧ dk.size = d.size ∧ Aside (SWK enc k w0 blk off dk wr) ∧ Aside (∀ t, dk[t]! = d[rotI c m (m + 1) t]!))
     case atStart => exact ⟨m, d, rfl, by omega, Nat.le_refl _, by omega, rfl, S1, (show Aside _ from (Rot.none d m (m + 1) (by omega)).1.at_)⟩
     case round =>
      clear S1
      obtain ⟨c, dk, rfl, hac, hci, hkx, hds, S1, HE⟩ := hrel
      by_cases hlt2 : i < c
      ·have hltz2 : (i : Int) < (c : Int) := by omega
       obtain ⟨cp, rfl⟩ : ∃ q, c = q + 1 := ⟨c - 1, by omega⟩
       go_wp2_with fail
       have ea : ((cp : Int) + 1 : Int).toNat = cp + 1 := by omega
       have pa : (0 : Int) ≤ ((cp : Int) + 1 : Int) := by omega
       have ba : ((cp : Int) + 1 : Int) < (d.size : Int) := by omega
       have ra : IntKind.i64.wrap ((cp : Int) + 1 : Int) = ((cp : Int) + 1 : Int) := by rw [IntKind.wrap_i64]; omega
       have ec : ((cp : Int) : Int).toNat = cp := by omega
       have pc : (0 : Int) ≤ ((cp : Int) : Int) := by omega
       have bc : ((cp : Int) : Int) < (d.size : Int) := by omega
       have rc : IntKind.i64.wrap ((cp : Int) : Int) = ((cp : Int) : Int) := by rw [IntKind.wrap_i64]; omega
       have S2 : Aside (SWK enc k w0 blk off (swp dk (cp + 1) (cp)) ((wr.drew.setCells blk (off + (cp + 1) * k) (enc dk[cp]!)).setCells blk (off + (cp) * k) (enc dk[cp + 1]!))) := S1.out.swapped R (cp + 1) (cp) (by omega) (by omega)
       have l44a := S1.out.ld1 R (by have := HS.out; omega) P (cp + 1) (by omega)
       have l44b := S1.out.ld1 R (by have := HS.out; omega) P (cp) (by omega)
       have s44a := S1.out.st1 R (by have := HS.out; omega) P (cp + 1) (by omega) dk[cp]!
       have s44b := S1.out.st2 R (by have := HS.out; omega) P (cp + 1) (cp) (by omega) (by omega) dk[cp]! dk[cp + 1]!
       have n44a : (enc dk[cp + 1]!).length = k := R.hk _
       have n44b : (enc dk[cp]!).length = k := R.hk _
       generalize enc dk[cp + 1]! = cI44 at S2 l44a s44b n44a
       generalize enc dk[cp]! = cJ44 at S2 l44b s44a s44b n44b
       clear S1
       go_wp2_with fail
       go_big_region_o
       clear l44a l44b s44a s44b
       generalize (wr.drew.setCells blk (off + (cp + 1) * k) cJ44).setCells blk (off + (cp) * k) cI44 = w2 at S2 ⊢
       go_wp2
       go_roundg (cp - i)
       case measure => omega
       case rel =>
        refine ⟨cp, swp dk (cp + 1) cp, by first | rfl | go_num | (congr 1; omega), by omega, by omega, Nat.le_refl _, by rw [size_swp]; exact hds, S2, (show Aside _ from fun t => ?_)⟩
        rw [swp_get dk (by omega) (by omega), HE.out, HE.out, HE.out, rot_left cp m t (by omega)]
        by_cases e1 : t = cp
        ·rw [if_pos e1, if_pos e1]
        ·rw [if_neg e1, if_neg e1]
         by_cases e2 : t = cp + 1
         ·rw [if_pos e2, if_pos e2]
         ·rw [if_neg e2, if_neg e2]
      ·have hltz2 : ¬ (i : Int) < (c : Int) := by omega
       obtain rfl : i = c := by omega
       have HF : Aside (Seg key a b d dk ∧ Srt key a b dk) := by
        obtain rfl := H2.out
        have hr : Rot i m (m + 1) d dk := ⟨hds, HE.out⟩
        exact one_right HX.out HY.out hmi hjb hr HL.out HR.out
       go_wp2
       (try simp only [Exit.inBlock, Exit.then]); refine bodyPost_ret (results_none rfl _ _ _) rfl ?_
       exact ⟨rfl, dk, HF.out.1, HF.out.2, S1.out⟩
  ·exact absurd hyp2.out h2
end Go.Proofs.YtdfndbegifdejaaStab
end
section
namespace Go.Proofs.YtdfndbegifdejaaStab
set_option linter.unusedVariables false
set_option linter.unusedSimpArgs false
set_option linter.unusedSectionVars false
open Go Go.Proofs Go.Shelf Go.RowKit Go.Lib Go.Sort
variable {P : Program} {α : Type} [Inhabited α]
set_option maxHeartbeats 4000000 in
set_option maxRecDepth 1000000 in
theorem symA (k : Nat) (L : Lays P k) (enc : α → List Value) (key : α → Int) (cf : α → α → Int) (hcf : ∀ x y, cf x y < 0 ↔ key x < key y) (g : Nat) (cb : Array Value) (eg : ∀ args w, (callFunc g args).run P w = .ok (.enter g args) w) (blk off cap : Nat) (d0 : Array α) (w0 : World)
 (hcmp : CmpLays P g cb enc k cf blk off d0.size w0) (R : RowK enc k w0 blk off d0) (hsz : d0.size < 4611686018427387904) (n a m b : Nat) (d : Array α) (w : World) (IH : Aside (∀ (a m b : Nat) (d : Array α) (w : World), d.size = d0.size → SWK enc k w0 blk off d w → a < m → m < b → b ≤ d.size → b - a ≤ n → Srt key a m d → Srt key m b d → Calls P 68 #[.slice (some ⟨blk, off, none⟩) d.size cap, .int .i64 a, .int .i64 m, .int .i64 b, .func (.func g) #[] cb] w fun e w' =>
  e = .returned (.tuple #[]) ∧ ∃ dk : Array α, Seg key a b d dk ∧ Srt key a b dk ∧ SWK enc k w0 blk off dk w')) (hs : d.size = d0.size) (S : SWK enc k w0 blk off d w) (ham : a < m) (hmb : m < b) (hb : b ≤ d.size) (hn : b - a ≤ n + 1) (hX : Srt key a m d) (hY : Srt key m b d) (h1 : Aside (¬ m = a + 1)) (h2 : Aside (¬ b = m + 1)) (mid : Nat) (HMID : Aside ((mid : Int) = ((a : Int) + (b : Int)) / 2)) (hc : mid < m) :
 Calls P 68 #[.slice (some ⟨blk, off, none⟩) d.size cap, .int .i64 a, .int .i64 m, .int .i64 b, .func (.func g) #[] cb] w fun e w' =>
  e = .returned (.tuple #[]) ∧ ∃ dk : Array α, Seg key a b d dk ∧ Srt key a b dk ∧ SWK enc k w0 blk off dk w' := by
 have h1z : ((m : Int) - (a : Int) == 1) = false := by rw [beq_eq_false_iff_ne]; have := h1.out; omega
 have h2z : ((b : Int) - (m : Int) == 1) = false := by rw [beq_eq_false_iff_ne]; have := h2.out; omega
 have hb4 : a + 4 ≤ b := by have := h1.out; have := h2.out; omega
 have hmid1 : a + b < 2 * mid + 2 := by have := HMID.out; omega
 have hmid2 : 2 * mid ≤ a + b := by have := HMID.out; omega
 have mixed := L.mixed; have t0 := L.t0; have a0 := L.a0; have z0 := L.z0; have v0 := L.v0; have t3 := L.t3; have a3 := L.a3; have z3 := L.z3; have v3 := L.v3; have t4 := L.t4; have a4 := L.a4; have z4 := L.z4; have v4 := L.v4; have t22 := L.t22; have a22 := L.a22; have z22 := L.z22; have v22 := L.v22; have t35 := L.t35; have a35 := L.a35; have z35 := L.z35; have v35 := L.v35; have aE := L.aE; have zE := L.zE; have t115 := L.t115; have a115 := L.a115; have z115 := L.z115
 have u3 := run_underlying L.t3
 have u115 := run_underlying L.t115
 have FG := L.f68
 have e74 : ∀ args w, (callFunc 74 args).run P w = .ok (.enter 74 args) w := enters_of L.f74 (by kernel_rfl) rfl
 have e68 : ∀ args w, (callFunc 68 args).run P w = .ok (.enter 68 args) w := enters_of L.f68 (by kernel_rfl) rfl
 have HC : Aside _ := hcmp
 have S0 : Aside (SWK enc k w0 blk off d w) := S
 have HX : Aside _ := hX
 have HY : Aside _ := hY
 have HS : Aside (d.size = d0.size) := hs
 have hsz2 : d.size < 4611686018427387904 := by omega
 have HCF : Aside _ := hcf
 clear S hcmp hX hY hs hcf
 go_enter FG, Try.ntmps68
 go_upto_region 27 with fail
 rw [← HMID.out]
 have hcz : (mid : Int) < (m : Int) := by omega
 obtain ⟨lo, hlo⟩ : ∃ q : Nat, (q : Int) = (mid : Int) + (m : Int) - (b : Int) := ⟨mid + m - b, by omega⟩
 have hlo1 : lo + b = mid + m := by omega
 have HLO : Aside _ := hlo
 clear hlo
 go_wp2_with fail
 rw [← HLO.out]
 go_loopg [20, 21] (b - a) (fun kx s20 s21 wr => ∃ (i j : Nat), s20 = .int .i64 i ∧ s21 = .int .i64 j ∧ lo ≤ i ∧ i ≤ j ∧ j ≤ mid ∧ j - i ≤ kx ∧ Aside (SWK enc k w0 blk off d wr) ∧ Aside (∀ t, lo ≤ t → t < i → key d[t]! ≤ key d[mid + m - 1 - t]!) ∧ Aside (∀ t, j ≤ t → t < mid → key d[mid + m - 1 - t]! < key d[t]!))
 case atStart => exact ⟨lo, mid, by first | rfl | go_num | (congr 1; omega), by first | rfl | go_num | (congr 1; omega), Nat.le_refl _, by omega, Nat.le_refl _, by omega, S0, (show Aside _ from fun t h1 h2 => by omega), (show Aside _ from fun t h1 h2 => by omega)⟩
 case round =>
  clear S0
  obtain ⟨i, j, rfl, rfl, hmi, hij, hjb, hkx, S1, HL, HR⟩ := hrel
  by_cases hlt : i < j
  ·have hltz : (i : Int) < (j : Int) := by omega
   obtain ⟨h, hh⟩ : ∃ h : Nat, (h : Int) = ((i : Int) + (j : Int)) / 2 := ⟨(i + j) / 2, by omega⟩
   have hh1 : i ≤ h := by omega
   have hh2 : h < j := by omega
   go_wp2_with fail
   rw [← hh]
   have HHH : Aside _ := hh
   clear hh
   obtain ⟨z, hz⟩ : ∃ z : Nat, (z : Int) = (mid : Int) + (m : Int) - 1 - (h : Int) := ⟨mid + m - 1 - h, by omega⟩
   have hz1 : z < d.size := by omega
   have hz2 : z + h + 1 = mid + m := by omega
   have raz : IntKind.i64.wrap ((mid : Int) + (m : Int) - 1 - (h : Int)) = (z : Int) := by rw [IntKind.wrap_i64]; omega
   have HZ : Aside _ := hz
   clear hz
   have ea : ((z : Int) : Int).toNat = z := by omega
   have pa : (0 : Int) ≤ ((z : Int) : Int) := by omega
   have ba : ((z : Int) : Int) < (d.size : Int) := by omega
   have ra : IntKind.i64.wrap ((z : Int) : Int) = ((z : Int) : Int) := by rw [IntKind.wrap_i64]; omega
   have ec : ((h : Int) : Int).toNat = h := by omega
   have pc : (0 : Int) ≤ ((h : Int) : Int) := by omega
   have bc : ((h : Int) : Int) < (d.size : Int) := by omega
   have rc : IntKind.i64.wrap ((h : Int) : Int) = ((h : Int) : Int) := by rw [IntKind.wrap_i64]; omega
   obtain ⟨x38, hx38⟩ : ∃ x, x = d[z]! := ⟨_, rfl⟩
   obtain ⟨y38, hy38⟩ : ∃ x, x = d[h]! := ⟨_, rfl⟩
   have l38a := S1.out.ld R (by have := HS.out; omega) P (z) (by omega)
   have l38b := S1.out.ld R (by have := HS.out; omega) P (h) (by omega)
   rw [← hx38] at l38a
   rw [← hy38] at l38b
   have hc38 := S1.out.cmp HC.out (by have := HS.out; omega) x38 y38
   have hkey : cf x38 y38 < 0 ↔ key d[z]! < key d[h]! := by rw [hx38, hy38]; exact HCF.out _ _
   have HK : Aside _ := hkey
   clear hx38 hy38 hkey
   by_cases hv38 : cf x38 y38 < 0
   ·have hd38 : decide (cf x38 y38 < 0) = true := decide_eq_true hv38
    have HL2 : Aside _ := HK.out.1 hv38
    go_wp2_with fail
    go_quiet_grown (first | (go_at_fn g; refine Calls.grown_of (hc38 _ _)))
    have S2 : Aside (SWK enc k w0 blk off d (grow (wr.drewN nq) osq)) := S1.out.grown nq osq
    clear l38a l38b hc38 S1
    generalize grow (wr.drewN nq) osq = w2 at S2 ⊢
    clear nq osq
    go_wp2
    go_roundg (h - i)
    case measure => omega
    case rel => exact ⟨i, h, rfl, by first | rfl | go_num | (congr 1; omega), hmi, by omega, by omega, Nat.le_refl _, S2, HL, (show Aside _ from fun t h3 h4 => by
      have q1 := HX.out h t (by omega) h3 (by omega)
      have q2 := HY.out (mid + m - 1 - t) z (by omega) (by omega) (by omega)
      have q3 := HL2.out
      omega)⟩
   ·have hd38 : decide (cf x38 y38 < 0) = false := decide_eq_false hv38
    have HL2 : Aside _ := fun h => hv38 (HK.out.2 h)
    go_wp2_with fail
    go_quiet_grown (first | (go_at_fn g; refine Calls.grown_of (hc38 _ _)))
    have S2 : Aside (SWK enc k w0 blk off d (grow (wr.drewN nq) osq)) := S1.out.grown nq osq
    clear l38a l38b hc38 S1
    generalize grow (wr.drewN nq) osq = w2 at S2 ⊢
    clear nq osq
    go_wp2
    go_roundg (j - (h + 1))
    case measure => omega
    case rel => exact ⟨h + 1, j, by first | rfl | go_num | (congr 1; omega), rfl, by omega, by omega, hjb, Nat.le_refl _, S2, (show Aside _ from fun t h3 h4 => by
      have q1 := HX.out t h (by omega) (by omega) (by omega)
      have q2 := HY.out z (mid + m - 1 - t) (by omega) (by omega) (by omega)
      have q3 := Int.not_lt.1 HL2.out
      omega), HR⟩
  ·have hltz : ¬ (i : Int) < (j : Int) := by omega
   obtain rfl : i = j := by omega
   obtain ⟨e, he⟩ : ∃ e : Nat, (e : Int) = (mid : Int) + (m : Int) - (i : Int) := ⟨mid + m - i, by omega⟩
   have hei : e + i = mid + m := by omega
   have PLO : Aside (∀ q r, i ≤ q → q < m → m ≤ r → r < e → key d[r]! < key d[q]!) := cut_lo (lo := lo) (hi := mid) HX.out HY.out (by omega) hmi hjb (by omega) (by omega) (by omega) (by omega) hei HR.out
   have PHI : Aside (∀ q r, a ≤ q → q < i → e ≤ r → r < b → key d[q]! ≤ key d[r]!) := cut_hi (lo := lo) (hi := mid) HX.out HY.out (by omega) hmi hjb (by omega) (by omega) (by omega) (by omega) hei HL.out
   have him : i ≤ m := by omega
   have hai : a ≤ i := by omega
   have himid : i ≤ mid := by omega
   have hme : m ≤ e := by omega
   have heb : e ≤ b := by omega
   have HSZ : Aside (d.size = d0.size) := HS
   have hn2 : b ≤ a + n + 1 := by omega
   clear HL HR HC HCF
   go_upto_region 39 with fail
   rw [← he]
   have HEE : Aside _ := he
   clear he
   have SA := S1
   clear S1
   by_cases hL : mid ≤ i
   ·skip
    have f1 : (i : Int) < (m : Int) := by omega
    have f2 : ¬ (m : Int) < (e : Int) := by omega
    have f3 : (a : Int) < (i : Int) := by omega
    have f4 : ¬ (i : Int) < (mid : Int) := by omega
    have f5 : (mid : Int) < (e : Int) := by omega
    have f6 : (e : Int) < (b : Int) := by omega
    have R1 : Aside (Rot i m e d d) := by
     obtain rfl : m = e := by omega
     exact (Rot.none d i m him).2
    obtain ⟨wA, hwA⟩ : ∃ wA : World, wA = wr := ⟨_, rfl⟩
    clear hwA wA
    have S2 := SA
    have PS0 : Aside _ := rot_pieces HX.out HY.out hai him hme heb hei R1.out
    go_upto_region 41 with fail
    have hds1 : Aside (d.size = d.size) := (show Aside _ from rfl)
    have PS : Aside _ := rot_pieces HX.out HY.out hai him hme heb hei R1.out
    have G2 : Aside (Seg key a mid d d) := Seg.refl
    have T2 : Aside (Srt key a mid d) := srt_none PS.out.1 PS.out.2.1 (by omega) hai himid
    have S3 := S2
    have hds2 := hds1
    go_upto_region 43 with fail
    have PS2 : Aside (Srt key mid e d ∧ Srt key e b d) := ⟨PS.out.2.2.1.congr fun t h1 h2 => G2.out.out t (.inr h1), PS.out.2.2.2.congr fun t h1 h2 => G2.out.out t (.inr (by omega))⟩
    have hcall := IH.out mid e b d wr (hds2.out.trans HSZ.out) S3.out (by omega) (by omega) (by rw [hds2.out]; omega) (by omega) PS2.out.1 PS2.out.2
    rw [hds2.out] at hcall
    go_wp2_with (go_at_fn 68; refine hcall.mono ?_; rintro e' w1 ⟨rfl, d3, hG, hT, S4⟩)
    go_end0
    have hfin := merge_parts (key := key) hai him hme heb (show mid = i + (e - m) by omega) HX.out HY.out PLO.out PHI.out R1.out G2.out T2.out hG hT
    exact ⟨rfl, d3, hfin.1, hfin.2, S4⟩
   by_cases hL : a < i ∧ e < b
   ·skip
    have f1 : (i : Int) < (m : Int) := by omega
    have f2 : (m : Int) < (e : Int) := by omega
    have f3 : (a : Int) < (i : Int) := by omega
    have f4 : (i : Int) < (mid : Int) := by omega
    have f5 : (mid : Int) < (e : Int) := by omega
    have f6 : (e : Int) < (b : Int) := by omega
    have hcall := rotate k L enc g cb blk off cap i m e d0 d w0 wr R HSZ.out.symm SA.out (by omega) (by omega) (by omega) (by omega)
    go_upto_region 41 with (go_at_fn 74; refine hcall.mono ?_; rintro e' wA ⟨rfl, d1, hR1, hS2⟩)
    have R1 : Aside (Rot i m e d d1) := hR1
    have S2 : Aside (SWK enc k w0 blk off d1 wA) := hS2
    clear hR1 hS2 hcall
    have hds1 : Aside (d1.size = d.size) := R1.out.size
    have PS : Aside _ := rot_pieces HX.out HY.out hai him hme heb hei R1.out
    have hcall := IH.out a i mid d1 wA (hds1.out.trans HSZ.out) S2.out (by omega) (by omega) (by rw [hds1.out]; omega) (by omega) PS.out.1 PS.out.2.1
    rw [hds1.out] at hcall
    go_upto_region 43 with (go_at_fn 68; refine hcall.mono ?_; rintro e' wB ⟨rfl, d2, hG, hT, hS3⟩)
    have G2 : Aside (Seg key a mid d1 d2) := hG
    have T2 : Aside (Srt key a mid d2) := hT
    have S3 : Aside (SWK enc k w0 blk off d2 wB) := hS3
    have hds2 : Aside (d2.size = d.size) := hG.size.trans hds1.out
    clear hG hT hS3 hcall
    have PS2 : Aside (Srt key mid e d2 ∧ Srt key e b d2) := ⟨PS.out.2.2.1.congr fun t h1 h2 => G2.out.out t (.inr h1), PS.out.2.2.2.congr fun t h1 h2 => G2.out.out t (.inr (by omega))⟩
    have hcall := IH.out mid e b d2 wB (hds2.out.trans HSZ.out) S3.out (by omega) (by omega) (by rw [hds2.out]; omega) (by omega) PS2.out.1 PS2.out.2
    rw [hds2.out] at hcall
    go_wp2_with (go_at_fn 68; refine hcall.mono ?_; rintro e' w1 ⟨rfl, d3, hG, hT, S4⟩)
    go_end0
    have hfin := merge_parts (key := key) hai him hme heb (show mid = i + (e - m) by omega) HX.out HY.out PLO.out PHI.out R1.out G2.out T2.out hG hT
    exact ⟨rfl, d3, hfin.1, hfin.2, S4⟩
   by_cases hL : a < i
   ·skip
    have f1 : (i : Int) < (m : Int) := by omega
    have f2 : (m : Int) < (e : Int) := by omega
    have f3 : (a : Int) < (i : Int) := by omega
    have f4 : (i : Int) < (mid : Int) := by omega
    have f5 : (mid : Int) < (e : Int) := by omega
    have f6 : ¬ (e : Int) < (b : Int) := by omega
    have hcall := rotate k L enc g cb blk off cap i m e d0 d w0 wr R HSZ.out.symm SA.out (by omega) (by omega) (by omega) (by omega)
    go_upto_region 41 with (go_at_fn 74; refine hcall.mono ?_; rintro e' wA ⟨rfl, d1, hR1, hS2⟩)
    have R1 : Aside (Rot i m e d d1) := hR1
    have S2 : Aside (SWK enc k w0 blk off d1 wA) := hS2
    clear hR1 hS2 hcall
    have hds1 : Aside (d1.size = d.size) := R1.out.size
    have PS : Aside _ := rot_pieces HX.out HY.out hai him hme heb hei R1.out
    have hcall := IH.out a i mid d1 wA (hds1.out.trans HSZ.out) S2.out (by omega) (by omega) (by rw [hds1.out]; omega) (by omega) PS.out.1 PS.out.2.1
    rw [hds1.out] at hcall
    go_upto_region 43 with (go_at_fn 68; refine hcall.mono ?_; rintro e' wB ⟨rfl, d2, hG, hT, hS3⟩)
    have G2 : Aside (Seg key a mid d1 d2) := hG
    have T2 : Aside (Srt key a mid d2) := hT
    have S3 : Aside (SWK enc k w0 blk off d2 wB) := hS3
    have hds2 : Aside (d2.size = d.size) := hG.size.trans hds1.out
    clear hG hT hS3 hcall
    have PS2 : Aside (Srt key mid e d2 ∧ Srt key e b d2) := ⟨PS.out.2.2.1.congr fun t h1 h2 => G2.out.out t (.inr h1), PS.out.2.2.2.congr fun t h1 h2 => G2.out.out t (.inr (by omega))⟩
    have HFIN : Aside (Seg key a b d d2 ∧ Srt key a b d2) := merge_parts (key := key) hai him hme heb (show mid = i + (e - m) by omega) HX.out HY.out PLO.out PHI.out R1.out G2.out T2.out Seg.refl (srt_none PS2.out.1 PS2.out.2 (by omega) (by omega) heb)
    go_wp2
    go_end0
    exact ⟨rfl, d2, HFIN.out.1, HFIN.out.2, S3.out⟩
   by_cases hL : e < b
   ·skip
    have f1 : (i : Int) < (m : Int) := by omega
    have f2 : (m : Int) < (e : Int) := by omega
    have f3 : ¬ (a : Int) < (i : Int) := by omega
    have f5 : (mid : Int) < (e : Int) := by omega
    have f6 : (e : Int) < (b : Int) := by omega
    have hcall := rotate k L enc g cb blk off cap i m e d0 d w0 wr R HSZ.out.symm SA.out (by omega) (by omega) (by omega) (by omega)
    go_upto_region 41 with (go_at_fn 74; refine hcall.mono ?_; rintro e' wA ⟨rfl, d1, hR1, hS2⟩)
    have R1 : Aside (Rot i m e d d1) := hR1
    have S2 : Aside (SWK enc k w0 blk off d1 wA) := hS2
    clear hR1 hS2 hcall
    have hds1 : Aside (d1.size = d.size) := R1.out.size
    have PS : Aside _ := rot_pieces HX.out HY.out hai him hme heb hei R1.out
    have G2 : Aside (Seg key a mid d1 d1) := Seg.refl
    have T2 : Aside (Srt key a mid d1) := srt_none PS.out.1 PS.out.2.1 (by omega) hai himid
    have S3 := S2
    have hds2 := hds1
    go_upto_region 43 with fail
    have PS2 : Aside (Srt key mid e d1 ∧ Srt key e b d1) := ⟨PS.out.2.2.1.congr fun t h1 h2 => G2.out.out t (.inr h1), PS.out.2.2.2.congr fun t h1 h2 => G2.out.out t (.inr (by omega))⟩
    have hcall := IH.out mid e b d1 wA (hds2.out.trans HSZ.out) S3.out (by omega) (by omega) (by rw [hds2.out]; omega) (by omega) PS2.out.1 PS2.out.2
    rw [hds2.out] at hcall
    go_wp2_with (go_at_fn 68; refine hcall.mono ?_; rintro e' w1 ⟨rfl, d3, hG, hT, S4⟩)
    go_end0
    have hfin := merge_parts (key := key) hai him hme heb (show mid = i + (e - m) by omega) HX.out HY.out PLO.out PHI.out R1.out G2.out T2.out hG hT
    exact ⟨rfl, d3, hfin.1, hfin.2, S4⟩
   by_cases hL : b ≤ e
   ·skip
    have f1 : (i : Int) < (m : Int) := by omega
    have f2 : (m : Int) < (e : Int) := by omega
    have f3 : ¬ (a : Int) < (i : Int) := by omega
    have f5 : (mid : Int) < (e : Int) := by omega
    have f6 : ¬ (e : Int) < (b : Int) := by omega
    have hcall := rotate k L enc g cb blk off cap i m e d0 d w0 wr R HSZ.out.symm SA.out (by omega) (by omega) (by omega) (by omega)
    go_upto_region 41 with (go_at_fn 74; refine hcall.mono ?_; rintro e' wA ⟨rfl, d1, hR1, hS2⟩)
    have R1 : Aside (Rot i m e d d1) := hR1
    have S2 : Aside (SWK enc k w0 blk off d1 wA) := hS2
    clear hR1 hS2 hcall
    have hds1 : Aside (d1.size = d.size) := R1.out.size
    have PS : Aside _ := rot_pieces HX.out HY.out hai him hme heb hei R1.out
    have G2 : Aside (Seg key a mid d1 d1) := Seg.refl
    have T2 : Aside (Srt key a mid d1) := srt_none PS.out.1 PS.out.2.1 (by omega) hai himid
    have S3 := S2
    have hds2 := hds1
    go_upto_region 43 with fail
    have PS2 : Aside (Srt key mid e d1 ∧ Srt key e b d1) := ⟨PS.out.2.2.1.congr fun t h1 h2 => G2.out.out t (.inr h1), PS.out.2.2.2.congr fun t h1 h2 => G2.out.out t (.inr (by omega))⟩
    have HFIN : Aside (Seg key a b d d1 ∧ Srt key a b d1) := merge_parts (key := key) hai him hme heb (show mid = i + (e - m) by omega) HX.out HY.out PLO.out PHI.out R1.out G2.out T2.out Seg.refl (srt_none PS2.out.1 PS2.out.2 (by omega) (by omega) heb)
    go_wp2
    go_end0
    exact ⟨rfl, d1, HFIN.out.1, HFIN.out.2, S3.out⟩
   exfalso; omega
end Go.Proofs.YtdfndbegifdejaaStab
end
section
namespace Go.Proofs.YtdfndbegifdejaaStab
set_option linter.unusedVariables false
set_option linter.unusedSimpArgs false
set_option linter.unusedSectionVars false
open Go Go.Proofs Go.Shelf Go.RowKit Go.Lib Go.Sort
variable {P : Program} {α : Type} [Inhabited α]
set_option maxHeartbeats 4000000 in
set_option maxRecDepth 1000000 in
theorem symB (k : Nat) (L : Lays P k) (enc : α → List Value) (key : α → Int) (cf : α → α → Int) (hcf : ∀ x y, cf x y < 0 ↔ key x < key y) (g : Nat) (cb : Array Value) (eg : ∀ args w, (callFunc g args).run P w = .ok (.enter g args) w) (blk off cap : Nat) (d0 : Array α) (w0 : World)
 (hcmp : CmpLays P g cb enc k cf blk off d0.size w0) (R : RowK enc k w0 blk off d0) (hsz : d0.size < 4611686018427387904) (n a m b : Nat) (d : Array α) (w : World) (IH : Aside (∀ (a m b : Nat) (d : Array α) (w : World), d.size = d0.size → SWK enc k w0 blk off d w → a < m → m < b → b ≤ d.size → b - a ≤ n → Srt key a m d → Srt key m b d → Calls P 68 #[.slice (some ⟨blk, off, none⟩) d.size cap, .int .i64 a, .int .i64 m, .int .i64 b, .func (.func g) #[] cb] w fun e w' =>
  e = .returned (.tuple #[]) ∧ ∃ dk : Array α, Seg key a b d dk ∧ Srt key a b dk ∧ SWK enc k w0 blk off dk w')) (hs : d.size = d0.size) (S : SWK enc k w0 blk off d w) (ham : a < m) (hmb : m < b) (hb : b ≤ d.size) (hn : b - a ≤ n + 1) (hX : Srt key a m d) (hY : Srt key m b d) (h1 : Aside (¬ m = a + 1)) (h2 : Aside (¬ b = m + 1)) (mid : Nat) (HMID : Aside ((mid : Int) = ((a : Int) + (b : Int)) / 2)) (hc : ¬ mid < m) :
 Calls P 68 #[.slice (some ⟨blk, off, none⟩) d.size cap, .int .i64 a, .int .i64 m, .int .i64 b, .func (.func g) #[] cb] w fun e w' =>
  e = .returned (.tuple #[]) ∧ ∃ dk : Array α, Seg key a b d dk ∧ Srt key a b dk ∧ SWK enc k w0 blk off dk w' := by
 have h1z : ((m : Int) - (a : Int) == 1) = false := by rw [beq_eq_false_iff_ne]; have := h1.out; omega
 have h2z : ((b : Int) - (m : Int) == 1) = false := by rw [beq_eq_false_iff_ne]; have := h2.out; omega
 have hb4 : a + 4 ≤ b := by have := h1.out; have := h2.out; omega
 have hmid1 : a + b < 2 * mid + 2 := by have := HMID.out; omega
 have hmid2 : 2 * mid ≤ a + b := by have := HMID.out; omega
 have mixed := L.mixed; have t0 := L.t0; have a0 := L.a0; have z0 := L.z0; have v0 := L.v0; have t3 := L.t3; have a3 := L.a3; have z3 := L.z3; have v3 := L.v3; have t4 := L.t4; have a4 := L.a4; have z4 := L.z4; have v4 := L.v4; have t22 := L.t22; have a22 := L.a22; have z22 := L.z22; have v22 := L.v22; have t35 := L.t35; have a35 := L.a35; have z35 := L.z35; have v35 := L.v35; have aE := L.aE; have zE := L.zE; have t115 := L.t115; have a115 := L.a115; have z115 := L.z115
 have u3 := run_underlying L.t3
 have u115 := run_underlying L.t115
 have FG := L.f68
 have e74 : ∀ args w, (callFunc 74 args).run P w = .ok (.enter 74 args) w := enters_of L.f74 (by kernel_rfl) rfl
 have e68 : ∀ args w, (callFunc 68 args).run P w = .ok (.enter 68 args) w := enters_of L.f68 (by kernel_rfl) rfl
 have HC : Aside _ := hcmp
 have S0 : Aside (SWK enc k w0 blk off d w) := S
 have HX : Aside _ := hX
 have HY : Aside _ := hY
 have HS : Aside (d.size = d0.size) := hs
 have hsz2 : d.size < 4611686018427387904 := by omega
 have HCF : Aside _ := hcf
 clear S hcmp hX hY hs hcf
 go_enter FG, Try.ntmps68
 go_upto_region 27 with fail
 rw [← HMID.out]
 have hcz : ¬ (mid : Int) < (m : Int) := by omega
 go_wp2_with fail
 skip
 go_loopg [20, 21] (b - a) (fun kx s20 s21 wr => ∃ (i j : Nat), s20 = .int .i64 i ∧ s21 = .int .i64 j ∧ a ≤ i ∧ i ≤ j ∧ j ≤ m ∧ j - i ≤ kx ∧ Aside (SWK enc k w0 blk off d wr) ∧ Aside (∀ t, a ≤ t → t < i → key d[t]! ≤ key d[mid + m - 1 - t]!) ∧ Aside (∀ t, j ≤ t → t < m → key d[mid + m - 1 - t]! < key d[t]!))
 case atStart => exact ⟨a, m, by first | rfl | go_num | (congr 1; omega), by first | rfl | go_num | (congr 1; omega), Nat.le_refl _, by omega, Nat.le_refl _, by omega, S0, (show Aside _ from fun t h1 h2 => by omega), (show Aside _ from fun t h1 h2 => by omega)⟩
 case round =>
  clear S0
  obtain ⟨i, j, rfl, rfl, hmi, hij, hjb, hkx, S1, HL, HR⟩ := hrel
  by_cases hlt : i < j
  ·have hltz : (i : Int) < (j : Int) := by omega
   obtain ⟨h, hh⟩ : ∃ h : Nat, (h : Int) = ((i : Int) + (j : Int)) / 2 := ⟨(i + j) / 2, by omega⟩
   have hh1 : i ≤ h := by omega
   have hh2 : h < j := by omega
   go_wp2_with fail
   rw [← hh]
   have HHH : Aside _ := hh
   clear hh
   obtain ⟨z, hz⟩ : ∃ z : Nat, (z : Int) = (mid : Int) + (m : Int) - 1 - (h : Int) := ⟨mid + m - 1 - h, by omega⟩
   have hz1 : z < d.size := by omega
   have hz2 : z + h + 1 = mid + m := by omega
   have raz : IntKind.i64.wrap ((mid : Int) + (m : Int) - 1 - (h : Int)) = (z : Int) := by rw [IntKind.wrap_i64]; omega
   have HZ : Aside _ := hz
   clear hz
   have ea : ((z : Int) : Int).toNat = z := by omega
   have pa : (0 : Int) ≤ ((z : Int) : Int) := by omega
   have ba : ((z : Int) : Int) < (d.size : Int) := by omega
   have ra : IntKind.i64.wrap ((z : Int) : Int) = ((z : Int) : Int) := by rw [IntKind.wrap_i64]; omega
   have ec : ((h : Int) : Int).toNat = h := by omega
   have pc : (0 : Int) ≤ ((h : Int) : Int) := by omega
   have bc : ((h : Int) : Int) < (d.size : Int) := by omega
   have rc : IntKind.i64.wrap ((h : Int) : Int) = ((h : Int) : Int) := by rw [IntKind.wrap_i64]; omega
   obtain ⟨x38, hx38⟩ : ∃ x, x = d[z]! := ⟨_, rfl⟩
   obtain ⟨y38, hy38⟩ : ∃ x, x = d[h]! := ⟨_, rfl⟩
   have l38a := S1.out.ld R (by have := HS.out; omega) P (z) (by omega)
   have l38b := S1.out.ld R (by have := HS.out; omega) P (h) (by omega)
   rw [← hx38] at l38a
   rw [← hy38] at l38b
   have hc38 := S1.out.cmp HC.out (by have := HS.out; omega) x38 y38
   have hkey : cf x38 y38 < 0 ↔ key d[z]! < key d[h]! := by rw [hx38, hy38]; exact HCF.out _ _
   have HK : Aside _ := hkey
   clear hx38 hy38 hkey
   by_cases hv38 : cf x38 y38 < 0
   ·have hd38 : decide (cf x38 y38 < 0) = true := decide_eq_true hv38
    have HL2 : Aside _ := HK.out.1 hv38
    go_wp2_with fail
    go_quiet_grown (first | (go_at_fn g; refine Calls.grown_of (hc38 _ _)))
    have S2 : Aside (SWK enc k w0 blk off d (grow (wr.drewN nq) osq)) := S1.out.grown nq osq
    clear l38a l38b hc38 S1
    generalize grow (wr.drewN nq) osq = w2 at S2 ⊢
    clear nq osq
    go_wp2
    go_roundg (h - i)
    case measure => omega
    case rel => exact ⟨i, h, rfl, by first | rfl | go_num | (congr 1; omega), hmi, by omega, by omega, Nat.le_refl _, S2, HL, (show Aside _ from fun t h3 h4 => by
      have q1 := HX.out h t (by omega) h3 (by omega)
      have q2 := HY.out (mid + m - 1 - t) z (by omega) (by omega) (by omega)
      have q3 := HL2.out
      omega)⟩
   ·have hd38 : decide (cf x38 y38 < 0) = false := decide_eq_false hv38
    have HL2 : Aside _ := fun h => hv38 (HK.out.2 h)
    go_wp2_with fail
    go_quiet_grown (first | (go_at_fn g; refine Calls.grown_of (hc38 _ _)))
    have S2 : Aside (SWK enc k w0 blk off d (grow (wr.drewN nq) osq)) := S1.out.grown nq osq
    clear l38a l38b hc38 S1
    generalize grow (wr.drewN nq) osq = w2 at S2 ⊢
    clear nq osq
    go_wp2
    go_roundg (j - (h + 1))
    case measure => omega
    case rel => exact ⟨h + 1, j, by first | rfl | go_num | (congr 1; omega), rfl, by omega, by omega, hjb, Nat.le_refl _, S2, (show Aside _ from fun t h3 h4 => by
      have q1 := HX.out t h (by omega) (by omega) (by omega)
      have q2 := HY.out z (mid + m - 1 - t) (by omega) (by omega) (by omega)
      have q3 := Int.not_lt.1 HL2.out
      omega), HR⟩
  ·have hltz : ¬ (i : Int) < (j : Int) := by omega
   obtain rfl : i = j := by omega
   obtain ⟨e, he⟩ : ∃ e : Nat, (e : Int) = (mid : Int) + (m : Int) - (i : Int) := ⟨mid + m - i, by omega⟩
   have hei : e + i = mid + m := by omega
   have PLO : Aside (∀ q r, i ≤ q → q < m → m ≤ r → r < e → key d[r]! < key d[q]!) := cut_lo (lo := a) (hi := m) HX.out HY.out (by omega) hmi hjb (by omega) (by omega) (by omega) (by omega) hei HR.out
   have PHI : Aside (∀ q r, a ≤ q → q < i → e ≤ r → r < b → key d[q]! ≤ key d[r]!) := cut_hi (lo := a) (hi := m) HX.out HY.out (by omega) hmi hjb (by omega) (by omega) (by omega) (by omega) hei HL.out
   have him : i ≤ m := by omega
   have hai : a ≤ i := by omega
   have himid : i ≤ mid := by omega
   have hme : m ≤ e := by omega
   have heb : e ≤ b := by omega
   have HSZ : Aside (d.size = d0.size) := HS
   have hn2 : b ≤ a + n + 1 := by omega
   clear HL HR HC HCF
   go_upto_region 39 with fail
   rw [← he]
   have HEE : Aside _ := he
   clear he
   have SA := S1
   clear S1
   by_cases hL : m ≤ i ∧ m < mid
   ·skip
    have f1 : ¬ (i : Int) < (m : Int) := by omega
    have f3 : (a : Int) < (i : Int) := by omega
    have f4 : (i : Int) < (mid : Int) := by omega
    have f5 : ¬ (mid : Int) < (e : Int) := by omega
    have R1 : Aside (Rot i m e d d) := by
     obtain rfl : i = m := by omega
     exact (Rot.none d i e hme).1
    obtain ⟨wA, hwA⟩ : ∃ wA : World, wA = wr := ⟨_, rfl⟩
    clear hwA wA
    have S2 := SA
    have PS0 : Aside _ := rot_pieces HX.out HY.out hai him hme heb hei R1.out
    go_upto_region 41 with fail
    have hds1 : Aside (d.size = d.size) := (show Aside _ from rfl)
    have PS : Aside _ := rot_pieces HX.out HY.out hai him hme heb hei R1.out
    have hcall := IH.out a i mid d wr (hds1.out.trans HSZ.out) S2.out (by omega) (by omega) (by rw [hds1.out]; omega) (by omega) PS.out.1 PS.out.2.1
    rw [hds1.out] at hcall
    go_upto_region 43 with (go_at_fn 68; refine hcall.mono ?_; rintro e' wB ⟨rfl, d2, hG, hT, hS3⟩)
    have G2 : Aside (Seg key a mid d d2) := hG
    have T2 : Aside (Srt key a mid d2) := hT
    have S3 : Aside (SWK enc k w0 blk off d2 wB) := hS3
    have hds2 : Aside (d2.size = d.size) := hG.size
    clear hG hT hS3 hcall
    have PS2 : Aside (Srt key mid e d2 ∧ Srt key e b d2) := ⟨PS.out.2.2.1.congr fun t h1 h2 => G2.out.out t (.inr h1), PS.out.2.2.2.congr fun t h1 h2 => G2.out.out t (.inr (by omega))⟩
    have HFIN : Aside (Seg key a b d d2 ∧ Srt key a b d2) := merge_parts (key := key) hai him hme heb (show mid = i + (e - m) by omega) HX.out HY.out PLO.out PHI.out R1.out G2.out T2.out Seg.refl (srt_none PS2.out.1 PS2.out.2 (by omega) (by omega) heb)
    go_wp2
    go_end0
    exact ⟨rfl, d2, HFIN.out.1, HFIN.out.2, S3.out⟩
   by_cases hL : m ≤ i
   ·skip
    have f1 : ¬ (i : Int) < (m : Int) := by omega
    have f3 : (a : Int) < (i : Int) := by omega
    have f4 : ¬ (i : Int) < (mid : Int) := by omega
    have f5 : ¬ (mid : Int) < (e : Int) := by omega
    have R1 : Aside (Rot i m e d d) := by
     obtain rfl : i = m := by omega
     exact (Rot.none d i e hme).1
    obtain ⟨wA, hwA⟩ : ∃ wA : World, wA = wr := ⟨_, rfl⟩
    clear hwA wA
    have S2 := SA
    have PS0 : Aside _ := rot_pieces HX.out HY.out hai him hme heb hei R1.out
    go_upto_region 41 with fail
    have hds1 : Aside (d.size = d.size) := (show Aside _ from rfl)
    have PS : Aside _ := rot_pieces HX.out HY.out hai him hme heb hei R1.out
    have G2 : Aside (Seg key a mid d d) := Seg.refl
    have T2 : Aside (Srt key a mid d) := srt_none PS.out.1 PS.out.2.1 (by omega) hai himid
    have S3 := S2
    have hds2 := hds1
    go_upto_region 43 with fail
    have PS2 : Aside (Srt key mid e d ∧ Srt key e b d) := ⟨PS.out.2.2.1.congr fun t h1 h2 => G2.out.out t (.inr h1), PS.out.2.2.2.congr fun t h1 h2 => G2.out.out t (.inr (by omega))⟩
    have HFIN : Aside (Seg key a b d d ∧ Srt key a b d) := merge_parts (key := key) hai him hme heb (show mid = i + (e - m) by omega) HX.out HY.out PLO.out PHI.out R1.out G2.out T2.out Seg.refl (srt_none PS2.out.1 PS2.out.2 (by omega) (by omega) heb)
    go_wp2
    go_end0
    exact ⟨rfl, d, HFIN.out.1, HFIN.out.2, S3.out⟩
   by_cases hL : a < i ∧ e < b
   ·skip
    have f1 : (i : Int) < (m : Int) := by omega
    have f2 : (m : Int) < (e : Int) := by omega
    have f3 : (a : Int) < (i : Int) := by omega
    have f4 : (i : Int) < (mid : Int) := by omega
    have f5 : (mid : Int) < (e : Int) := by omega
    have f6 : (e : Int) < (b : Int) := by omega
    have hcall := rotate k L enc g cb blk off cap i m e d0 d w0 wr R HSZ.out.symm SA.out (by omega) (by omega) (by omega) (by omega)
    go_upto_region 41 with (go_at_fn 74; refine hcall.mono ?_; rintro e' wA ⟨rfl, d1, hR1, hS2⟩)
    have R1 : Aside (Rot i m e d d1) := hR1
    have S2 : Aside (SWK enc k w0 blk off d1 wA) := hS2
    clear hR1 hS2 hcall
    have hds1 : Aside (d1.size = d.size) := R1.out.size
    have PS : Aside _ := rot_pieces HX.out HY.out hai him hme heb hei R1.out
    have hcall := IH.out a i mid d1 wA (hds1.out.trans HSZ.out) S2.out (by omega) (by omega) (by rw [hds1.out]; omega) (by omega) PS.out.1 PS.out.2.1
    rw [hds1.out] at hcall
    go_upto_region 43 with (go_at_fn 68; refine hcall.mono ?_; rintro e' wB ⟨rfl, d2, hG, hT, hS3⟩)
    have G2 : Aside (Seg key a mid d1 d2) := hG
    have T2 : Aside (Srt key a mid d2) := hT
    have S3 : Aside (SWK enc k w0 blk off d2 wB) := hS3
    have hds2 : Aside (d2.size = d.size) := hG.size.trans hds1.out
    clear hG hT hS3 hcall
    have PS2 : Aside (Srt key mid e d2 ∧ Srt key e b d2) := ⟨PS.out.2.2.1.congr fun t h1 h2 => G2.out.out t (.inr h1), PS.out.2.2.2.congr fun t h1 h2 => G2.out.out t (.inr (by omega))⟩
    have hcall := IH.out mid e b d2 wB (hds2.out.trans HSZ.out) S3.out (by omega) (by omega) (by rw [hds2.out]; omega) (by omega) PS2.out.1 PS2.out.2
    rw [hds2.out] at hcall
    go_wp2_with (go_at_fn 68; refine hcall.mono ?_; rintro e' w1 ⟨rfl, d3, hG, hT, S4⟩)
    go_end0
    have hfin := merge_parts (key := key) hai him hme heb (show mid = i + (e - m) by omega) HX.out HY.out PLO.out PHI.out R1.out G2.out T2.out hG hT
    exact ⟨rfl, d3, hfin.1, hfin.2, S4⟩
   by_cases hL : e < b
   ·skip
    have f1 : (i : Int) < (m : Int) := by omega
    have f2 : (m : Int) < (e : Int) := by omega
    have f3 : ¬ (a : Int) < (i : Int) := by omega
    have f5 : (mid : Int) < (e : Int) := by omega
    have f6 : (e : Int) < (b : Int) := by omega
    have hcall := rotate k L enc g cb blk off cap i m e d0 d w0 wr R HSZ.out.symm SA.out (by omega) (by omega) (by omega) (by omega)
    go_upto_region 41 with (go_at_fn 74; refine hcall.mono ?_; rintro e' wA ⟨rfl, d1, hR1, hS2⟩)
    have R1 : Aside (Rot i m e d d1) := hR1
    have S2 : Aside (SWK enc k w0 blk off d1 wA) := hS2
    clear hR1 hS2 hcall
    have hds1 : Aside (d1.size = d.size) := R1.out.size
    have PS : Aside _ := rot_pieces HX.out HY.out hai him hme heb hei R1.out
    have G2 : Aside (Seg key a mid d1 d1) := Seg.refl
    have T2 : Aside (Srt key a mid d1) := srt_none PS.out.1 PS.out.2.1 (by omega) hai himid
    have S3 := S2
    have hds2 := hds1
    go_upto_region 43 with fail
    have PS2 : Aside (Srt key mid e d1 ∧ Srt key e b d1) := ⟨PS.out.2.2.1.congr fun t h1 h2 => G2.out.out t (.inr h1), PS.out.2.2.2.congr fun t h1 h2 => G2.out.out t (.inr (by omega))⟩
    have hcall := IH.out mid e b d1 wA (hds2.out.trans HSZ.out) S3.out (by omega) (by omega) (by rw [hds2.out]; omega) (by omega) PS2.out.1 PS2.out.2
    rw [hds2.out] at hcall
    go_wp2_with (go_at_fn 68; refine hcall.mono ?_; rintro e' w1 ⟨rfl, d3, hG, hT, S4⟩)
    go_end0
    have hfin := merge_parts (key := key) hai him hme heb (show mid = i + (e - m) by omega) HX.out HY.out PLO.out PHI.out R1.out G2.out T2.out hG hT
    exact ⟨rfl, d3, hfin.1, hfin.2, S4⟩
   by_cases hL : b ≤ e ∧ i ≤ a
   ·skip
    have f1 : (i : Int) < (m : Int) := by omega
    have f2 : (m : Int) < (e : Int) := by omega
    have f3 : ¬ (a : Int) < (i : Int) := by omega
    have f5 : (mid : Int) < (e : Int) := by omega
    have f6 : ¬ (e : Int) < (b : Int) := by omega
    have hcall := rotate k L enc g cb blk off cap i m e d0 d w0 wr R HSZ.out.symm SA.out (by omega) (by omega) (by omega) (by omega)
    go_upto_region 41 with (go_at_fn 74; refine hcall.mono ?_; rintro e' wA ⟨rfl, d1, hR1, hS2⟩)
    have R1 : Aside (Rot i m e d d1) := hR1
    have S2 : Aside (SWK enc k w0 blk off d1 wA) := hS2
    clear hR1 hS2 hcall
    have hds1 : Aside (d1.size = d.size) := R1.out.size
    have PS : Aside _ := rot_pieces HX.out HY.out hai him hme heb hei R1.out
    have G2 : Aside (Seg key a mid d1 d1) := Seg.refl
    have T2 : Aside (Srt key a mid d1) := srt_none PS.out.1 PS.out.2.1 (by omega) hai himid
    have S3 := S2
    have hds2 := hds1
    go_upto_region 43 with fail
    have PS2 : Aside (Srt key mid e d1 ∧ Srt key e b d1) := ⟨PS.out.2.2.1.congr fun t h1 h2 => G2.out.out t (.inr h1), PS.out.2.2.2.congr fun t h1 h2 => G2.out.out t (.inr (by omega))⟩
    have HFIN : Aside (Seg key a b d d1 ∧ Srt key a b d1) := merge_parts (key := key) hai him hme heb (show mid = i + (e - m) by omega) HX.out HY.out PLO.out PHI.out R1.out G2.out T2.out Seg.refl (srt_none PS2.out.1 PS2.out.2 (by omega) (by omega) heb)
    go_wp2
    go_end0
    exact ⟨rfl, d1, HFIN.out.1, HFIN.out.2, S3.out⟩
   exfalso; omega
end Go.Proofs.YtdfndbegifdejaaStab
end
section
namespace Go.Proofs.YtdfndbegifdejaaStab
set_option linter.unusedVariables false
set_option linter.unusedSimpArgs false
set_option linter.unusedSectionVars false
open Go Go.Proofs Go.Shelf Go.RowKit Go.Lib Go.Sort
variable {P : Program} {α : Type} [Inhabited α]
set_option maxHeartbeats 4000000 in
set_option maxRecDepth 1000000 in
theorem symMerge (k : Nat) (L : Lays P k) (enc : α → List Value) (key : α → Int) (cf : α → α → Int) (hcf : ∀ x y, cf x y < 0 ↔ key x < key y) (g : Nat) (cb : Array Value) (eg : ∀ args w, (callFunc g args).run P w = .ok (.enter g args) w) (blk off cap : Nat) (d0 : Array α) (w0 : World)
    (hcmp : CmpLays P g cb enc k cf blk off d0.size w0) (R : RowK enc k w0 blk off d0) (hsz : d0.size < 4611686018427387904) : ∀ (n : Nat), ∀ (a m b : Nat) (d : Array α) (w : World), d.size = d0.size → SWK enc k w0 blk off d w → a < m → m < b → b ≤ d.size → b - a ≤ n → Srt key a m d → Srt key m b d → Calls P 68 #[.slice (some ⟨blk, off, none⟩) d.size cap, .int .i64 a, .int .i64 m, .int .i64 b, .func (.func g) #[] cb] w fun e w' =>
      e = .returned (.tuple #[]) ∧ ∃ dk : Array α, Seg key a b d dk ∧ Srt key a b dk ∧ SWK enc k w0 blk off dk w'
  | 0, a, m, b, d, w, hs, S, ham, hmb, hb, hn, hX, hY => absurd hn (by omega)
  | n + 1, a, m, b, d, w, hs, S, ham, hmb, hb, hn, hX, hY => by
    by_cases h1 : m = a + 1
    · exact symL k L enc key cf hcf g cb eg blk off cap d0 w0 hcmp R hsz a m b d w hs S ham hmb hb hX hY h1
    by_cases h2 : b = m + 1
    · exact symO k L enc key cf hcf g cb eg blk off cap d0 w0 hcmp R hsz a m b d w hs S ham hmb hb hX hY h1 h2
    have hmid : (((a + b) / 2 : Nat) : Int) = ((a : Int) + (b : Int)) / 2 := by omega
    have IH := symMerge k L enc key cf hcf g cb eg blk off cap d0 w0 hcmp R hsz n
    by_cases hc : (a + b) / 2 < m
    · exact symA k L enc key cf hcf g cb eg blk off cap d0 w0 hcmp R hsz n a m b d w IH hs S ham hmb hb hn hX hY h1 h2 _ hmid hc
    · exact symB k L enc key cf hcf g cb eg blk off cap d0 w0 hcmp R hsz n a m b d w IH hs S ham hmb hb hn hX hY h1 h2 _ hmid hc
end Go.Proofs.YtdfndbegifdejaaStab
end
section
namespace Go.Proofs.YtdfndbegifdejaaStab
set_option linter.unusedVariables false
set_option linter.unusedSimpArgs false
set_option linter.unusedSectionVars false
open Go.Sort
variable {α : Type} [Inhabited α] {key : α → Int} {bs n a : Nat} {d d' : Array α}
def Blk (key : α → Int) (bs n : Nat) (d : Array α) : Prop := ∀ i, Srt key (bs * i) (min (bs * (i + 1)) n) d
def Ini (key : α → Int) (bs a : Nat) (d : Array α) : Prop := (∃ q, a = bs * q) ∧ ∀ i, bs * (i + 1) ≤ a → Srt key (bs * i) (bs * (i + 1)) d
def Mgd (key : α → Int) (bs n a : Nat) (d : Array α) : Prop :=
  (∃ q, a = bs * (2 * q)) ∧ (∀ i, bs * (2 * i + 2) ≤ a → Srt key (bs * (2 * i)) (bs * (2 * i + 2)) d) ∧ (∀ i, a ≤ bs * i → Srt key (bs * i) (min (bs * (i + 1)) n) d)
theorem Srt.empty (h : n ≤ a) : Srt key a n d := fun i j h1 h2 h3 => by omega
theorem Ini.start : Ini key bs 0 d := ⟨⟨0, rfl⟩, fun i h => Srt.empty (by have := Nat.mul_add bs i 1; omega)⟩
theorem Ini.step (h : Ini key bs a d) (hb : 0 < bs) (hs : Seg key a (a + bs) d d') (ht : Srt key a (a + bs) d') : Ini key bs (a + bs) d' := by
  obtain ⟨⟨q, rfl⟩, h2⟩ := h
  refine ⟨⟨q + 1, by rw [Nat.mul_add, Nat.mul_one]⟩, fun i hi => ?_⟩
  rw [show bs * q + bs = bs * (q + 1) by rw [Nat.mul_add, Nat.mul_one]] at *
  have h3 : i + 1 ≤ q + 1 := Nat.le_of_mul_le_mul_left hi hb
  by_cases c : i = q
  · subst c; exact ht
  · have h4 : bs * (i + 1) ≤ bs * q := Nat.mul_le_mul_left bs (by omega)
    exact (h2 i h4).congr fun t h5 h6 => hs.out t (.inl (by omega))
theorem Ini.fin (h : Ini key bs a d) (hb : 0 < bs) (han : a ≤ n) (hn : n < a + bs) (hs : Seg key a n d d') (ht : Srt key a n d') : Blk key bs n d' := by
  obtain ⟨⟨q, rfl⟩, h2⟩ := h
  intro i
  rcases Nat.lt_trichotomy i q with c | c | c
  · have h4 : bs * (i + 1) ≤ bs * q := Nat.mul_le_mul_left bs (by omega)
    rw [Nat.min_eq_left (by omega)]
    exact (h2 i h4).congr fun t h5 h6 => hs.out t (.inl (by omega))
  · subst c
    rw [Nat.min_eq_right (by rw [Nat.mul_add, Nat.mul_one]; omega)]
    exact ht
  · have h4 : bs * (q + 1) ≤ bs * i := Nat.mul_le_mul_left bs (by omega)
    rw [Nat.mul_add, Nat.mul_one] at h4
    exact Srt.empty (by omega)
theorem Mgd.start (h : Blk key bs n d) : Mgd key bs n 0 d := ⟨⟨0, rfl⟩, fun i hi => Srt.empty (by have := Nat.mul_add bs (2 * i) 2; omega), fun i _ => h i⟩
theorem two_more (bs q : Nat) : bs * (2 * q + 1) = bs * (2 * q) + bs ∧ bs * (2 * q + 2) = bs * (2 * q) + 2 * bs := by
  constructor
  · rw [Nat.mul_add, Nat.mul_one]
  · rw [Nat.mul_add, Nat.mul_comm bs 2]
theorem Mgd.pre (h : Mgd key bs n a d) (h2 : a + 2 * bs ≤ n) : Srt key a (a + bs) d ∧ Srt key (a + bs) (a + 2 * bs) d := by
  obtain ⟨⟨q, rfl⟩, _, h3⟩ := h
  obtain ⟨e1, e2⟩ := two_more bs q
  have h4 := h3 (2 * q) (Nat.le_refl _)
  have h5 := h3 (2 * q + 1) (by omega)
  rw [e1, Nat.min_eq_left (by omega)] at h4
  rw [e1, show 2 * q + 1 + 1 = 2 * q + 2 from rfl, e2, Nat.min_eq_left (by omega)] at h5
  exact ⟨h4, h5⟩
theorem Mgd.pre_last (h : Mgd key bs n a d) (h1 : a + bs < n) (h2 : n < a + 2 * bs) : Srt key a (a + bs) d ∧ Srt key (a + bs) n d := by
  obtain ⟨⟨q, rfl⟩, _, h3⟩ := h
  obtain ⟨e1, e2⟩ := two_more bs q
  have h4 := h3 (2 * q) (Nat.le_refl _)
  have h5 := h3 (2 * q + 1) (by omega)
  rw [e1, Nat.min_eq_left (by omega)] at h4
  rw [e1, show 2 * q + 1 + 1 = 2 * q + 2 from rfl, e2, Nat.min_eq_right (by omega)] at h5
  exact ⟨h4, h5⟩
theorem Mgd.step (h : Mgd key bs n a d) (hb : 0 < bs) (hs : Seg key a (a + 2 * bs) d d') (ht : Srt key a (a + 2 * bs) d') : Mgd key bs n (a + 2 * bs) d' := by
  obtain ⟨⟨q, rfl⟩, h2, h3⟩ := h
  obtain ⟨e1, e2⟩ := two_more bs q
  refine ⟨⟨q + 1, by rw [show 2 * (q + 1) = 2 * q + 2 by omega, e2]⟩, fun i hi => ?_, fun i hi => ?_⟩
  · rw [← e2] at hi ht
    have h5 : 2 * i + 2 ≤ 2 * q + 2 := Nat.le_of_mul_le_mul_left hi hb
    by_cases c : i = q
    · subst c; exact ht
    · have h4 : bs * (2 * i + 2) ≤ bs * (2 * q) := Nat.mul_le_mul_left bs (by omega)
      exact (h2 i h4).congr fun t h5 h6 => hs.out t (.inl (by omega))
  · exact (h3 i (by omega)).congr fun t h5 h6 => hs.out t (.inr (by omega))
theorem Mgd.fin (h : Mgd key bs n a d) (hb : 0 < bs) (han : a ≤ n) (hn : n < a + 2 * bs) (hs : Seg key a n d d') (ht : Srt key a n d') : Blk key (bs * 2) n d' := by
  obtain ⟨⟨q, rfl⟩, h2, h3⟩ := h
  intro i
  rw [Nat.mul_assoc, Nat.mul_assoc, show 2 * (i + 1) = 2 * i + 2 by omega]
  rcases Nat.lt_trichotomy i q with c | c | c
  · have h4 : bs * (2 * i + 2) ≤ bs * (2 * q) := Nat.mul_le_mul_left bs (by omega)
    rw [Nat.min_eq_left (by omega)]
    exact (h2 i h4).congr fun t h5 h6 => hs.out t (.inl (by omega))
  · subst c
    rw [Nat.min_eq_right (by have := (two_more bs i).2; omega)]
    exact ht
  · have h4 : bs * (2 * q + 2) ≤ bs * (2 * i) := Nat.mul_le_mul_left bs (by omega)
    have := (two_more bs q).2
    exact Srt.empty (by omega)
theorem Mgd.fin_none (h : Mgd key bs n a d) (hb : 0 < bs) (han : a ≤ n) (hn : n ≤ a + bs) : Blk key (bs * 2) n d := by
  refine h.fin hb han (by omega) Seg.refl ?_
  obtain ⟨⟨q, rfl⟩, h2, h3⟩ := h
  have h4 := h3 (2 * q) (Nat.le_refl _)
  rw [(two_more bs q).1, Nat.min_eq_right (by omega)] at h4
  exact h4
theorem Blk.whole (h : Blk key bs n d) (hn : n ≤ bs) : Srt key 0 n d := by
  have := h 0
  rw [Nat.mul_zero, Nat.zero_add, Nat.mul_one, Nat.min_eq_right hn] at this
  exact this
end Go.Proofs.YtdfndbegifdejaaStab
end
section
namespace Go.Proofs.YtdfndbegifdejaaStab
set_option linter.unusedVariables false
set_option linter.unusedSimpArgs false
set_option linter.unusedSectionVars false
open Go Go.Proofs Go.Shelf Go.RowKit Go.Lib Go.Sort
variable {P : Program} {α : Type} [Inhabited α]
def InsC (P : Program) (k : Nat) (enc : α → List Value) (key : α → Int) (g : Nat) (cb : Array Value) (blk off cap sz : Nat) (w0 : World) : Prop :=
  ∀ (a b : Nat) (d : Array α) (w : World), d.size = sz → SWK enc k w0 blk off d w → a ≤ b → b ≤ d.size →
    Calls P 67 #[.slice (some ⟨blk, off, none⟩) d.size cap, .int .i64 a, .int .i64 b, .func (.func g) #[] cb] w fun e w' =>
      e = .returned (.tuple #[]) ∧ ∃ dk : Array α, Seg key a b d dk ∧ Srt key a b dk ∧ SWK enc k w0 blk off dk w'
def SymC (P : Program) (k : Nat) (enc : α → List Value) (key : α → Int) (g : Nat) (cb : Array Value) (blk off cap sz : Nat) (w0 : World) : Prop :=
  ∀ (a m b : Nat) (d : Array α) (w : World), d.size = sz → SWK enc k w0 blk off d w → a < m → m < b → b ≤ d.size → Srt key a m d → Srt key m b d →
    Calls P 68 #[.slice (some ⟨blk, off, none⟩) d.size cap, .int .i64 a, .int .i64 m, .int .i64 b, .func (.func g) #[] cb] w fun e w' =>
      e = .returned (.tuple #[]) ∧ ∃ dk : Array α, Seg key a b d dk ∧ Srt key a b dk ∧ SWK enc k w0 blk off dk w'
set_option maxHeartbeats 4000000 in
set_option maxRecDepth 1000000 in
theorem stable (k : Nat) (L : Lays P k) (enc : α → List Value) (key : α → Int) (g : Nat) (cb : Array Value) (blk off cap n : Nat) (d : Array α) (w0 w : World)
    (hI : Aside (InsC P k enc key g cb blk off cap d.size w0)) (hM : Aside (SymC P k enc key g cb blk off cap d.size w0)) (hn : n = d.size) (hsz : n < 140737488351233) (S : SWK enc k w0 blk off d w) :
    Calls P 59 #[.slice (some ⟨blk, off, none⟩) d.size cap, .int .i64 n, .func (.func g) #[] cb] w fun e w' =>
      e = .returned (.tuple #[]) ∧ ∃ dk : Array α, Seg key 0 n d dk ∧ Srt key 0 n dk ∧ SWK enc k w0 blk off dk w' := by
  have mixed := L.mixed; have t0 := L.t0; have a0 := L.a0; have z0 := L.z0; have v0 := L.v0; have t3 := L.t3; have a3 := L.a3; have z3 := L.z3; have v3 := L.v3; have t4 := L.t4; have a4 := L.a4; have z4 := L.z4; have v4 := L.v4; have t22 := L.t22; have a22 := L.a22; have z22 := L.z22; have v22 := L.v22; have t35 := L.t35; have a35 := L.a35; have z35 := L.z35; have v35 := L.v35; have aE := L.aE; have zE := L.zE
  have FG := L.f59
  have e67 : ∀ args w, (callFunc 67 args).run P w = .ok (.enter 67 args) w := enters_of L.f67 (by kernel_rfl) rfl
  have e68 : ∀ args w, (callFunc 68 args).run P w = .ok (.enter 68 args) w := enters_of L.f68 (by kernel_rfl) rfl
  have S0 : Aside (SWK enc k w0 blk off d w) := S
  have HN : Aside (n = d.size) := hn
  clear S L hn
  go_enter FG, Try.ntmps59
  go_wp2
  go_loopg [7, 8] n (fun kx s7 s8 wr => ∃ (a : Nat) (dk : Array α), s7 = .int .i64 a ∧ s8 = .int .i64 ((a : Int) + 20) ∧ a ≤ n ∧ n - a ≤ kx ∧ Aside (dk.size = d.size) ∧ Aside (SWK enc k w0 blk off dk wr) ∧ Aside (Seg key 0 n d dk) ∧ Aside (Ini key 20 a dk))
  case atStart => exact ⟨0, d, rfl, rfl, Nat.zero_le _, by omega, (show Aside _ from rfl), S0, (show Aside _ from Seg.refl), (show Aside _ from Ini.start)⟩
  case round =>
    clear S0
    obtain ⟨a, dk, rfl, rfl, ha, hkx, hds, S1, HG, HI⟩ := hrel
    by_cases hlt : a + 20 ≤ n
    · have hltz : (a : Int) + 20 ≤ (n : Int) := by omega
      have hcall := hI.out a (a + 20) dk wr hds.out S1.out (by omega) (by rw [hds.out, ← HN.out]; exact hlt)
      rw [hds.out, show ((a + 20 : Nat) : Int) = (a : Int) + 20 from by omega] at hcall
      go_wp2_with (go_at_fn 67; refine hcall.mono ?_; rintro e' w1 ⟨rfl, d2, hG, hT, S2⟩)
      go_roundg (n - (a + 20))
      case measure => omega
      case rel =>
        exact ⟨a + 20, d2, by first | rfl | go_num | (congr 1; omega), by first | rfl | go_num | (congr 1; omega), hlt, Nat.le_refl _, (show Aside _ from hG.size.trans hds.out), S2,
          (show Aside _ from HG.out.trans (hG.widen 0 n (Nat.zero_le _) (by omega) hlt)), (show Aside _ from HI.out.step (by omega) hG hT)⟩
    · have hltz : ¬ (a : Int) + 20 ≤ (n : Int) := by omega
      have hcall := hI.out a n dk wr hds.out S1.out ha (by rw [hds.out, ← HN.out]; exact Nat.le_refl _)
      rw [hds.out] at hcall
      go_wp2_with (go_at_fn 67; refine hcall.mono ?_; rintro e' w1 ⟨rfl, d1, hG, hT, hS⟩)
      have S2 : Aside (SWK enc k w0 blk off d1 w1) := hS
      have HG1 : Aside (Seg key 0 n d d1) := HG.out.trans (hG.widen 0 n (Nat.zero_le _) ha (Nat.le_refl _))
      have HB1 : Aside (Blk key 20 n d1) := HI.out.fin (by omega) ha (by omega) hG hT
      have hds1 : Aside (d1.size = d.size) := hG.size.trans hds.out
      clear hG hT hS hcall HG HI S1 hds hlt hltz
      go_wp2
      go_loopg [6, 7, 8, 9] n (fun kx s6 s7 s8 s9 wr => ∃ (bs : Nat) (dk : Array α), s6 = .int .i64 bs ∧ 20 ≤ bs ∧ bs ≤ 2 * n + 20 ∧ n - bs ≤ kx ∧ Aside (dk.size = d.size) ∧ Aside (SWK enc k w0 blk off dk wr) ∧ Aside (Seg key 0 n d dk) ∧ Aside (Blk key bs n dk))
      case atStart => exact ⟨20, d1, rfl, Nat.le_refl _, by omega, by omega, hds1, S2, HG1, HB1⟩
      case round =>
        clear S2 HG1 HB1 hds1
        obtain ⟨bs, d2, rfl, hbs, hbn, hkx2, hds, S1, HG, HB⟩ := hrel
        obtain ⟨wo, rfl⟩ : ∃ wo : World, wo = wr := ⟨_, rfl⟩
        by_cases hlt : bs < n
        · have hltz : (bs : Int) < (n : Int) := by omega
          go_wp2
          go_loopg [7, 8] n (fun kx s7 s8 wr => ∃ (a : Nat) (dk : Array α), s7 = .int .i64 a ∧ s8 = .int .i64 ((a : Int) + 2 * (bs : Int)) ∧ a ≤ n ∧ n - a ≤ kx ∧ Aside (dk.size = d.size) ∧ Aside (SWK enc k w0 blk off dk wr) ∧ Aside (Seg key 0 n d dk) ∧ Aside (Mgd key bs n a dk))
          case atStart => exact ⟨0, d2, rfl, by first | rfl | go_num | (congr 1; omega), Nat.zero_le _, by omega, hds, S1, HG, (show Aside _ from Mgd.start HB.out)⟩
          case round =>
            clear S1 HG HB hds
            obtain ⟨a, dk, rfl, rfl, ha, hkx3, hds, S1, HG, HM⟩ := hrel
            by_cases hle : a + 2 * bs ≤ n
            · have hlez : (a : Int) + 2 * (bs : Int) ≤ (n : Int) := by omega
              have hp := HM.out.pre hle
              have hcall := hM.out a (a + bs) (a + 2 * bs) dk wr hds.out S1.out (by omega) (by omega) (by rw [hds.out, ← HN.out]; exact hle) hp.1 hp.2
              rw [hds.out, show ((a + bs : Nat) : Int) = (a : Int) + (bs : Int) from by omega, show ((a + 2 * bs : Nat) : Int) = (a : Int) + 2 * (bs : Int) from by omega] at hcall
              clear hp
              go_wp2_with (go_at_fn 68; refine hcall.mono ?_; rintro e' w1 ⟨rfl, d3, hG, hT, S2⟩)
              go_roundg (n - (a + 2 * bs))
              case measure => omega
              case rel =>
                exact ⟨a + 2 * bs, d3, by first | rfl | go_num | (congr 1; omega), by first | rfl | go_num | (congr 1; omega), hle, Nat.le_refl _, (show Aside _ from hG.size.trans hds.out), S2,
                  (show Aside _ from HG.out.trans (hG.widen 0 n (Nat.zero_le _) (by omega) hle)), (show Aside _ from HM.out.step (by omega) hG hT)⟩
            · have hlez : ¬ (a : Int) + 2 * (bs : Int) ≤ (n : Int) := by omega
              by_cases hm : a + bs < n
              · have hmz : (a : Int) + (bs : Int) < (n : Int) := by omega
                have hp := HM.out.pre_last hm (by omega)
                have hcall := hM.out a (a + bs) n dk wr hds.out S1.out (by omega) hm (by rw [hds.out, ← HN.out]; exact Nat.le_refl _) hp.1 hp.2
                rw [hds.out, show ((a + bs : Nat) : Int) = (a : Int) + (bs : Int) from by omega] at hcall
                clear hp
                go_wp2_with (go_at_fn 68; refine hcall.mono ?_; rintro e' w1 ⟨rfl, d3, hG, hT, S2⟩)
                go_roundg (n - (bs * 2))
                case measure => omega
                case rel =>
                  exact ⟨bs * 2, d3, by first | rfl | go_num | (congr 1; omega), by omega, by omega, Nat.le_refl _, (show Aside _ from hG.size.trans hds.out), S2,
                    (show Aside _ from HG.out.trans (hG.widen 0 n (Nat.zero_le _) (by omega) (Nat.le_refl _))), (show Aside _ from HM.out.fin (by omega) ha (by omega) hG hT)⟩
              · have hmz : ¬ (a : Int) + (bs : Int) < (n : Int) := by omega
                have HB2 : Aside (Blk key (bs * 2) n dk) := HM.out.fin_none (by omega) ha (by omega)
                go_wp2
                go_roundg (n - (bs * 2))
                case measure => omega
                case rel =>
                  exact ⟨bs * 2, dk, by first | rfl | go_num | (congr 1; omega), by omega, by omega, Nat.le_refl _, hds, S1, HG, HB2⟩
        · have hltz : ¬ (bs : Int) < (n : Int) := by omega
          go_wp2
          go_end0
          exact ⟨rfl, d2, HG.out, HB.out.whole (by omega), S1.out⟩
set_option maxHeartbeats 4000000 in
set_option maxRecDepth 1000000 in
theorem sortStable (k : Nat) (L : Lays P k) (enc : α → List Value) (key : α → Int) (g : Nat) (cb : Array Value) (blk off cap : Nat) (d : Array α) (w0 w : World)
    (hI : Aside (InsC P k enc key g cb blk off cap d.size w0)) (hM : Aside (SymC P k enc key g cb blk off cap d.size w0)) (hsz : d.size < 140737488351233) (S : SWK enc k w0 blk off d w) :
    Calls P 40 #[.slice (some ⟨blk, off, none⟩) d.size cap, .func (.func g) #[] cb] w fun e w' =>
      e = .returned (.tuple #[]) ∧ ∃ dk : Array α, Seg key 0 d.size d dk ∧ Srt key 0 d.size dk ∧ SWK enc k w0 blk off dk w' := by
  have mixed := L.mixed; have t0 := L.t0; have a0 := L.a0; have z0 := L.z0; have v0 := L.v0; have t3 := L.t3; have a3 := L.a3; have z3 := L.z3; have v3 := L.v3; have t22 := L.t22; have a22 := L.a22; have z22 := L.z22; have v22 := L.v22; have t35 := L.t35; have a35 := L.a35; have z35 := L.z35; have v35 := L.v35
  have FG := L.f40
  have e59 : ∀ args w, (callFunc 59 args).run P w = .ok (.enter 59 args) w := enters_of L.f59 (by kernel_rfl) rfl
  have hcall := stable k L enc key g cb blk off cap d.size d w0 w hI hM rfl hsz S
  clear S L
  go_enter FG, Try.ntmps40
  go_wp2_with (go_at_fn 59; refine hcall.mono ?_; rintro e' w1 ⟨rfl, d3, hG, hT, S2⟩)
  go_end0
  exact ⟨rfl, d3, hG, hT, S2⟩
end Go.Proofs.YtdfndbegifdejaaStab
end
