import Derived.Test.YtkfbkjcdngipcaaBey
import Derived.Test.YtkfbkjcdngipcaaCpy4
import Derived.Test.YtkfbkjcdngipcaaEq5
import Derived.Test.YtkfbkjcdngipcaaEq6
import Derived.Test.YtkfbkjcdngipcaaSo3
namespace Go.Proofs.Ytkfbkjcdngipcaa.PTreeEquals
open Go.RowKit Go.Proofs.YtkfbkjcdngipcaaW.PrintWords Go.Proofs.YtkfbkjcdngipcaaW.PrintLast Go.Proofs.YtkfbkjcdngipcaaW.PrintMore
attribute [local go_sem] max2_int min2_int max_two min_two max_three min_three max_four min_four
set_option linter.unusedVariables false
set_option linter.unusedSimpArgs false
theorem S56.wf2 {x : S56} (h : x.wf) : x.f2.wf := h.2
structure S36.wf (a : S36) : Prop where
  w2 : a.f2.length * 24 ≤ 140737488351232
  w3 : a.f3.length * 16 ≤ 140737488351232
  w4 : a.f4.length * 120 ≤ 140737488351232
  w4s : ∀ x ∈ a.f4, x.wf
  w5 : a.f5.wf
theorem exprsOK.lt : ∀ (n : Nat) (l : List S54), S54.wts l < n → l.length * 80 ≤ 140737488351232 → S54.wfs l → ExprsOK l := by
  intro n
  induction n with
  | zero => intro l h; omega
  | succ n ih =>
    intro l h hl hw
    rw [S54.wfs_iff] at hw
    refine exprs.of l hl (fun x hx => ?_)
    have h1 := S54.wt_le hx
    have h2 := S54.wt_eq x
    have h3 := (S54.wf_eq x).1 (hw x hx)
    exact ⟨ih x.f4 (by omega) h3.2.1 h3.2.2, h3.1⟩
theorem exprsOK (l : List S54) (hl : l.length * 80 ≤ 140737488351232) (hw : S54.wfs l) : ExprsOK l := exprsOK.lt _ l (Nat.lt_succ_self _) hl hw
theorem conOK.lt : ∀ (n : Nat) (x : S34), S34.wt x < n → x.wf → ConOK x.f7 x.f8 := by
  intro n
  induction n with
  | zero => intro x h; omega
  | succ n ih =>
    intro x h hw
    obtain ⟨w1, w2, w3, w4⟩ := (S34.wf_eq x).1 hw
    rw [S34.wfs_iff] at w4
    refine con.of x.f7 x.f8 (exprsOK _ w1 w2) w3 (fun y hy => ih y ?_ (w4 y hy))
    have h1 := S34.wt_le hy
    have h2 := S34.wt_eq x
    omega
theorem conOK (x : S34) (hw : x.wf) : ConOK x.f7 x.f8 := conOK.lt _ x (Nat.lt_succ_self _) hw
/-- A deal's copy: a mark behind each list's end. -/
structure DealB (w : World) (a : S36) (X2 : Option Addr) (X2c : Nat) (X3 : Option Addr) (X3c : Nat) (X4 : Option Addr) (X4c : Nat) (X7 : Option Addr) (X7c : Nat) (X8 : Option Addr) (X8c : Nat) : Prop where
  k2 : (Kd.sliceB 23 k23 b23).K w a.f2 [.slice X2 a.f2.length X2c]
  k3 : (Kd.sliceB 9 Kd.string b9).K w a.f3 [.slice X3 a.f3.length X3c]
  k4 : (Kd.sliceB 56 k56B b56).K w a.f4 [.slice X4 a.f4.length X4c]
  k5 : k34B.K w a.f5 [.int .i64 a.f5.f0, .string a.f5.f1, .string a.f5.f2, .string a.f5.f3, .int .i64 a.f5.f4, .int .i64 a.f5.f5.f0, .int .i64 a.f5.f5.f1, .int .i64 a.f5.f5.f2, .int .i64 a.f5.f6.f0, .int .i64 a.f5.f6.f1, .int .i64 a.f5.f6.f2, .int .i64 a.f5.f6.f3, .int .i64 a.f5.f6.f4.f0, .int .i64 a.f5.f6.f4.f1, .int .i64 a.f5.f6.f4.f2, .int .i64 a.f5.f6.f5.f0, .int .i64 a.f5.f6.f5.f1, .int .i64 a.f5.f6.f5.f2, .int .i64 a.f5.f6.f6.f0, .int .i64 a.f5.f6.f6.f1, .int .i64 a.f5.f6.f7, .slice X7 a.f5.f7.length X7c, .slice X8 a.f5.f8.length X8c]
  kk : k36.K w a [.string a.f0, .int .i64 a.f1.f0, .int .i64 a.f1.f1, .int .i64 a.f1.f2, .slice X2 a.f2.length X2c, .slice X3 a.f3.length X3c, .slice X4 a.f4.length X4c, .int .i64 a.f5.f0, .string a.f5.f1, .string a.f5.f2, .string a.f5.f3, .int .i64 a.f5.f4, .int .i64 a.f5.f5.f0, .int .i64 a.f5.f5.f1, .int .i64 a.f5.f5.f2, .int .i64 a.f5.f6.f0, .int .i64 a.f5.f6.f1, .int .i64 a.f5.f6.f2, .int .i64 a.f5.f6.f3, .int .i64 a.f5.f6.f4.f0, .int .i64 a.f5.f6.f4.f1, .int .i64 a.f5.f6.f4.f2, .int .i64 a.f5.f6.f5.f0, .int .i64 a.f5.f6.f5.f1, .int .i64 a.f5.f6.f5.f2, .int .i64 a.f5.f6.f6.f0, .int .i64 a.f5.f6.f6.f1, .int .i64 a.f5.f6.f7, .slice X7 a.f5.f7.length X7c, .slice X8 a.f5.f8.length X8c]
theorem DealB.below {w w1 : World} {a : S36} {X2 : Option Addr} {X2c : Nat} {X3 : Option Addr} {X3c : Nat} {X4 : Option Addr} {X4c : Nat} {X7 : Option Addr} {X7c : Nat} {X8 : Option Addr} {X8c : Nat} (h : DealB w a X2 X2c X3 X3c X4 X4c X7 X7c X8 X8c) (hb : Below w.heap.size w w1) : DealB w1 a X2 X2c X3 X3c X4 X4c X7 X7c X8 X8c := ⟨Kd.K_below _ hb h.k2, Kd.K_below _ hb h.k3, Kd.K_below _ hb h.k4, k34B.K_below hb h.k5, k36.K_below hb h.kk⟩
set_option maxHeartbeats 4000000 in
theorem dealCopy (a : S36) (hw : a.wf) (cs : List Value) (w : World) (hk : k36.K w a cs) : Calls Try.prog 6 #[.agg cs.toArray] w fun e w' => ∃ X2 X2c X3 X3c X4 X4c X7 X7c X8 X8c, e = .returned (.agg #[.string a.f0, .int .i64 a.f1.f0, .int .i64 a.f1.f1, .int .i64 a.f1.f2, .slice X2 a.f2.length X2c, .slice X3 a.f3.length X3c, .slice X4 a.f4.length X4c, .int .i64 a.f5.f0, .string a.f5.f1, .string a.f5.f2, .string a.f5.f3, .int .i64 a.f5.f4, .int .i64 a.f5.f5.f0, .int .i64 a.f5.f5.f1, .int .i64 a.f5.f5.f2, .int .i64 a.f5.f6.f0, .int .i64 a.f5.f6.f1, .int .i64 a.f5.f6.f2, .int .i64 a.f5.f6.f3, .int .i64 a.f5.f6.f4.f0, .int .i64 a.f5.f6.f4.f1, .int .i64 a.f5.f6.f4.f2, .int .i64 a.f5.f6.f5.f0, .int .i64 a.f5.f6.f5.f1, .int .i64 a.f5.f6.f5.f2, .int .i64 a.f5.f6.f6.f0, .int .i64 a.f5.f6.f6.f1, .int .i64 a.f5.f6.f7, .slice X7 a.f5.f7.length X7c, .slice X8 a.f5.f8.length X8c]) ∧ DealB w' a X2 X2c X3 X3c X4 X4c X7 X7c X8 X8c ∧ Below w.heap.size w w' := by
  obtain ⟨A2, A2c, A3, A3c, A4, A4c, A7, A7c, A8, A8c, rfl, l2, g2, l3, g3, l4, g4, l7, g7, l8, g8⟩ := k36_open hk
  obtain ⟨w2, w3, w4, w4s, w5⟩ := hw
  refine (deal.calls a.f0 a.f1.f0 a.f1.f1 a.f1.f2 a.f5.f0 a.f5.f1 a.f5.f2 a.f5.f3 a.f5.f4 a.f5.f5.f0 a.f5.f5.f1 a.f5.f5.f2 a.f5.f6.f0 a.f5.f6.f1 a.f5.f6.f2 a.f5.f6.f3 a.f5.f6.f4.f0 a.f5.f6.f4.f1 a.f5.f6.f4.f2 a.f5.f6.f5.f0 a.f5.f6.f5.f1 a.f5.f6.f5.f2 a.f5.f6.f6.f0 a.f5.f6.f6.f1 a.f5.f6.f7 a.f2 a.f3 a.f4 a.f5.f7 a.f5.f8 A2 A2c A3 A3c A4 A4c A7 A7c A8 A8c w g2 l2 w2 g3 l3 w3 g4 l4 w4 (fun x hx => ?_) (conOK _ w5) g7 l7 g8 l8).mono ?_
  · obtain ⟨h1, h2⟩ := w4s x hx
    have h3 := (S54.wf_eq x.f2).1 h2
    exact ⟨h1, exprsOK _ h3.2.1 h3.2.2, h3.1⟩
  · rintro e w' ⟨v4, v5, v6, v7, v8, rfl, h4, h5, h6, h7, h8, hb⟩
    have k4 := Kd.Fr.K h4
    have k5 := Kd.Fr.K h5
    have k6 := Kd.Fr.K h6
    have k78 : k34B.K w' a.f5 _ := Kd.K_of_M _ (k34B_mkM w' w.heap.size (fun k => w.heap.size ≤ k) a.f5 h7 h8)
    obtain ⟨X2, X2c, rfl, p2, q2, _⟩ := Kd.sB_read k4
    obtain ⟨X3, X3c, rfl, p3, q3, _⟩ := Kd.sB_read k5
    obtain ⟨X4, X4c, rfl, p4, q4, _⟩ := Kd.sB_read k6
    obtain ⟨X7, X7c, rfl, p7, q7, _⟩ := Kd.sB_read (Kd.Fr.K h7)
    obtain ⟨X8, X8c, rfl, p8, q8, _⟩ := Kd.sB_read (Kd.Fr.K h8)
    have c4 : Kd.C k56 w' X4 a.f4.length a.f4 := Kd.C_imp (d := k56B) (d' := k56) rfl (fun _ _ _ h => k56B_read h) q4
    have c7 : Kd.C k54 w' X7 a.f5.f7.length a.f5.f7 := Kd.C_imp (d := k54B) (d' := k54) rfl (fun _ _ _ h => k54B_read h) q7
    have c8 : Kd.C k34 w' X8 a.f5.f8.length a.f5.f8 := Kd.C_imp (d := k34B) (d' := k34) rfl (fun _ _ _ h => k34B_read h) q8
    clear q4 q7 q8 h4 h5 h6 h7 h8
    refine ⟨X2, X2c, X3, X3c, X4, X4c, X7, X7c, X8, X8c, rfl, ⟨k4, k5, k6, k78, ?_⟩, hb⟩
    exact k36_mk w' a p2 q2 p3 q3 p4 c4 p7 c7 p8 c8
theorem beyond_any (a : S36) (cs : List Value) (w : World) (hk : k36.K w a cs) : Calls Try.prog 5 #[.agg cs.toArray] w fun e w' => (∃ r, e = .returned (.bool r)) ∧ Below w.heap.size w w' := by
  obtain ⟨A2, A2c, A3, A3c, A4, A4c, A7, A7c, A8, A8c, rfl, l2, g2, l3, g3, l4, g4, l7, g7, l8, g8⟩ := k36_open hk
  refine Beyond.calls a.f0 a.f1.f0 a.f1.f1 a.f1.f2 a.f2 a.f3 a.f4 a.f5.f0 a.f5.f1 a.f5.f2 a.f5.f3 a.f5.f4 a.f5.f5.f0 a.f5.f5.f1 a.f5.f5.f2 a.f5.f6.f0 a.f5.f6.f1 a.f5.f6.f2 a.f5.f6.f3 a.f5.f6.f4.f0 a.f5.f6.f4.f1 a.f5.f6.f4.f2 a.f5.f6.f5.f0 a.f5.f6.f5.f1 a.f5.f6.f5.f2 a.f5.f6.f6.f0 a.f5.f6.f6.f1 a.f5.f6.f7 a.f5.f7 a.f5.f8 A2 A2c A3 A3c A4 A4c A7 A7c A8 A8c w g3 l3 (Kd.C_max g3) g4 (Kd.C_max g4) (fun x hx => ?_) g7 g8
  obtain ⟨j, hj, rfl⟩ := List.mem_iff_getElem.1 hx
  obtain ⟨ad, cv, _, _, hK, _⟩ := Kd.C_get g4 z56 (j : Int) (by omega) (by omega)
  obtain ⟨_, _, _, _, _, _, _, _, h1, _⟩ := k56_open hK
  have h2 := Kd.C_max h1
  rw [Int.toNat_natCast, List.getD_eq_getElem?_getD, List.getElem?_eq_getElem hj] at h2
  exact h2
set_option maxHeartbeats 32000000 in
set_option maxRecDepth 100000 in
theorem TreeEquals.walk (cs0 : Array Value) (a : S36) (cs1 : Array Value) (b : S36) (w : World) (hka : k36.K w a cs0.toList) (hwa : a.wf) (hkb : k36.K w b cs1.toList) (hwb : b.wf) :
    Calls Try.prog 3 #[.agg cs0, .agg cs1] w fun e w' => e = .returned (.bool true) ∧ Below w.heap.size w w' := by
  obtain ⟨A2, A2c, A3, A3c, A4, A4c, A7, A7c, A8, A8c, e0, _⟩ := k36_open hka
  obtain ⟨B2, B2c, B3, B3c, B4, B4c, B7, B7c, B8, B8c, e1, _⟩ := k36_open hkb
  rw [e0] at hka
  rw [e1] at hkb
  have f0 : cs0 = #[.string a.f0, .int .i64 a.f1.f0, .int .i64 a.f1.f1, .int .i64 a.f1.f2, .slice A2 a.f2.length A2c, .slice A3 a.f3.length A3c, .slice A4 a.f4.length A4c, .int .i64 a.f5.f0, .string a.f5.f1, .string a.f5.f2, .string a.f5.f3, .int .i64 a.f5.f4, .int .i64 a.f5.f5.f0, .int .i64 a.f5.f5.f1, .int .i64 a.f5.f5.f2, .int .i64 a.f5.f6.f0, .int .i64 a.f5.f6.f1, .int .i64 a.f5.f6.f2, .int .i64 a.f5.f6.f3, .int .i64 a.f5.f6.f4.f0, .int .i64 a.f5.f6.f4.f1, .int .i64 a.f5.f6.f4.f2, .int .i64 a.f5.f6.f5.f0, .int .i64 a.f5.f6.f5.f1, .int .i64 a.f5.f6.f5.f2, .int .i64 a.f5.f6.f6.f0, .int .i64 a.f5.f6.f6.f1, .int .i64 a.f5.f6.f7, .slice A7 a.f5.f7.length A7c, .slice A8 a.f5.f8.length A8c] := by rw [← Array.toArray_toList (xs := cs0), e0]
  have f1 : cs1 = #[.string b.f0, .int .i64 b.f1.f0, .int .i64 b.f1.f1, .int .i64 b.f1.f2, .slice B2 b.f2.length B2c, .slice B3 b.f3.length B3c, .slice B4 b.f4.length B4c, .int .i64 b.f5.f0, .string b.f5.f1, .string b.f5.f2, .string b.f5.f3, .int .i64 b.f5.f4, .int .i64 b.f5.f5.f0, .int .i64 b.f5.f5.f1, .int .i64 b.f5.f5.f2, .int .i64 b.f5.f6.f0, .int .i64 b.f5.f6.f1, .int .i64 b.f5.f6.f2, .int .i64 b.f5.f6.f3, .int .i64 b.f5.f6.f4.f0, .int .i64 b.f5.f6.f4.f1, .int .i64 b.f5.f6.f4.f2, .int .i64 b.f5.f6.f5.f0, .int .i64 b.f5.f6.f5.f1, .int .i64 b.f5.f6.f5.f2, .int .i64 b.f5.f6.f6.f0, .int .i64 b.f5.f6.f6.f1, .int .i64 b.f5.f6.f7, .slice B7 b.f5.f7.length B7c, .slice B8 b.f5.f8.length B8c] := by rw [← Array.toArray_toList (xs := cs1), e1]
  subst f0 f1
  clear e0 e1
  have hu36 := Try.underlying36
  have hsa : sm a a = true := sm_self a
  have hsb : sm b b = true := sm_self b
  have HKA := Aside0.mk hka
  have HKB := Aside0.mk hkb
  have HWA := Aside0.mk hwa
  have HWB := Aside0.mk hwb
  have HWA4 := Aside0.mk (show ∀ q ∈ a.f4, q.f2.wf from fun q hq => S56.wf2 (hwa.w4s q hq))
  clear hka hkb hwa hwb
  have HB := Aside0.mk (Below.refl w.heap.size w)
  go_enter Try.func3, Try.ntmps3
  go_upto_region 2 with (first | ((with_reducible refine gate_dst (N := 2) rfl ?_); (try (refine gate_guard (by rfl) ?_; dsimp only)); refine box_event ?hg (N := 2) ?hd (cs := #[.string a.f0, .int .i64 a.f1.f0, .int .i64 a.f1.f1, .int .i64 a.f1.f2, .slice A2 a.f2.length A2c, .slice A3 a.f3.length A3c, .slice A4 a.f4.length A4c, .int .i64 a.f5.f0, .string a.f5.f1, .string a.f5.f2, .string a.f5.f3, .int .i64 a.f5.f4, .int .i64 a.f5.f5.f0, .int .i64 a.f5.f5.f1, .int .i64 a.f5.f5.f2, .int .i64 a.f5.f6.f0, .int .i64 a.f5.f6.f1, .int .i64 a.f5.f6.f2, .int .i64 a.f5.f6.f3, .int .i64 a.f5.f6.f4.f0, .int .i64 a.f5.f6.f4.f1, .int .i64 a.f5.f6.f4.f2, .int .i64 a.f5.f6.f5.f0, .int .i64 a.f5.f6.f5.f1, .int .i64 a.f5.f6.f5.f2, .int .i64 a.f5.f6.f6.f0, .int .i64 a.f5.f6.f6.f1, .int .i64 a.f5.f6.f7, .slice A7 a.f5.f7.length A7c, .slice A8 a.f5.f8.length A8c]) (t := 36) ?hr ?_; (case hd => rfl); (case hg => rfl); (case hr => first | (go_simp; done) | (go_simp; rfl)); intro g1 hg wv1_ hbox hb; have n0_ := Aside0.mk (below_step HB.out hb); have n1_ := Aside0.mk (hbox); have n2_ := Aside0.mk ((show w.heap.size ≤ g1 by rw [hg]; exact below_size HB.out)); clear HB; have HB := n0_; have BK1 := n1_; have ORD := n2_; clear n0_ n1_ n2_; clear hb hbox hg) | ((with_reducible refine gate_dst (N := 3) rfl ?_); (try (refine gate_guard (by rfl) ?_; dsimp only)); refine box_event ?hg (N := 3) ?hd (cs := #[.string b.f0, .int .i64 b.f1.f0, .int .i64 b.f1.f1, .int .i64 b.f1.f2, .slice B2 b.f2.length B2c, .slice B3 b.f3.length B3c, .slice B4 b.f4.length B4c, .int .i64 b.f5.f0, .string b.f5.f1, .string b.f5.f2, .string b.f5.f3, .int .i64 b.f5.f4, .int .i64 b.f5.f5.f0, .int .i64 b.f5.f5.f1, .int .i64 b.f5.f5.f2, .int .i64 b.f5.f6.f0, .int .i64 b.f5.f6.f1, .int .i64 b.f5.f6.f2, .int .i64 b.f5.f6.f3, .int .i64 b.f5.f6.f4.f0, .int .i64 b.f5.f6.f4.f1, .int .i64 b.f5.f6.f4.f2, .int .i64 b.f5.f6.f5.f0, .int .i64 b.f5.f6.f5.f1, .int .i64 b.f5.f6.f5.f2, .int .i64 b.f5.f6.f6.f0, .int .i64 b.f5.f6.f6.f1, .int .i64 b.f5.f6.f7, .slice B7 b.f5.f7.length B7c, .slice B8 b.f5.f8.length B8c]) (t := 36) ?hr ?_; (case hd => rfl); (case hg => rfl); (case hr => first | (go_simp; done) | (go_simp; rfl)); intro g2 hg wv2_ hbox hb; have n0_ := Aside0.mk (below_step HB.out hb); have n1_ := Aside0.mk (blk_below BK1.out hb); have n2_ := Aside0.mk (hbox); have n3_ := Aside0.mk (And.intro ORD.out (show g1 < g2 by rw [hg]; exact blk_lt BK1.out)); clear HB BK1 ORD; have HB := n0_; have BK1 := n1_; have BK2 := n2_; have ORD := n3_; clear n0_ n1_ n2_ n3_; clear hb hbox hg) | ((with_reducible refine gate_dst (N := 9) rfl ?_); (try (refine gate_guard (by rfl) ?_; dsimp only)); refine ldb_event rfl rfl (by first | rfl | (go_simp; done) | (go_simp; rfl)) Try.underlying36 ⟨_, rfl⟩ BK1.out 30 size36' [.string a.f0, .int .i64 a.f1.f0, .int .i64 a.f1.f1, .int .i64 a.f1.f2, .slice A2 a.f2.length A2c, .slice A3 a.f3.length A3c, .slice A4 a.f4.length A4c, .int .i64 a.f5.f0, .string a.f5.f1, .string a.f5.f2, .string a.f5.f3, .int .i64 a.f5.f4, .int .i64 a.f5.f5.f0, .int .i64 a.f5.f5.f1, .int .i64 a.f5.f5.f2, .int .i64 a.f5.f6.f0, .int .i64 a.f5.f6.f1, .int .i64 a.f5.f6.f2, .int .i64 a.f5.f6.f3, .int .i64 a.f5.f6.f4.f0, .int .i64 a.f5.f6.f4.f1, .int .i64 a.f5.f6.f4.f2, .int .i64 a.f5.f6.f5.f0, .int .i64 a.f5.f6.f5.f1, .int .i64 a.f5.f6.f5.f2, .int .i64 a.f5.f6.f6.f0, .int .i64 a.f5.f6.f6.f1, .int .i64 a.f5.f6.f7, .slice A7 a.f5.f7.length A7c, .slice A8 a.f5.f8.length A8c] rfl rfl ?_) | ((with_reducible refine gate_callee (f := 5) rfl ?_); (try (refine gate_guard (by rfl) ?_; dsimp only)); refine goesL_ (some 10) rfl rfl Try.func5 (by kernel_rfl) rfl #[.agg #[.string a.f0, .int .i64 a.f1.f0, .int .i64 a.f1.f1, .int .i64 a.f1.f2, .slice A2 a.f2.length A2c, .slice A3 a.f3.length A3c, .slice A4 a.f4.length A4c, .int .i64 a.f5.f0, .string a.f5.f1, .string a.f5.f2, .string a.f5.f3, .int .i64 a.f5.f4, .int .i64 a.f5.f5.f0, .int .i64 a.f5.f5.f1, .int .i64 a.f5.f5.f2, .int .i64 a.f5.f6.f0, .int .i64 a.f5.f6.f1, .int .i64 a.f5.f6.f2, .int .i64 a.f5.f6.f3, .int .i64 a.f5.f6.f4.f0, .int .i64 a.f5.f6.f4.f1, .int .i64 a.f5.f6.f4.f2, .int .i64 a.f5.f6.f5.f0, .int .i64 a.f5.f6.f5.f1, .int .i64 a.f5.f6.f5.f2, .int .i64 a.f5.f6.f6.f0, .int .i64 a.f5.f6.f6.f1, .int .i64 a.f5.f6.f7, .slice A7 a.f5.f7.length A7c, .slice A8 a.f5.f8.length A8c]] rfl (by (try simp only [List.map_toArray, List.map_cons, List.map_nil]); first | done | rfl) ?_; (with_reducible refine (beyond_any a [.string a.f0, .int .i64 a.f1.f0, .int .i64 a.f1.f1, .int .i64 a.f1.f2, .slice A2 a.f2.length A2c, .slice A3 a.f3.length A3c, .slice A4 a.f4.length A4c, .int .i64 a.f5.f0, .string a.f5.f1, .string a.f5.f2, .string a.f5.f3, .int .i64 a.f5.f4, .int .i64 a.f5.f5.f0, .int .i64 a.f5.f5.f1, .int .i64 a.f5.f5.f2, .int .i64 a.f5.f6.f0, .int .i64 a.f5.f6.f1, .int .i64 a.f5.f6.f2, .int .i64 a.f5.f6.f3, .int .i64 a.f5.f6.f4.f0, .int .i64 a.f5.f6.f4.f1, .int .i64 a.f5.f6.f4.f2, .int .i64 a.f5.f6.f5.f0, .int .i64 a.f5.f6.f5.f1, .int .i64 a.f5.f6.f5.f2, .int .i64 a.f5.f6.f6.f0, .int .i64 a.f5.f6.f6.f1, .int .i64 a.f5.f6.f7, .slice A7 a.f5.f7.length A7c, .slice A8 a.f5.f8.length A8c] _ (k36.K_below HB.out HKA.out)).mono ?_); rintro e wv3_ ⟨⟨r1_, rfl⟩, hb⟩; refine ⟨_, rfl, ?_⟩; have n0_ := Aside0.mk (below_step HB.out hb); have n1_ := Aside0.mk (blk_below BK1.out hb); have n2_ := Aside0.mk (blk_below BK2.out hb); clear HB BK1 BK2; have HB := n0_; have BK1 := n1_; have BK2 := n2_; clear n0_ n1_ n2_; clear hb))
  go_upto_region 3 with (first | ((with_reducible refine gate_dst (N := 11) rfl ?_); (try (refine gate_guard (by rfl) ?_; dsimp only)); refine ldb_event rfl rfl (by first | rfl | (go_simp; done) | (go_simp; rfl)) Try.underlying36 ⟨_, rfl⟩ BK2.out 30 size36' [.string b.f0, .int .i64 b.f1.f0, .int .i64 b.f1.f1, .int .i64 b.f1.f2, .slice B2 b.f2.length B2c, .slice B3 b.f3.length B3c, .slice B4 b.f4.length B4c, .int .i64 b.f5.f0, .string b.f5.f1, .string b.f5.f2, .string b.f5.f3, .int .i64 b.f5.f4, .int .i64 b.f5.f5.f0, .int .i64 b.f5.f5.f1, .int .i64 b.f5.f5.f2, .int .i64 b.f5.f6.f0, .int .i64 b.f5.f6.f1, .int .i64 b.f5.f6.f2, .int .i64 b.f5.f6.f3, .int .i64 b.f5.f6.f4.f0, .int .i64 b.f5.f6.f4.f1, .int .i64 b.f5.f6.f4.f2, .int .i64 b.f5.f6.f5.f0, .int .i64 b.f5.f6.f5.f1, .int .i64 b.f5.f6.f5.f2, .int .i64 b.f5.f6.f6.f0, .int .i64 b.f5.f6.f6.f1, .int .i64 b.f5.f6.f7, .slice B7 b.f5.f7.length B7c, .slice B8 b.f5.f8.length B8c] rfl rfl ?_) | ((with_reducible refine gate_callee (f := 5) rfl ?_); (try (refine gate_guard (by rfl) ?_; dsimp only)); refine goesL_ (some 12) rfl rfl Try.func5 (by kernel_rfl) rfl #[.agg #[.string b.f0, .int .i64 b.f1.f0, .int .i64 b.f1.f1, .int .i64 b.f1.f2, .slice B2 b.f2.length B2c, .slice B3 b.f3.length B3c, .slice B4 b.f4.length B4c, .int .i64 b.f5.f0, .string b.f5.f1, .string b.f5.f2, .string b.f5.f3, .int .i64 b.f5.f4, .int .i64 b.f5.f5.f0, .int .i64 b.f5.f5.f1, .int .i64 b.f5.f5.f2, .int .i64 b.f5.f6.f0, .int .i64 b.f5.f6.f1, .int .i64 b.f5.f6.f2, .int .i64 b.f5.f6.f3, .int .i64 b.f5.f6.f4.f0, .int .i64 b.f5.f6.f4.f1, .int .i64 b.f5.f6.f4.f2, .int .i64 b.f5.f6.f5.f0, .int .i64 b.f5.f6.f5.f1, .int .i64 b.f5.f6.f5.f2, .int .i64 b.f5.f6.f6.f0, .int .i64 b.f5.f6.f6.f1, .int .i64 b.f5.f6.f7, .slice B7 b.f5.f7.length B7c, .slice B8 b.f5.f8.length B8c]] rfl (by (try simp only [List.map_toArray, List.map_cons, List.map_nil]); first | done | rfl) ?_; (with_reducible refine (beyond_any b [.string b.f0, .int .i64 b.f1.f0, .int .i64 b.f1.f1, .int .i64 b.f1.f2, .slice B2 b.f2.length B2c, .slice B3 b.f3.length B3c, .slice B4 b.f4.length B4c, .int .i64 b.f5.f0, .string b.f5.f1, .string b.f5.f2, .string b.f5.f3, .int .i64 b.f5.f4, .int .i64 b.f5.f5.f0, .int .i64 b.f5.f5.f1, .int .i64 b.f5.f5.f2, .int .i64 b.f5.f6.f0, .int .i64 b.f5.f6.f1, .int .i64 b.f5.f6.f2, .int .i64 b.f5.f6.f3, .int .i64 b.f5.f6.f4.f0, .int .i64 b.f5.f6.f4.f1, .int .i64 b.f5.f6.f4.f2, .int .i64 b.f5.f6.f5.f0, .int .i64 b.f5.f6.f5.f1, .int .i64 b.f5.f6.f5.f2, .int .i64 b.f5.f6.f6.f0, .int .i64 b.f5.f6.f6.f1, .int .i64 b.f5.f6.f7, .slice B7 b.f5.f7.length B7c, .slice B8 b.f5.f8.length B8c] _ (k36.K_below HB.out HKB.out)).mono ?_); rintro e wv4_ ⟨⟨r2_, rfl⟩, hb⟩; refine ⟨_, rfl, ?_⟩; have n0_ := Aside0.mk (below_step HB.out hb); have n1_ := Aside0.mk (blk_below BK1.out hb); have n2_ := Aside0.mk (blk_below BK2.out hb); clear HB BK1 BK2; have HB := n0_; have BK1 := n1_; have BK2 := n2_; clear n0_ n1_ n2_; clear hb))
  cases r1_ with
  | true =>
    go_wp2
    go_ret
    exact ⟨rfl, HB.out⟩
  | false =>
  cases r2_ with
  | true =>
    go_wp2
    go_ret
    exact ⟨rfl, HB.out⟩
  | false =>
  go_upto_region 6 with (first | ((with_reducible refine gate_dst (N := 17) rfl ?_); (try (refine gate_guard (by rfl) ?_; dsimp only)); refine ldb_event rfl rfl (by first | rfl | (go_simp; done) | (go_simp; rfl)) Try.underlying36 ⟨_, rfl⟩ BK1.out 30 size36' [.string a.f0, .int .i64 a.f1.f0, .int .i64 a.f1.f1, .int .i64 a.f1.f2, .slice A2 a.f2.length A2c, .slice A3 a.f3.length A3c, .slice A4 a.f4.length A4c, .int .i64 a.f5.f0, .string a.f5.f1, .string a.f5.f2, .string a.f5.f3, .int .i64 a.f5.f4, .int .i64 a.f5.f5.f0, .int .i64 a.f5.f5.f1, .int .i64 a.f5.f5.f2, .int .i64 a.f5.f6.f0, .int .i64 a.f5.f6.f1, .int .i64 a.f5.f6.f2, .int .i64 a.f5.f6.f3, .int .i64 a.f5.f6.f4.f0, .int .i64 a.f5.f6.f4.f1, .int .i64 a.f5.f6.f4.f2, .int .i64 a.f5.f6.f5.f0, .int .i64 a.f5.f6.f5.f1, .int .i64 a.f5.f6.f5.f2, .int .i64 a.f5.f6.f6.f0, .int .i64 a.f5.f6.f6.f1, .int .i64 a.f5.f6.f7, .slice A7 a.f5.f7.length A7c, .slice A8 a.f5.f8.length A8c] rfl rfl ?_) | ((with_reducible refine gate_callee (f := 6) rfl ?_); (try (refine gate_guard (by rfl) ?_; dsimp only)); refine goesL_ (some 18) rfl rfl Try.func6 (by kernel_rfl) rfl #[.agg #[.string a.f0, .int .i64 a.f1.f0, .int .i64 a.f1.f1, .int .i64 a.f1.f2, .slice A2 a.f2.length A2c, .slice A3 a.f3.length A3c, .slice A4 a.f4.length A4c, .int .i64 a.f5.f0, .string a.f5.f1, .string a.f5.f2, .string a.f5.f3, .int .i64 a.f5.f4, .int .i64 a.f5.f5.f0, .int .i64 a.f5.f5.f1, .int .i64 a.f5.f5.f2, .int .i64 a.f5.f6.f0, .int .i64 a.f5.f6.f1, .int .i64 a.f5.f6.f2, .int .i64 a.f5.f6.f3, .int .i64 a.f5.f6.f4.f0, .int .i64 a.f5.f6.f4.f1, .int .i64 a.f5.f6.f4.f2, .int .i64 a.f5.f6.f5.f0, .int .i64 a.f5.f6.f5.f1, .int .i64 a.f5.f6.f5.f2, .int .i64 a.f5.f6.f6.f0, .int .i64 a.f5.f6.f6.f1, .int .i64 a.f5.f6.f7, .slice A7 a.f5.f7.length A7c, .slice A8 a.f5.f8.length A8c]] rfl (by (try simp only [List.map_toArray, List.map_cons, List.map_nil]); first | done | rfl) ?_; (with_reducible refine (dealCopy a HWA.out [.string a.f0, .int .i64 a.f1.f0, .int .i64 a.f1.f1, .int .i64 a.f1.f2, .slice A2 a.f2.length A2c, .slice A3 a.f3.length A3c, .slice A4 a.f4.length A4c, .int .i64 a.f5.f0, .string a.f5.f1, .string a.f5.f2, .string a.f5.f3, .int .i64 a.f5.f4, .int .i64 a.f5.f5.f0, .int .i64 a.f5.f5.f1, .int .i64 a.f5.f5.f2, .int .i64 a.f5.f6.f0, .int .i64 a.f5.f6.f1, .int .i64 a.f5.f6.f2, .int .i64 a.f5.f6.f3, .int .i64 a.f5.f6.f4.f0, .int .i64 a.f5.f6.f4.f1, .int .i64 a.f5.f6.f4.f2, .int .i64 a.f5.f6.f5.f0, .int .i64 a.f5.f6.f5.f1, .int .i64 a.f5.f6.f5.f2, .int .i64 a.f5.f6.f6.f0, .int .i64 a.f5.f6.f6.f1, .int .i64 a.f5.f6.f7, .slice A7 a.f5.f7.length A7c, .slice A8 a.f5.f8.length A8c] _ (k36.K_below HB.out HKA.out)).mono ?_); rintro e wv5_ ⟨X2, X2c, X3, X3c, X4, X4c, X7, X7c, X8, X8c, rfl, hD, hb⟩; refine ⟨_, rfl, ?_⟩; have n0_ := Aside0.mk (below_step HB.out hb); have n1_ := Aside0.mk (blk_below BK1.out hb); have n2_ := Aside0.mk (blk_below BK2.out hb); have n3_ := Aside0.mk (hD); have n4_ := Aside0.mk (Below.refl wv5_.heap.size wv5_); clear HB BK1 BK2; have HB := n0_; have BK1 := n1_; have BK2 := n2_; have DX := n3_; have HBX := n4_; clear n0_ n1_ n2_ n3_ n4_; clear hb hD) | ((with_reducible refine gate_dst (N := 7) rfl ?_); (try (refine gate_guard (by rfl) ?_; dsimp only)); refine box_event ?hg (N := 7) ?hd (cs := #[.string ⟨#[]⟩, .int .i64 0, .int .i64 0, .int .i64 0, .slice none 0 0, .slice none 0 0, .slice none 0 0, .int .i64 0, .string ⟨#[]⟩, .string ⟨#[]⟩, .string ⟨#[]⟩, .int .i64 0, .int .i64 0, .int .i64 0, .int .i64 0, .int .i64 0, .int .i64 0, .int .i64 0, .int .i64 0, .int .i64 0, .int .i64 0, .int .i64 0, .int .i64 0, .int .i64 0, .int .i64 0, .int .i64 0, .int .i64 0, .int .i64 0, .slice none 0 0, .slice none 0 0]) (t := 36) ?hr ?_; (case hd => rfl); (case hg => rfl); (case hr => first | (go_simp; done) | (go_simp; rfl)); intro g3 hg wv6_ hbox hb; have n0_ := Aside0.mk (below_step HB.out hb); have n1_ := Aside0.mk (blk_below BK1.out hb); have n2_ := Aside0.mk (blk_below BK2.out hb); have n3_ := Aside0.mk (below_step HBX.out hb); have n4_ := Aside0.mk (hbox); have n5_ := Aside0.mk (And.intro ORD.out (show g2 < g3 ∧ wv5_.heap.size ≤ g3 from ⟨by rw [hg]; exact blk_lt BK2.out, by rw [hg]; exact below_size HBX.out⟩)); clear HB BK1 BK2 HBX ORD; have HB := n0_; have BK1 := n1_; have BK2 := n2_; have HBX := n3_; have BK3 := n4_; have ORD := n5_; clear n0_ n1_ n2_ n3_ n4_ n5_; clear hb hbox hg) | ((with_reducible refine gate_store (t := 36) (p := 7) rfl ?_); refine st_event rfl rfl rfl (g := g3) (j := 0) (by first | rfl | (go_simp; done) | (go_simp; rfl)) (u := .agg #[.string a.f0, .int .i64 a.f1.f0, .int .i64 a.f1.f1, .int .i64 a.f1.f2, .slice X2 a.f2.length X2c, .slice X3 a.f3.length X3c, .slice X4 a.f4.length X4c, .int .i64 a.f5.f0, .string a.f5.f1, .string a.f5.f2, .string a.f5.f3, .int .i64 a.f5.f4, .int .i64 a.f5.f5.f0, .int .i64 a.f5.f5.f1, .int .i64 a.f5.f5.f2, .int .i64 a.f5.f6.f0, .int .i64 a.f5.f6.f1, .int .i64 a.f5.f6.f2, .int .i64 a.f5.f6.f3, .int .i64 a.f5.f6.f4.f0, .int .i64 a.f5.f6.f4.f1, .int .i64 a.f5.f6.f4.f2, .int .i64 a.f5.f6.f5.f0, .int .i64 a.f5.f6.f5.f1, .int .i64 a.f5.f6.f5.f2, .int .i64 a.f5.f6.f6.f0, .int .i64 a.f5.f6.f6.f1, .int .i64 a.f5.f6.f7, .slice X7 a.f5.f7.length X7c, .slice X8 a.f5.f8.length X8c]) (by first | rfl | (go_simp; done) | (go_simp; rfl)) BK3.out 30 size36' rfl (by simp) (by intro x hx; simp [Value.cells] at hx; rcases hx with rfl | rfl | rfl | rfl | rfl | rfl | rfl | rfl | rfl | rfl | rfl | rfl | rfl | rfl | rfl | rfl | rfl | rfl | rfl | rfl | rfl | rfl | rfl | rfl | rfl | rfl | rfl | rfl | rfl | rfl <;> rfl) #[.string a.f0, .int .i64 a.f1.f0, .int .i64 a.f1.f1, .int .i64 a.f1.f2, .slice X2 a.f2.length X2c, .slice X3 a.f3.length X3c, .slice X4 a.f4.length X4c, .int .i64 a.f5.f0, .string a.f5.f1, .string a.f5.f2, .string a.f5.f3, .int .i64 a.f5.f4, .int .i64 a.f5.f5.f0, .int .i64 a.f5.f5.f1, .int .i64 a.f5.f5.f2, .int .i64 a.f5.f6.f0, .int .i64 a.f5.f6.f1, .int .i64 a.f5.f6.f2, .int .i64 a.f5.f6.f3, .int .i64 a.f5.f6.f4.f0, .int .i64 a.f5.f6.f4.f1, .int .i64 a.f5.f6.f4.f2, .int .i64 a.f5.f6.f5.f0, .int .i64 a.f5.f6.f5.f1, .int .i64 a.f5.f6.f5.f2, .int .i64 a.f5.f6.f6.f0, .int .i64 a.f5.f6.f6.f1, .int .i64 a.f5.f6.f7, .slice X7 a.f5.f7.length X7c, .slice X8 a.f5.f8.length X8c] rfl ?_; intro wv7_ hbk ho; have n0_ := Aside0.mk (Other.below ho HB.out (by have := ORD.out; omega)); have n1_ := Aside0.mk (Other.blk ho BK1.out (by have := ORD.out; omega)); have n2_ := Aside0.mk (Other.blk ho BK2.out (by have := ORD.out; omega)); have n3_ := Aside0.mk (hbk); have n4_ := Aside0.mk (Other.below ho HBX.out (by have := ORD.out; omega)); clear HB BK1 BK2 BK3 HBX; have HB := n0_; have BK1 := n1_; have BK2 := n2_; have BK3 := n3_; have HBX := n4_; clear n0_ n1_ n2_ n3_ n4_; clear hbk ho))
  go_upto_region 7 with (first | ((with_reducible refine gate_dst (N := 19) rfl ?_); (try (refine gate_guard (by rfl) ?_; dsimp only)); refine ldb_event rfl rfl (by first | rfl | (go_simp; done) | (go_simp; rfl)) Try.underlying36 ⟨_, rfl⟩ BK2.out 30 size36' [.string b.f0, .int .i64 b.f1.f0, .int .i64 b.f1.f1, .int .i64 b.f1.f2, .slice B2 b.f2.length B2c, .slice B3 b.f3.length B3c, .slice B4 b.f4.length B4c, .int .i64 b.f5.f0, .string b.f5.f1, .string b.f5.f2, .string b.f5.f3, .int .i64 b.f5.f4, .int .i64 b.f5.f5.f0, .int .i64 b.f5.f5.f1, .int .i64 b.f5.f5.f2, .int .i64 b.f5.f6.f0, .int .i64 b.f5.f6.f1, .int .i64 b.f5.f6.f2, .int .i64 b.f5.f6.f3, .int .i64 b.f5.f6.f4.f0, .int .i64 b.f5.f6.f4.f1, .int .i64 b.f5.f6.f4.f2, .int .i64 b.f5.f6.f5.f0, .int .i64 b.f5.f6.f5.f1, .int .i64 b.f5.f6.f5.f2, .int .i64 b.f5.f6.f6.f0, .int .i64 b.f5.f6.f6.f1, .int .i64 b.f5.f6.f7, .slice B7 b.f5.f7.length B7c, .slice B8 b.f5.f8.length B8c] rfl rfl ?_) | ((with_reducible refine gate_callee (f := 6) rfl ?_); (try (refine gate_guard (by rfl) ?_; dsimp only)); refine goesL_ (some 20) rfl rfl Try.func6 (by kernel_rfl) rfl #[.agg #[.string b.f0, .int .i64 b.f1.f0, .int .i64 b.f1.f1, .int .i64 b.f1.f2, .slice B2 b.f2.length B2c, .slice B3 b.f3.length B3c, .slice B4 b.f4.length B4c, .int .i64 b.f5.f0, .string b.f5.f1, .string b.f5.f2, .string b.f5.f3, .int .i64 b.f5.f4, .int .i64 b.f5.f5.f0, .int .i64 b.f5.f5.f1, .int .i64 b.f5.f5.f2, .int .i64 b.f5.f6.f0, .int .i64 b.f5.f6.f1, .int .i64 b.f5.f6.f2, .int .i64 b.f5.f6.f3, .int .i64 b.f5.f6.f4.f0, .int .i64 b.f5.f6.f4.f1, .int .i64 b.f5.f6.f4.f2, .int .i64 b.f5.f6.f5.f0, .int .i64 b.f5.f6.f5.f1, .int .i64 b.f5.f6.f5.f2, .int .i64 b.f5.f6.f6.f0, .int .i64 b.f5.f6.f6.f1, .int .i64 b.f5.f6.f7, .slice B7 b.f5.f7.length B7c, .slice B8 b.f5.f8.length B8c]] rfl (by (try simp only [List.map_toArray, List.map_cons, List.map_nil]); first | done | rfl) ?_; (with_reducible refine (dealCopy b HWB.out [.string b.f0, .int .i64 b.f1.f0, .int .i64 b.f1.f1, .int .i64 b.f1.f2, .slice B2 b.f2.length B2c, .slice B3 b.f3.length B3c, .slice B4 b.f4.length B4c, .int .i64 b.f5.f0, .string b.f5.f1, .string b.f5.f2, .string b.f5.f3, .int .i64 b.f5.f4, .int .i64 b.f5.f5.f0, .int .i64 b.f5.f5.f1, .int .i64 b.f5.f5.f2, .int .i64 b.f5.f6.f0, .int .i64 b.f5.f6.f1, .int .i64 b.f5.f6.f2, .int .i64 b.f5.f6.f3, .int .i64 b.f5.f6.f4.f0, .int .i64 b.f5.f6.f4.f1, .int .i64 b.f5.f6.f4.f2, .int .i64 b.f5.f6.f5.f0, .int .i64 b.f5.f6.f5.f1, .int .i64 b.f5.f6.f5.f2, .int .i64 b.f5.f6.f6.f0, .int .i64 b.f5.f6.f6.f1, .int .i64 b.f5.f6.f7, .slice B7 b.f5.f7.length B7c, .slice B8 b.f5.f8.length B8c] _ (k36.K_below HB.out HKB.out)).mono ?_); rintro e wv8_ ⟨Y2, Y2c, Y3, Y3c, Y4, Y4c, Y7, Y7c, Y8, Y8c, rfl, hD, hb⟩; refine ⟨_, rfl, ?_⟩; have n0_ := Aside0.mk (below_step HB.out hb); have n1_ := Aside0.mk (blk_below BK1.out hb); have n2_ := Aside0.mk (blk_below BK2.out hb); have n3_ := Aside0.mk (blk_below BK3.out hb); have n4_ := Aside0.mk (below_step HBX.out hb); have n5_ := Aside0.mk (hD); have n6_ := Aside0.mk (Below.refl wv8_.heap.size wv8_); clear HB BK1 BK2 BK3 HBX; have HB := n0_; have BK1 := n1_; have BK2 := n2_; have BK3 := n3_; have HBX := n4_; have DY := n5_; have HBY := n6_; clear n0_ n1_ n2_ n3_ n4_ n5_ n6_; clear hb hD) | ((with_reducible refine gate_dst (N := 8) rfl ?_); (try (refine gate_guard (by rfl) ?_; dsimp only)); refine box_event ?hg (N := 8) ?hd (cs := #[.string ⟨#[]⟩, .int .i64 0, .int .i64 0, .int .i64 0, .slice none 0 0, .slice none 0 0, .slice none 0 0, .int .i64 0, .string ⟨#[]⟩, .string ⟨#[]⟩, .string ⟨#[]⟩, .int .i64 0, .int .i64 0, .int .i64 0, .int .i64 0, .int .i64 0, .int .i64 0, .int .i64 0, .int .i64 0, .int .i64 0, .int .i64 0, .int .i64 0, .int .i64 0, .int .i64 0, .int .i64 0, .int .i64 0, .int .i64 0, .int .i64 0, .slice none 0 0, .slice none 0 0]) (t := 36) ?hr ?_; (case hd => rfl); (case hg => rfl); (case hr => first | (go_simp; done) | (go_simp; rfl)); intro g4 hg wv9_ hbox hb; have n0_ := Aside0.mk (below_step HB.out hb); have n1_ := Aside0.mk (blk_below BK1.out hb); have n2_ := Aside0.mk (blk_below BK2.out hb); have n3_ := Aside0.mk (blk_below BK3.out hb); have n4_ := Aside0.mk (below_step HBX.out hb); have n5_ := Aside0.mk (below_step HBY.out hb); have n6_ := Aside0.mk (hbox); have n7_ := Aside0.mk (And.intro ORD.out (show g3 < g4 ∧ wv5_.heap.size ≤ g4 ∧ wv8_.heap.size ≤ g4 from ⟨by rw [hg]; exact blk_lt BK3.out, by rw [hg]; exact below_size HBX.out, by rw [hg]; exact below_size HBY.out⟩)); clear HB BK1 BK2 BK3 HBX HBY ORD; have HB := n0_; have BK1 := n1_; have BK2 := n2_; have BK3 := n3_; have HBX := n4_; have HBY := n5_; have BK4 := n6_; have ORD := n7_; clear n0_ n1_ n2_ n3_ n4_ n5_ n6_ n7_; clear hb hbox hg) | ((with_reducible refine gate_store (t := 36) (p := 8) rfl ?_); refine st_event rfl rfl rfl (g := g4) (j := 0) (by first | rfl | (go_simp; done) | (go_simp; rfl)) (u := .agg #[.string b.f0, .int .i64 b.f1.f0, .int .i64 b.f1.f1, .int .i64 b.f1.f2, .slice Y2 b.f2.length Y2c, .slice Y3 b.f3.length Y3c, .slice Y4 b.f4.length Y4c, .int .i64 b.f5.f0, .string b.f5.f1, .string b.f5.f2, .string b.f5.f3, .int .i64 b.f5.f4, .int .i64 b.f5.f5.f0, .int .i64 b.f5.f5.f1, .int .i64 b.f5.f5.f2, .int .i64 b.f5.f6.f0, .int .i64 b.f5.f6.f1, .int .i64 b.f5.f6.f2, .int .i64 b.f5.f6.f3, .int .i64 b.f5.f6.f4.f0, .int .i64 b.f5.f6.f4.f1, .int .i64 b.f5.f6.f4.f2, .int .i64 b.f5.f6.f5.f0, .int .i64 b.f5.f6.f5.f1, .int .i64 b.f5.f6.f5.f2, .int .i64 b.f5.f6.f6.f0, .int .i64 b.f5.f6.f6.f1, .int .i64 b.f5.f6.f7, .slice Y7 b.f5.f7.length Y7c, .slice Y8 b.f5.f8.length Y8c]) (by first | rfl | (go_simp; done) | (go_simp; rfl)) BK4.out 30 size36' rfl (by simp) (by intro x hx; simp [Value.cells] at hx; rcases hx with rfl | rfl | rfl | rfl | rfl | rfl | rfl | rfl | rfl | rfl | rfl | rfl | rfl | rfl | rfl | rfl | rfl | rfl | rfl | rfl | rfl | rfl | rfl | rfl | rfl | rfl | rfl | rfl | rfl | rfl <;> rfl) #[.string b.f0, .int .i64 b.f1.f0, .int .i64 b.f1.f1, .int .i64 b.f1.f2, .slice Y2 b.f2.length Y2c, .slice Y3 b.f3.length Y3c, .slice Y4 b.f4.length Y4c, .int .i64 b.f5.f0, .string b.f5.f1, .string b.f5.f2, .string b.f5.f3, .int .i64 b.f5.f4, .int .i64 b.f5.f5.f0, .int .i64 b.f5.f5.f1, .int .i64 b.f5.f5.f2, .int .i64 b.f5.f6.f0, .int .i64 b.f5.f6.f1, .int .i64 b.f5.f6.f2, .int .i64 b.f5.f6.f3, .int .i64 b.f5.f6.f4.f0, .int .i64 b.f5.f6.f4.f1, .int .i64 b.f5.f6.f4.f2, .int .i64 b.f5.f6.f5.f0, .int .i64 b.f5.f6.f5.f1, .int .i64 b.f5.f6.f5.f2, .int .i64 b.f5.f6.f6.f0, .int .i64 b.f5.f6.f6.f1, .int .i64 b.f5.f6.f7, .slice Y7 b.f5.f7.length Y7c, .slice Y8 b.f5.f8.length Y8c] rfl ?_; intro wv10_ hbk ho; have n0_ := Aside0.mk (Other.below ho HB.out (by have := ORD.out; omega)); have n1_ := Aside0.mk (Other.blk ho BK1.out (by have := ORD.out; omega)); have n2_ := Aside0.mk (Other.blk ho BK2.out (by have := ORD.out; omega)); have n3_ := Aside0.mk (Other.blk ho BK3.out (by have := ORD.out; omega)); have n4_ := Aside0.mk (hbk); have n5_ := Aside0.mk (Other.below ho HBX.out (by have := ORD.out; omega)); have n6_ := Aside0.mk (Other.below ho HBY.out (by have := ORD.out; omega)); clear HB BK1 BK2 BK3 BK4 HBX HBY; have HB := n0_; have BK1 := n1_; have BK2 := n2_; have BK3 := n3_; have BK4 := n4_; have HBX := n5_; have HBY := n6_; clear n0_ n1_ n2_ n3_ n4_ n5_ n6_; clear hbk ho))
  refine start_ (n := 30) (S := fun w' => w'.heap[g1]? = some (.cells #[.string a.f0, .int .i64 a.f1.f0, .int .i64 a.f1.f1, .int .i64 a.f1.f2, .slice A2 a.f2.length A2c, .slice A3 a.f3.length A3c, .slice A4 a.f4.length A4c, .int .i64 a.f5.f0, .string a.f5.f1, .string a.f5.f2, .string a.f5.f3, .int .i64 a.f5.f4, .int .i64 a.f5.f5.f0, .int .i64 a.f5.f5.f1, .int .i64 a.f5.f5.f2, .int .i64 a.f5.f6.f0, .int .i64 a.f5.f6.f1, .int .i64 a.f5.f6.f2, .int .i64 a.f5.f6.f3, .int .i64 a.f5.f6.f4.f0, .int .i64 a.f5.f6.f4.f1, .int .i64 a.f5.f6.f4.f2, .int .i64 a.f5.f6.f5.f0, .int .i64 a.f5.f6.f5.f1, .int .i64 a.f5.f6.f5.f2, .int .i64 a.f5.f6.f6.f0, .int .i64 a.f5.f6.f6.f1, .int .i64 a.f5.f6.f7, .slice A7 a.f5.f7.length A7c, .slice A8 a.f5.f8.length A8c] 36 (0, 0)) ∧ w'.heap[g2]? = some (.cells #[.string b.f0, .int .i64 b.f1.f0, .int .i64 b.f1.f1, .int .i64 b.f1.f2, .slice B2 b.f2.length B2c, .slice B3 b.f3.length B3c, .slice B4 b.f4.length B4c, .int .i64 b.f5.f0, .string b.f5.f1, .string b.f5.f2, .string b.f5.f3, .int .i64 b.f5.f4, .int .i64 b.f5.f5.f0, .int .i64 b.f5.f5.f1, .int .i64 b.f5.f5.f2, .int .i64 b.f5.f6.f0, .int .i64 b.f5.f6.f1, .int .i64 b.f5.f6.f2, .int .i64 b.f5.f6.f3, .int .i64 b.f5.f6.f4.f0, .int .i64 b.f5.f6.f4.f1, .int .i64 b.f5.f6.f4.f2, .int .i64 b.f5.f6.f5.f0, .int .i64 b.f5.f6.f5.f1, .int .i64 b.f5.f6.f5.f2, .int .i64 b.f5.f6.f6.f0, .int .i64 b.f5.f6.f6.f1, .int .i64 b.f5.f6.f7, .slice B7 b.f5.f7.length B7c, .slice B8 b.f5.f8.length B8c] 36 (0, 0)) ∧ w'.heap[g3]? = some (.cells #[.string a.f0, .int .i64 a.f1.f0, .int .i64 a.f1.f1, .int .i64 a.f1.f2, .slice X2 a.f2.length X2c, .slice X3 a.f3.length X3c, .slice X4 a.f4.length X4c, .int .i64 a.f5.f0, .string a.f5.f1, .string a.f5.f2, .string a.f5.f3, .int .i64 a.f5.f4, .int .i64 a.f5.f5.f0, .int .i64 a.f5.f5.f1, .int .i64 a.f5.f5.f2, .int .i64 a.f5.f6.f0, .int .i64 a.f5.f6.f1, .int .i64 a.f5.f6.f2, .int .i64 a.f5.f6.f3, .int .i64 a.f5.f6.f4.f0, .int .i64 a.f5.f6.f4.f1, .int .i64 a.f5.f6.f4.f2, .int .i64 a.f5.f6.f5.f0, .int .i64 a.f5.f6.f5.f1, .int .i64 a.f5.f6.f5.f2, .int .i64 a.f5.f6.f6.f0, .int .i64 a.f5.f6.f6.f1, .int .i64 a.f5.f6.f7, .slice X7 a.f5.f7.length X7c, .slice X8 a.f5.f8.length X8c] 36 (0, 0)) ∧ w'.heap[g4]? = some (.cells #[.string b.f0, .int .i64 b.f1.f0, .int .i64 b.f1.f1, .int .i64 b.f1.f2, .slice Y2 b.f2.length Y2c, .slice Y3 b.f3.length Y3c, .slice Y4 b.f4.length Y4c, .int .i64 b.f5.f0, .string b.f5.f1, .string b.f5.f2, .string b.f5.f3, .int .i64 b.f5.f4, .int .i64 b.f5.f5.f0, .int .i64 b.f5.f5.f1, .int .i64 b.f5.f5.f2, .int .i64 b.f5.f6.f0, .int .i64 b.f5.f6.f1, .int .i64 b.f5.f6.f2, .int .i64 b.f5.f6.f3, .int .i64 b.f5.f6.f4.f0, .int .i64 b.f5.f6.f4.f1, .int .i64 b.f5.f6.f4.f2, .int .i64 b.f5.f6.f5.f0, .int .i64 b.f5.f6.f5.f1, .int .i64 b.f5.f6.f5.f2, .int .i64 b.f5.f6.f6.f0, .int .i64 b.f5.f6.f6.f1, .int .i64 b.f5.f6.f7, .slice Y7 b.f5.f7.length Y7c, .slice Y8 b.f5.f8.length Y8c] 36 (0, 0))) (ds := []) #[false, false, false, false, false, false, false, false, false, false, false, false, false, false, false, false, false, false, false, false, false, false, false, false, false, false, false, false, false, false] (by kernel_rfl) rfl rfl ⟨blk_below BK1.out (below_drew1 (Below.refl _ _)), blk_below BK2.out (below_drew1 (Below.refl _ _)), blk_below BK3.out (below_drew1 (Below.refl _ _)), blk_below BK4.out (below_drew1 (Below.refl _ _))⟩ (fun hHeld => ?_)
  have n0_ := Aside0.mk (below_drew1 HB.out)
  have n1_ := Aside0.mk (blk_drew BK1.out)
  have n2_ := Aside0.mk (blk_drew BK2.out)
  have n3_ := Aside0.mk (blk_drew BK3.out)
  have n4_ := Aside0.mk (blk_drew BK4.out)
  have n5_ := Aside0.mk (below_drew1 HBX.out)
  have n6_ := Aside0.mk (below_drew1 HBY.out)
  clear HB BK1 BK2 BK3 BK4 HBX HBY
  have HB := n0_
  have BK1 := n1_
  have BK2 := n2_
  have BK3 := n3_
  have BK4 := n4_
  have HBX := n5_
  have HBY := n6_
  clear n0_ n1_ n2_ n3_ n4_ n5_ n6_
  generalize wv10_.drew = wv11_ at HB BK1 BK2 BK3 BK4 HBX HBY hHeld ⊢
  refine take_ (i := 0) (N := some 21) (v := ?_) (a' := ?_) #[true, false, false, false, false, false, false, false, false, false, false, false, false, false, false, false, false, false, false, false, false, false, false, false, false, false, false, false, false, false] rfl rfl (by kernel_rfl) (fun _ _ _ h => h) (Or.inl ⟨by rfl, ?_⟩) hHeld ?_ ?_
  rotate_left
  · rintro w' ⟨s1, s2, s3, s4⟩
    refine Eq.trans (ldb_run rfl (by first | rfl | (go_simp; done) | (go_simp; rfl)) Try.underlying36 ⟨_, rfl⟩ s3 30 size36' [.string a.f0, .int .i64 a.f1.f0, .int .i64 a.f1.f1, .int .i64 a.f1.f2, .slice X2 a.f2.length X2c, .slice X3 a.f3.length X3c, .slice X4 a.f4.length X4c, .int .i64 a.f5.f0, .string a.f5.f1, .string a.f5.f2, .string a.f5.f3, .int .i64 a.f5.f4, .int .i64 a.f5.f5.f0, .int .i64 a.f5.f5.f1, .int .i64 a.f5.f5.f2, .int .i64 a.f5.f6.f0, .int .i64 a.f5.f6.f1, .int .i64 a.f5.f6.f2, .int .i64 a.f5.f6.f3, .int .i64 a.f5.f6.f4.f0, .int .i64 a.f5.f6.f4.f1, .int .i64 a.f5.f6.f4.f2, .int .i64 a.f5.f6.f5.f0, .int .i64 a.f5.f6.f5.f1, .int .i64 a.f5.f6.f5.f2, .int .i64 a.f5.f6.f6.f0, .int .i64 a.f5.f6.f6.f1, .int .i64 a.f5.f6.f7, .slice X7 a.f5.f7.length X7c, .slice X8 a.f5.f8.length X8c] rfl rfl) ?_
    with_reducible rfl
  rotate_left
  · simp only [Act.put, List.setIfInBounds_toArray, List.set_cons_zero, List.set_cons_succ, i64_w, i32_w]
    rfl
  refine take_ (i := 1) (N := some 22) (v := ?_) (a' := ?_) #[true, true, false, false, false, false, false, false, false, false, false, false, false, false, false, false, false, false, false, false, false, false, false, false, false, false, false, false, false, false] rfl rfl (by kernel_rfl) (fun _ _ _ h => h) (Or.inl ⟨by rfl, ?_⟩) hHeld ?_ ?_
  rotate_left
  · rintro w' ⟨s1, s2, s3, s4⟩
    refine Eq.trans (ldb_run rfl (by first | rfl | (go_simp; done) | (go_simp; rfl)) Try.underlying36 ⟨_, rfl⟩ s4 30 size36' [.string b.f0, .int .i64 b.f1.f0, .int .i64 b.f1.f1, .int .i64 b.f1.f2, .slice Y2 b.f2.length Y2c, .slice Y3 b.f3.length Y3c, .slice Y4 b.f4.length Y4c, .int .i64 b.f5.f0, .string b.f5.f1, .string b.f5.f2, .string b.f5.f3, .int .i64 b.f5.f4, .int .i64 b.f5.f5.f0, .int .i64 b.f5.f5.f1, .int .i64 b.f5.f5.f2, .int .i64 b.f5.f6.f0, .int .i64 b.f5.f6.f1, .int .i64 b.f5.f6.f2, .int .i64 b.f5.f6.f3, .int .i64 b.f5.f6.f4.f0, .int .i64 b.f5.f6.f4.f1, .int .i64 b.f5.f6.f4.f2, .int .i64 b.f5.f6.f5.f0, .int .i64 b.f5.f6.f5.f1, .int .i64 b.f5.f6.f5.f2, .int .i64 b.f5.f6.f6.f0, .int .i64 b.f5.f6.f6.f1, .int .i64 b.f5.f6.f7, .slice Y7 b.f5.f7.length Y7c, .slice Y8 b.f5.f8.length Y8c] rfl rfl) ?_
    with_reducible rfl
  rotate_left
  · simp only [Act.put, List.setIfInBounds_toArray, List.set_cons_zero, List.set_cons_succ, i64_w, i32_w]
    rfl
  refine take_ (i := 3) (N := some 24) (v := ?_) (a' := ?_) #[true, true, false, true, false, false, false, false, false, false, false, false, false, false, false, false, false, false, false, false, false, false, false, false, false, false, false, false, false, false] rfl rfl (by kernel_rfl) (fun _ _ _ h => h) (Or.inl ⟨by rfl, ?_⟩) hHeld ?_ ?_
  rotate_left
  · rintro w' ⟨s1, s2, s3, s4⟩
    refine Eq.trans (ldb_run rfl (by first | rfl | (go_simp; done) | (go_simp; rfl)) Try.underlying36 ⟨_, rfl⟩ s1 30 size36' [.string a.f0, .int .i64 a.f1.f0, .int .i64 a.f1.f1, .int .i64 a.f1.f2, .slice A2 a.f2.length A2c, .slice A3 a.f3.length A3c, .slice A4 a.f4.length A4c, .int .i64 a.f5.f0, .string a.f5.f1, .string a.f5.f2, .string a.f5.f3, .int .i64 a.f5.f4, .int .i64 a.f5.f5.f0, .int .i64 a.f5.f5.f1, .int .i64 a.f5.f5.f2, .int .i64 a.f5.f6.f0, .int .i64 a.f5.f6.f1, .int .i64 a.f5.f6.f2, .int .i64 a.f5.f6.f3, .int .i64 a.f5.f6.f4.f0, .int .i64 a.f5.f6.f4.f1, .int .i64 a.f5.f6.f4.f2, .int .i64 a.f5.f6.f5.f0, .int .i64 a.f5.f6.f5.f1, .int .i64 a.f5.f6.f5.f2, .int .i64 a.f5.f6.f6.f0, .int .i64 a.f5.f6.f6.f1, .int .i64 a.f5.f6.f7, .slice A7 a.f5.f7.length A7c, .slice A8 a.f5.f8.length A8c] rfl rfl) ?_
    with_reducible rfl
  rotate_left
  · simp only [Act.put, List.setIfInBounds_toArray, List.set_cons_zero, List.set_cons_succ, i64_w, i32_w]
    rfl
  refine take_ (i := 4) (N := some 25) (v := ?_) (a' := ?_) #[true, true, false, true, true, false, false, false, false, false, false, false, false, false, false, false, false, false, false, false, false, false, false, false, false, false, false, false, false, false] rfl rfl (by kernel_rfl) (fun _ _ _ h => h) (Or.inl ⟨by rfl, ?_⟩) hHeld ?_ ?_
  rotate_left
  · rintro w' ⟨s1, s2, s3, s4⟩
    refine Eq.trans (ldb_run rfl (by first | rfl | (go_simp; done) | (go_simp; rfl)) Try.underlying36 ⟨_, rfl⟩ s2 30 size36' [.string b.f0, .int .i64 b.f1.f0, .int .i64 b.f1.f1, .int .i64 b.f1.f2, .slice B2 b.f2.length B2c, .slice B3 b.f3.length B3c, .slice B4 b.f4.length B4c, .int .i64 b.f5.f0, .string b.f5.f1, .string b.f5.f2, .string b.f5.f3, .int .i64 b.f5.f4, .int .i64 b.f5.f5.f0, .int .i64 b.f5.f5.f1, .int .i64 b.f5.f5.f2, .int .i64 b.f5.f6.f0, .int .i64 b.f5.f6.f1, .int .i64 b.f5.f6.f2, .int .i64 b.f5.f6.f3, .int .i64 b.f5.f6.f4.f0, .int .i64 b.f5.f6.f4.f1, .int .i64 b.f5.f6.f4.f2, .int .i64 b.f5.f6.f5.f0, .int .i64 b.f5.f6.f5.f1, .int .i64 b.f5.f6.f5.f2, .int .i64 b.f5.f6.f6.f0, .int .i64 b.f5.f6.f6.f1, .int .i64 b.f5.f6.f7, .slice B7 b.f5.f7.length B7c, .slice B8 b.f5.f8.length B8c] rfl rfl) ?_
    with_reducible rfl
  rotate_left
  · simp only [Act.put, List.setIfInBounds_toArray, List.set_cons_zero, List.set_cons_succ, i64_w, i32_w]
    rfl
  refine one_ (i := 2) (N := some 23) #[true, true, true, true, true, false, false, false, false, false, false, false, false, false, false, false, false, false, false, false, false, false, false, false, false, false, false, false, false, false] rfl rfl (by kernel_rfl) (by decide) (fun K hK => ?_)
  refine goes_ Try.func7 (by kernel_rfl) rfl #[.agg #[.string a.f0, .int .i64 a.f1.f0, .int .i64 a.f1.f1, .int .i64 a.f1.f2, .slice X2 a.f2.length X2c, .slice X3 a.f3.length X3c, .slice X4 a.f4.length X4c, .int .i64 a.f5.f0, .string a.f5.f1, .string a.f5.f2, .string a.f5.f3, .int .i64 a.f5.f4, .int .i64 a.f5.f5.f0, .int .i64 a.f5.f5.f1, .int .i64 a.f5.f5.f2, .int .i64 a.f5.f6.f0, .int .i64 a.f5.f6.f1, .int .i64 a.f5.f6.f2, .int .i64 a.f5.f6.f3, .int .i64 a.f5.f6.f4.f0, .int .i64 a.f5.f6.f4.f1, .int .i64 a.f5.f6.f4.f2, .int .i64 a.f5.f6.f5.f0, .int .i64 a.f5.f6.f5.f1, .int .i64 a.f5.f6.f5.f2, .int .i64 a.f5.f6.f6.f0, .int .i64 a.f5.f6.f6.f1, .int .i64 a.f5.f6.f7, .slice X7 a.f5.f7.length X7c, .slice X8 a.f5.f8.length X8c], .agg #[.string b.f0, .int .i64 b.f1.f0, .int .i64 b.f1.f1, .int .i64 b.f1.f2, .slice Y2 b.f2.length Y2c, .slice Y3 b.f3.length Y3c, .slice Y4 b.f4.length Y4c, .int .i64 b.f5.f0, .string b.f5.f1, .string b.f5.f2, .string b.f5.f3, .int .i64 b.f5.f4, .int .i64 b.f5.f5.f0, .int .i64 b.f5.f5.f1, .int .i64 b.f5.f5.f2, .int .i64 b.f5.f6.f0, .int .i64 b.f5.f6.f1, .int .i64 b.f5.f6.f2, .int .i64 b.f5.f6.f3, .int .i64 b.f5.f6.f4.f0, .int .i64 b.f5.f6.f4.f1, .int .i64 b.f5.f6.f4.f2, .int .i64 b.f5.f6.f5.f0, .int .i64 b.f5.f6.f5.f1, .int .i64 b.f5.f6.f5.f2, .int .i64 b.f5.f6.f6.f0, .int .i64 b.f5.f6.f6.f1, .int .i64 b.f5.f6.f7, .slice Y7 b.f5.f7.length Y7c, .slice Y8 b.f5.f8.length Y8c]] (by rfl) rfl rfl (by (try simp only [List.map_toArray, List.map_cons, List.map_nil]); first | done | rfl) ?_
  with_reducible refine (EqOK.calls (tree_Equal.all a b) [.string a.f0, .int .i64 a.f1.f0, .int .i64 a.f1.f1, .int .i64 a.f1.f2, .slice X2 a.f2.length X2c, .slice X3 a.f3.length X3c, .slice X4 a.f4.length X4c, .int .i64 a.f5.f0, .string a.f5.f1, .string a.f5.f2, .string a.f5.f3, .int .i64 a.f5.f4, .int .i64 a.f5.f5.f0, .int .i64 a.f5.f5.f1, .int .i64 a.f5.f5.f2, .int .i64 a.f5.f6.f0, .int .i64 a.f5.f6.f1, .int .i64 a.f5.f6.f2, .int .i64 a.f5.f6.f3, .int .i64 a.f5.f6.f4.f0, .int .i64 a.f5.f6.f4.f1, .int .i64 a.f5.f6.f4.f2, .int .i64 a.f5.f6.f5.f0, .int .i64 a.f5.f6.f5.f1, .int .i64 a.f5.f6.f5.f2, .int .i64 a.f5.f6.f6.f0, .int .i64 a.f5.f6.f6.f1, .int .i64 a.f5.f6.f7, .slice X7 a.f5.f7.length X7c, .slice X8 a.f5.f8.length X8c] [.string b.f0, .int .i64 b.f1.f0, .int .i64 b.f1.f1, .int .i64 b.f1.f2, .slice Y2 b.f2.length Y2c, .slice Y3 b.f3.length Y3c, .slice Y4 b.f4.length Y4c, .int .i64 b.f5.f0, .string b.f5.f1, .string b.f5.f2, .string b.f5.f3, .int .i64 b.f5.f4, .int .i64 b.f5.f5.f0, .int .i64 b.f5.f5.f1, .int .i64 b.f5.f5.f2, .int .i64 b.f5.f6.f0, .int .i64 b.f5.f6.f1, .int .i64 b.f5.f6.f2, .int .i64 b.f5.f6.f3, .int .i64 b.f5.f6.f4.f0, .int .i64 b.f5.f6.f4.f1, .int .i64 b.f5.f6.f4.f2, .int .i64 b.f5.f6.f5.f0, .int .i64 b.f5.f6.f5.f1, .int .i64 b.f5.f6.f5.f2, .int .i64 b.f5.f6.f6.f0, .int .i64 b.f5.f6.f6.f1, .int .i64 b.f5.f6.f7, .slice Y7 b.f5.f7.length Y7c, .slice Y8 b.f5.f8.length Y8c] _ (DealB.below DX.out HBX.out).kk (DealB.below DY.out HBY.out).kk).mono ?_
  rintro e wv12_ ⟨rfl, hb⟩
  refine ⟨_, rfl, ?_⟩
  have n0_ := Aside0.mk (below_step HB.out hb)
  have n1_ := Aside0.mk (blk_below BK1.out hb)
  have n2_ := Aside0.mk (blk_below BK2.out hb)
  have n3_ := Aside0.mk (blk_below BK3.out hb)
  have n4_ := Aside0.mk (blk_below BK4.out hb)
  have n5_ := Aside0.mk (below_step HBX.out hb)
  have n6_ := Aside0.mk (below_step HBY.out hb)
  clear HB BK1 BK2 BK3 BK4 HBX HBY
  have HB := n0_
  have BK1 := n1_
  have BK2 := n2_
  have BK3 := n3_
  have BK4 := n4_
  have HBX := n5_
  have HBY := n6_
  clear n0_ n1_ n2_ n3_ n4_ n5_ n6_
  clear hb
  refine hK.out _ _ ⟨BK1.out, BK2.out, BK3.out, BK4.out⟩ (fun hHeld => ?_)
  clear hK K
  refine norm_ (a' := ?_) ?_ ?_
  rotate_left
  · show Act.put _ (some 23) _ = _
    simp only [Act.put, List.setIfInBounds_toArray, List.set_cons_zero, List.set_cons_succ, i64_w, i32_w]
    rfl
  refine one_ (i := 5) (N := some 26) #[true, true, true, true, true, true, false, false, false, false, false, false, false, false, false, false, false, false, false, false, false, false, false, false, false, false, false, false, false, false] rfl rfl (by kernel_rfl) (by decide) (fun K hK => ?_)
  refine goes_ Try.func8 (by kernel_rfl) rfl #[.agg #[.string a.f0, .int .i64 a.f1.f0, .int .i64 a.f1.f1, .int .i64 a.f1.f2, .slice A2 a.f2.length A2c, .slice A3 a.f3.length A3c, .slice A4 a.f4.length A4c, .int .i64 a.f5.f0, .string a.f5.f1, .string a.f5.f2, .string a.f5.f3, .int .i64 a.f5.f4, .int .i64 a.f5.f5.f0, .int .i64 a.f5.f5.f1, .int .i64 a.f5.f5.f2, .int .i64 a.f5.f6.f0, .int .i64 a.f5.f6.f1, .int .i64 a.f5.f6.f2, .int .i64 a.f5.f6.f3, .int .i64 a.f5.f6.f4.f0, .int .i64 a.f5.f6.f4.f1, .int .i64 a.f5.f6.f4.f2, .int .i64 a.f5.f6.f5.f0, .int .i64 a.f5.f6.f5.f1, .int .i64 a.f5.f6.f5.f2, .int .i64 a.f5.f6.f6.f0, .int .i64 a.f5.f6.f6.f1, .int .i64 a.f5.f6.f7, .slice A7 a.f5.f7.length A7c, .slice A8 a.f5.f8.length A8c], .agg #[.string b.f0, .int .i64 b.f1.f0, .int .i64 b.f1.f1, .int .i64 b.f1.f2, .slice B2 b.f2.length B2c, .slice B3 b.f3.length B3c, .slice B4 b.f4.length B4c, .int .i64 b.f5.f0, .string b.f5.f1, .string b.f5.f2, .string b.f5.f3, .int .i64 b.f5.f4, .int .i64 b.f5.f5.f0, .int .i64 b.f5.f5.f1, .int .i64 b.f5.f5.f2, .int .i64 b.f5.f6.f0, .int .i64 b.f5.f6.f1, .int .i64 b.f5.f6.f2, .int .i64 b.f5.f6.f3, .int .i64 b.f5.f6.f4.f0, .int .i64 b.f5.f6.f4.f1, .int .i64 b.f5.f6.f4.f2, .int .i64 b.f5.f6.f5.f0, .int .i64 b.f5.f6.f5.f1, .int .i64 b.f5.f6.f5.f2, .int .i64 b.f5.f6.f6.f0, .int .i64 b.f5.f6.f6.f1, .int .i64 b.f5.f6.f7, .slice B7 b.f5.f7.length B7c, .slice B8 b.f5.f8.length B8c]] (by rfl) rfl rfl (by (try simp only [List.map_toArray, List.map_cons, List.map_nil]); first | done | rfl) ?_
  with_reducible refine (EqOK.calls (refEqual.all a b HWA4.out HWA.out.w5) [.string a.f0, .int .i64 a.f1.f0, .int .i64 a.f1.f1, .int .i64 a.f1.f2, .slice A2 a.f2.length A2c, .slice A3 a.f3.length A3c, .slice A4 a.f4.length A4c, .int .i64 a.f5.f0, .string a.f5.f1, .string a.f5.f2, .string a.f5.f3, .int .i64 a.f5.f4, .int .i64 a.f5.f5.f0, .int .i64 a.f5.f5.f1, .int .i64 a.f5.f5.f2, .int .i64 a.f5.f6.f0, .int .i64 a.f5.f6.f1, .int .i64 a.f5.f6.f2, .int .i64 a.f5.f6.f3, .int .i64 a.f5.f6.f4.f0, .int .i64 a.f5.f6.f4.f1, .int .i64 a.f5.f6.f4.f2, .int .i64 a.f5.f6.f5.f0, .int .i64 a.f5.f6.f5.f1, .int .i64 a.f5.f6.f5.f2, .int .i64 a.f5.f6.f6.f0, .int .i64 a.f5.f6.f6.f1, .int .i64 a.f5.f6.f7, .slice A7 a.f5.f7.length A7c, .slice A8 a.f5.f8.length A8c] [.string b.f0, .int .i64 b.f1.f0, .int .i64 b.f1.f1, .int .i64 b.f1.f2, .slice B2 b.f2.length B2c, .slice B3 b.f3.length B3c, .slice B4 b.f4.length B4c, .int .i64 b.f5.f0, .string b.f5.f1, .string b.f5.f2, .string b.f5.f3, .int .i64 b.f5.f4, .int .i64 b.f5.f5.f0, .int .i64 b.f5.f5.f1, .int .i64 b.f5.f5.f2, .int .i64 b.f5.f6.f0, .int .i64 b.f5.f6.f1, .int .i64 b.f5.f6.f2, .int .i64 b.f5.f6.f3, .int .i64 b.f5.f6.f4.f0, .int .i64 b.f5.f6.f4.f1, .int .i64 b.f5.f6.f4.f2, .int .i64 b.f5.f6.f5.f0, .int .i64 b.f5.f6.f5.f1, .int .i64 b.f5.f6.f5.f2, .int .i64 b.f5.f6.f6.f0, .int .i64 b.f5.f6.f6.f1, .int .i64 b.f5.f6.f7, .slice B7 b.f5.f7.length B7c, .slice B8 b.f5.f8.length B8c] _ (k36.K_below HB.out HKA.out) (k36.K_below HB.out HKB.out)).mono ?_
  rintro e wv13_ ⟨rfl, hb⟩
  refine ⟨_, rfl, ?_⟩
  have n0_ := Aside0.mk (below_step HB.out hb)
  have n1_ := Aside0.mk (blk_below BK1.out hb)
  have n2_ := Aside0.mk (blk_below BK2.out hb)
  have n3_ := Aside0.mk (blk_below BK3.out hb)
  have n4_ := Aside0.mk (blk_below BK4.out hb)
  have n5_ := Aside0.mk (below_step HBX.out hb)
  have n6_ := Aside0.mk (below_step HBY.out hb)
  clear HB BK1 BK2 BK3 BK4 HBX HBY
  have HB := n0_
  have BK1 := n1_
  have BK2 := n2_
  have BK3 := n3_
  have BK4 := n4_
  have HBX := n5_
  have HBY := n6_
  clear n0_ n1_ n2_ n3_ n4_ n5_ n6_
  clear hb
  refine hK.out _ _ ⟨BK1.out, BK2.out, BK3.out, BK4.out⟩ (fun hHeld => ?_)
  clear hK K
  refine norm_ (a' := ?_) ?_ ?_
  rotate_left
  · show Act.put _ (some 26) _ = _
    simp only [Act.put, List.setIfInBounds_toArray, List.set_cons_zero, List.set_cons_succ, i64_w, i32_w]
    rfl
  refine pure_ (i := 6) (N := some 27) (v := ?_) (a' := ?_) #[true, true, true, true, true, true, true, false, false, false, false, false, false, false, false, false, false, false, false, false, false, false, false, false, false, false, false, false, false, false] rfl rfl (by kernel_rfl) (fun _ _ _ h => h) (Or.inl ⟨by rfl, ?_⟩) ?_ ?_
  rotate_left
  · intro w'
    go_simp
    with_reducible rfl
  rotate_left
  · simp only [Act.put, List.setIfInBounds_toArray, List.set_cons_zero, List.set_cons_succ, i64_w, i32_w]
    rfl
  refine pure_ (i := 7) (N := some 28) (v := ?_) (a' := ?_) #[true, true, true, true, true, true, true, true, false, false, false, false, false, false, false, false, false, false, false, false, false, false, false, false, false, false, false, false, false, false] rfl rfl (by kernel_rfl) (fun _ _ _ h => h) (Or.inl ⟨by rfl, ?_⟩) ?_ ?_
  rotate_left
  · intro w'
    go_simp
    with_reducible rfl
  rotate_left
  · simp only [Act.put, List.setIfInBounds_toArray, List.set_cons_zero, List.set_cons_succ, i64_w, i32_w]
    rfl
  refine take_ (i := 8) (N := some 29) (v := ?_) (a' := ?_) #[true, true, true, true, true, true, true, true, true, false, false, false, false, false, false, false, false, false, false, false, false, false, false, false, false, false, false, false, false, false] rfl rfl (by kernel_rfl) (fun _ _ _ h => h) (Or.inl ⟨by rfl, ?_⟩) hHeld ?_ ?_
  rotate_left
  · rintro w' ⟨s1, s2, s3, s4⟩
    refine Eq.trans (ldb_run rfl (by first | rfl | (go_simp; done) | (go_simp; rfl)) Try.underlying36 ⟨_, rfl⟩ s3 30 size36' [.string a.f0, .int .i64 a.f1.f0, .int .i64 a.f1.f1, .int .i64 a.f1.f2, .slice X2 a.f2.length X2c, .slice X3 a.f3.length X3c, .slice X4 a.f4.length X4c, .int .i64 a.f5.f0, .string a.f5.f1, .string a.f5.f2, .string a.f5.f3, .int .i64 a.f5.f4, .int .i64 a.f5.f5.f0, .int .i64 a.f5.f5.f1, .int .i64 a.f5.f5.f2, .int .i64 a.f5.f6.f0, .int .i64 a.f5.f6.f1, .int .i64 a.f5.f6.f2, .int .i64 a.f5.f6.f3, .int .i64 a.f5.f6.f4.f0, .int .i64 a.f5.f6.f4.f1, .int .i64 a.f5.f6.f4.f2, .int .i64 a.f5.f6.f5.f0, .int .i64 a.f5.f6.f5.f1, .int .i64 a.f5.f6.f5.f2, .int .i64 a.f5.f6.f6.f0, .int .i64 a.f5.f6.f6.f1, .int .i64 a.f5.f6.f7, .slice X7 a.f5.f7.length X7c, .slice X8 a.f5.f8.length X8c] rfl rfl) ?_
    with_reducible rfl
  rotate_left
  · simp only [Act.put, List.setIfInBounds_toArray, List.set_cons_zero, List.set_cons_succ, i64_w, i32_w]
    rfl
  refine take_ (i := 9) (N := some 30) (v := ?_) (a' := ?_) #[true, true, true, true, true, true, true, true, true, true, false, false, false, false, false, false, false, false, false, false, false, false, false, false, false, false, false, false, false, false] rfl rfl (by kernel_rfl) (fun _ _ _ h => h) (Or.inl ⟨by rfl, ?_⟩) hHeld ?_ ?_
  rotate_left
  · rintro w' ⟨s1, s2, s3, s4⟩
    refine Eq.trans (ldb_run rfl (by first | rfl | (go_simp; done) | (go_simp; rfl)) Try.underlying36 ⟨_, rfl⟩ s1 30 size36' [.string a.f0, .int .i64 a.f1.f0, .int .i64 a.f1.f1, .int .i64 a.f1.f2, .slice A2 a.f2.length A2c, .slice A3 a.f3.length A3c, .slice A4 a.f4.length A4c, .int .i64 a.f5.f0, .string a.f5.f1, .string a.f5.f2, .string a.f5.f3, .int .i64 a.f5.f4, .int .i64 a.f5.f5.f0, .int .i64 a.f5.f5.f1, .int .i64 a.f5.f5.f2, .int .i64 a.f5.f6.f0, .int .i64 a.f5.f6.f1, .int .i64 a.f5.f6.f2, .int .i64 a.f5.f6.f3, .int .i64 a.f5.f6.f4.f0, .int .i64 a.f5.f6.f4.f1, .int .i64 a.f5.f6.f4.f2, .int .i64 a.f5.f6.f5.f0, .int .i64 a.f5.f6.f5.f1, .int .i64 a.f5.f6.f5.f2, .int .i64 a.f5.f6.f6.f0, .int .i64 a.f5.f6.f6.f1, .int .i64 a.f5.f6.f7, .slice A7 a.f5.f7.length A7c, .slice A8 a.f5.f8.length A8c] rfl rfl) ?_
    with_reducible rfl
  rotate_left
  · simp only [Act.put, List.setIfInBounds_toArray, List.set_cons_zero, List.set_cons_succ, i64_w, i32_w]
    rfl
  refine one_ (i := 10) (N := some 31) #[true, true, true, true, true, true, true, true, true, true, true, false, false, false, false, false, false, false, false, false, false, false, false, false, false, false, false, false, false, false] rfl rfl (by kernel_rfl) (by decide) (fun K hK => ?_)
  refine goes_ Try.func6 (by kernel_rfl) rfl #[.agg #[.string a.f0, .int .i64 a.f1.f0, .int .i64 a.f1.f1, .int .i64 a.f1.f2, .slice A2 a.f2.length A2c, .slice A3 a.f3.length A3c, .slice A4 a.f4.length A4c, .int .i64 a.f5.f0, .string a.f5.f1, .string a.f5.f2, .string a.f5.f3, .int .i64 a.f5.f4, .int .i64 a.f5.f5.f0, .int .i64 a.f5.f5.f1, .int .i64 a.f5.f5.f2, .int .i64 a.f5.f6.f0, .int .i64 a.f5.f6.f1, .int .i64 a.f5.f6.f2, .int .i64 a.f5.f6.f3, .int .i64 a.f5.f6.f4.f0, .int .i64 a.f5.f6.f4.f1, .int .i64 a.f5.f6.f4.f2, .int .i64 a.f5.f6.f5.f0, .int .i64 a.f5.f6.f5.f1, .int .i64 a.f5.f6.f5.f2, .int .i64 a.f5.f6.f6.f0, .int .i64 a.f5.f6.f6.f1, .int .i64 a.f5.f6.f7, .slice A7 a.f5.f7.length A7c, .slice A8 a.f5.f8.length A8c]] (by rfl) rfl rfl (by (try simp only [List.map_toArray, List.map_cons, List.map_nil]); first | done | rfl) ?_
  with_reducible refine (dealCopy a HWA.out [.string a.f0, .int .i64 a.f1.f0, .int .i64 a.f1.f1, .int .i64 a.f1.f2, .slice A2 a.f2.length A2c, .slice A3 a.f3.length A3c, .slice A4 a.f4.length A4c, .int .i64 a.f5.f0, .string a.f5.f1, .string a.f5.f2, .string a.f5.f3, .int .i64 a.f5.f4, .int .i64 a.f5.f5.f0, .int .i64 a.f5.f5.f1, .int .i64 a.f5.f5.f2, .int .i64 a.f5.f6.f0, .int .i64 a.f5.f6.f1, .int .i64 a.f5.f6.f2, .int .i64 a.f5.f6.f3, .int .i64 a.f5.f6.f4.f0, .int .i64 a.f5.f6.f4.f1, .int .i64 a.f5.f6.f4.f2, .int .i64 a.f5.f6.f5.f0, .int .i64 a.f5.f6.f5.f1, .int .i64 a.f5.f6.f5.f2, .int .i64 a.f5.f6.f6.f0, .int .i64 a.f5.f6.f6.f1, .int .i64 a.f5.f6.f7, .slice A7 a.f5.f7.length A7c, .slice A8 a.f5.f8.length A8c] _ (k36.K_below HB.out HKA.out)).mono ?_
  rintro e wv14_ ⟨Z2, Z2c, Z3, Z3c, Z4, Z4c, Z7, Z7c, Z8, Z8c, rfl, hD, hb⟩
  refine ⟨_, rfl, ?_⟩
  have n0_ := Aside0.mk (below_step HB.out hb)
  have n1_ := Aside0.mk (blk_below BK1.out hb)
  have n2_ := Aside0.mk (blk_below BK2.out hb)
  have n3_ := Aside0.mk (blk_below BK3.out hb)
  have n4_ := Aside0.mk (blk_below BK4.out hb)
  have n5_ := Aside0.mk (below_step HBX.out hb)
  have n6_ := Aside0.mk (below_step HBY.out hb)
  have n7_ := Aside0.mk (hD)
  clear HB BK1 BK2 BK3 BK4 HBX HBY
  have HB := n0_
  have BK1 := n1_
  have BK2 := n2_
  have BK3 := n3_
  have BK4 := n4_
  have HBX := n5_
  have HBY := n6_
  have DZ := n7_
  clear n0_ n1_ n2_ n3_ n4_ n5_ n6_ n7_
  clear hb hD
  refine hK.out _ _ ⟨BK1.out, BK2.out, BK3.out, BK4.out⟩ (fun hHeld => ?_)
  clear hK K
  refine norm_ (a' := ?_) ?_ ?_
  rotate_left
  · show Act.put _ (some 31) _ = _
    simp only [Act.put, List.setIfInBounds_toArray, List.set_cons_zero, List.set_cons_succ, i64_w, i32_w]
    rfl
  refine one_ (i := 11) (N := some 32) #[true, true, true, true, true, true, true, true, true, true, true, true, false, false, false, false, false, false, false, false, false, false, false, false, false, false, false, false, false, false] rfl rfl (by kernel_rfl) (by decide) (fun K hK => ?_)
  refine goes_ Try.func7 (by kernel_rfl) rfl #[.agg #[.string a.f0, .int .i64 a.f1.f0, .int .i64 a.f1.f1, .int .i64 a.f1.f2, .slice X2 a.f2.length X2c, .slice X3 a.f3.length X3c, .slice X4 a.f4.length X4c, .int .i64 a.f5.f0, .string a.f5.f1, .string a.f5.f2, .string a.f5.f3, .int .i64 a.f5.f4, .int .i64 a.f5.f5.f0, .int .i64 a.f5.f5.f1, .int .i64 a.f5.f5.f2, .int .i64 a.f5.f6.f0, .int .i64 a.f5.f6.f1, .int .i64 a.f5.f6.f2, .int .i64 a.f5.f6.f3, .int .i64 a.f5.f6.f4.f0, .int .i64 a.f5.f6.f4.f1, .int .i64 a.f5.f6.f4.f2, .int .i64 a.f5.f6.f5.f0, .int .i64 a.f5.f6.f5.f1, .int .i64 a.f5.f6.f5.f2, .int .i64 a.f5.f6.f6.f0, .int .i64 a.f5.f6.f6.f1, .int .i64 a.f5.f6.f7, .slice X7 a.f5.f7.length X7c, .slice X8 a.f5.f8.length X8c], .agg #[.string a.f0, .int .i64 a.f1.f0, .int .i64 a.f1.f1, .int .i64 a.f1.f2, .slice Z2 a.f2.length Z2c, .slice Z3 a.f3.length Z3c, .slice Z4 a.f4.length Z4c, .int .i64 a.f5.f0, .string a.f5.f1, .string a.f5.f2, .string a.f5.f3, .int .i64 a.f5.f4, .int .i64 a.f5.f5.f0, .int .i64 a.f5.f5.f1, .int .i64 a.f5.f5.f2, .int .i64 a.f5.f6.f0, .int .i64 a.f5.f6.f1, .int .i64 a.f5.f6.f2, .int .i64 a.f5.f6.f3, .int .i64 a.f5.f6.f4.f0, .int .i64 a.f5.f6.f4.f1, .int .i64 a.f5.f6.f4.f2, .int .i64 a.f5.f6.f5.f0, .int .i64 a.f5.f6.f5.f1, .int .i64 a.f5.f6.f5.f2, .int .i64 a.f5.f6.f6.f0, .int .i64 a.f5.f6.f6.f1, .int .i64 a.f5.f6.f7, .slice Z7 a.f5.f7.length Z7c, .slice Z8 a.f5.f8.length Z8c]] (by rfl) rfl rfl (by (try simp only [List.map_toArray, List.map_cons, List.map_nil]); first | done | rfl) ?_
  with_reducible refine (EqOK.calls (tree_Equal.all a a) [.string a.f0, .int .i64 a.f1.f0, .int .i64 a.f1.f1, .int .i64 a.f1.f2, .slice X2 a.f2.length X2c, .slice X3 a.f3.length X3c, .slice X4 a.f4.length X4c, .int .i64 a.f5.f0, .string a.f5.f1, .string a.f5.f2, .string a.f5.f3, .int .i64 a.f5.f4, .int .i64 a.f5.f5.f0, .int .i64 a.f5.f5.f1, .int .i64 a.f5.f5.f2, .int .i64 a.f5.f6.f0, .int .i64 a.f5.f6.f1, .int .i64 a.f5.f6.f2, .int .i64 a.f5.f6.f3, .int .i64 a.f5.f6.f4.f0, .int .i64 a.f5.f6.f4.f1, .int .i64 a.f5.f6.f4.f2, .int .i64 a.f5.f6.f5.f0, .int .i64 a.f5.f6.f5.f1, .int .i64 a.f5.f6.f5.f2, .int .i64 a.f5.f6.f6.f0, .int .i64 a.f5.f6.f6.f1, .int .i64 a.f5.f6.f7, .slice X7 a.f5.f7.length X7c, .slice X8 a.f5.f8.length X8c] [.string a.f0, .int .i64 a.f1.f0, .int .i64 a.f1.f1, .int .i64 a.f1.f2, .slice Z2 a.f2.length Z2c, .slice Z3 a.f3.length Z3c, .slice Z4 a.f4.length Z4c, .int .i64 a.f5.f0, .string a.f5.f1, .string a.f5.f2, .string a.f5.f3, .int .i64 a.f5.f4, .int .i64 a.f5.f5.f0, .int .i64 a.f5.f5.f1, .int .i64 a.f5.f5.f2, .int .i64 a.f5.f6.f0, .int .i64 a.f5.f6.f1, .int .i64 a.f5.f6.f2, .int .i64 a.f5.f6.f3, .int .i64 a.f5.f6.f4.f0, .int .i64 a.f5.f6.f4.f1, .int .i64 a.f5.f6.f4.f2, .int .i64 a.f5.f6.f5.f0, .int .i64 a.f5.f6.f5.f1, .int .i64 a.f5.f6.f5.f2, .int .i64 a.f5.f6.f6.f0, .int .i64 a.f5.f6.f6.f1, .int .i64 a.f5.f6.f7, .slice Z7 a.f5.f7.length Z7c, .slice Z8 a.f5.f8.length Z8c] _ (DealB.below DX.out HBX.out).kk DZ.out.kk).mono ?_
  rintro e wv15_ ⟨rfl, hb⟩
  refine ⟨_, rfl, ?_⟩
  have n0_ := Aside0.mk (below_step HB.out hb)
  have n1_ := Aside0.mk (blk_below BK1.out hb)
  have n2_ := Aside0.mk (blk_below BK2.out hb)
  have n3_ := Aside0.mk (blk_below BK3.out hb)
  have n4_ := Aside0.mk (blk_below BK4.out hb)
  have n5_ := Aside0.mk (below_step HBX.out hb)
  have n6_ := Aside0.mk (below_step HBY.out hb)
  clear HB BK1 BK2 BK3 BK4 HBX HBY
  have HB := n0_
  have BK1 := n1_
  have BK2 := n2_
  have BK3 := n3_
  have BK4 := n4_
  have HBX := n5_
  have HBY := n6_
  clear n0_ n1_ n2_ n3_ n4_ n5_ n6_
  clear hb
  refine hK.out _ _ ⟨BK1.out, BK2.out, BK3.out, BK4.out⟩ (fun hHeld => ?_)
  clear hK K
  refine norm_ (a' := ?_) ?_ ?_
  rotate_left
  · show Act.put _ (some 32) _ = _
    simp only [Act.put, List.setIfInBounds_toArray, List.set_cons_zero, List.set_cons_succ, i64_w, i32_w]
    rfl
  refine pure_ (i := 12) (N := some 33) (v := ?_) (a' := ?_) #[true, true, true, true, true, true, true, true, true, true, true, true, true, false, false, false, false, false, false, false, false, false, false, false, false, false, false, false, false, false] rfl rfl (by kernel_rfl) (fun _ _ _ h => h) (Or.inl ⟨by rfl, ?_⟩) ?_ ?_
  rotate_left
  · intro w'
    go_simp
    with_reducible rfl
  rotate_left
  · simp only [Act.put, List.setIfInBounds_toArray, List.set_cons_zero, List.set_cons_succ, i64_w, i32_w]
    rfl
  refine pure_ (i := 13) (N := some 34) (v := ?_) (a' := ?_) #[true, true, true, true, true, true, true, true, true, true, true, true, true, true, false, false, false, false, false, false, false, false, false, false, false, false, false, false, false, false] rfl rfl (by kernel_rfl) (fun _ _ _ h => h) (Or.inl ⟨by rfl, ?_⟩) ?_ ?_
  rotate_left
  · intro w'
    go_simp
    with_reducible rfl
  rotate_left
  · simp only [Act.put, List.setIfInBounds_toArray, List.set_cons_zero, List.set_cons_succ, i64_w, i32_w]
    rfl
  refine take_ (i := 14) (N := some 35) (v := ?_) (a' := ?_) #[true, true, true, true, true, true, true, true, true, true, true, true, true, true, true, false, false, false, false, false, false, false, false, false, false, false, false, false, false, false] rfl rfl (by kernel_rfl) (fun _ _ _ h => h) (Or.inl ⟨by rfl, ?_⟩) hHeld ?_ ?_
  rotate_left
  · rintro w' ⟨s1, s2, s3, s4⟩
    refine Eq.trans (ldb_run rfl (by first | rfl | (go_simp; done) | (go_simp; rfl)) Try.underlying36 ⟨_, rfl⟩ s2 30 size36' [.string b.f0, .int .i64 b.f1.f0, .int .i64 b.f1.f1, .int .i64 b.f1.f2, .slice B2 b.f2.length B2c, .slice B3 b.f3.length B3c, .slice B4 b.f4.length B4c, .int .i64 b.f5.f0, .string b.f5.f1, .string b.f5.f2, .string b.f5.f3, .int .i64 b.f5.f4, .int .i64 b.f5.f5.f0, .int .i64 b.f5.f5.f1, .int .i64 b.f5.f5.f2, .int .i64 b.f5.f6.f0, .int .i64 b.f5.f6.f1, .int .i64 b.f5.f6.f2, .int .i64 b.f5.f6.f3, .int .i64 b.f5.f6.f4.f0, .int .i64 b.f5.f6.f4.f1, .int .i64 b.f5.f6.f4.f2, .int .i64 b.f5.f6.f5.f0, .int .i64 b.f5.f6.f5.f1, .int .i64 b.f5.f6.f5.f2, .int .i64 b.f5.f6.f6.f0, .int .i64 b.f5.f6.f6.f1, .int .i64 b.f5.f6.f7, .slice B7 b.f5.f7.length B7c, .slice B8 b.f5.f8.length B8c] rfl rfl) ?_
    with_reducible rfl
  rotate_left
  · simp only [Act.put, List.setIfInBounds_toArray, List.set_cons_zero, List.set_cons_succ, i64_w, i32_w]
    rfl
  refine take_ (i := 16) (N := some 37) (v := ?_) (a' := ?_) #[true, true, true, true, true, true, true, true, true, true, true, true, true, true, true, false, true, false, false, false, false, false, false, false, false, false, false, false, false, false] rfl rfl (by kernel_rfl) (fun _ _ _ h => h) (Or.inl ⟨by rfl, ?_⟩) hHeld ?_ ?_
  rotate_left
  · rintro w' ⟨s1, s2, s3, s4⟩
    refine Eq.trans (ldb_run rfl (by first | rfl | (go_simp; done) | (go_simp; rfl)) Try.underlying36 ⟨_, rfl⟩ s4 30 size36' [.string b.f0, .int .i64 b.f1.f0, .int .i64 b.f1.f1, .int .i64 b.f1.f2, .slice Y2 b.f2.length Y2c, .slice Y3 b.f3.length Y3c, .slice Y4 b.f4.length Y4c, .int .i64 b.f5.f0, .string b.f5.f1, .string b.f5.f2, .string b.f5.f3, .int .i64 b.f5.f4, .int .i64 b.f5.f5.f0, .int .i64 b.f5.f5.f1, .int .i64 b.f5.f5.f2, .int .i64 b.f5.f6.f0, .int .i64 b.f5.f6.f1, .int .i64 b.f5.f6.f2, .int .i64 b.f5.f6.f3, .int .i64 b.f5.f6.f4.f0, .int .i64 b.f5.f6.f4.f1, .int .i64 b.f5.f6.f4.f2, .int .i64 b.f5.f6.f5.f0, .int .i64 b.f5.f6.f5.f1, .int .i64 b.f5.f6.f5.f2, .int .i64 b.f5.f6.f6.f0, .int .i64 b.f5.f6.f6.f1, .int .i64 b.f5.f6.f7, .slice Y7 b.f5.f7.length Y7c, .slice Y8 b.f5.f8.length Y8c] rfl rfl) ?_
    with_reducible rfl
  rotate_left
  · simp only [Act.put, List.setIfInBounds_toArray, List.set_cons_zero, List.set_cons_succ, i64_w, i32_w]
    rfl
  refine one_ (i := 15) (N := some 36) #[true, true, true, true, true, true, true, true, true, true, true, true, true, true, true, true, true, false, false, false, false, false, false, false, false, false, false, false, false, false] rfl rfl (by kernel_rfl) (by decide) (fun K hK => ?_)
  refine goes_ Try.func6 (by kernel_rfl) rfl #[.agg #[.string b.f0, .int .i64 b.f1.f0, .int .i64 b.f1.f1, .int .i64 b.f1.f2, .slice B2 b.f2.length B2c, .slice B3 b.f3.length B3c, .slice B4 b.f4.length B4c, .int .i64 b.f5.f0, .string b.f5.f1, .string b.f5.f2, .string b.f5.f3, .int .i64 b.f5.f4, .int .i64 b.f5.f5.f0, .int .i64 b.f5.f5.f1, .int .i64 b.f5.f5.f2, .int .i64 b.f5.f6.f0, .int .i64 b.f5.f6.f1, .int .i64 b.f5.f6.f2, .int .i64 b.f5.f6.f3, .int .i64 b.f5.f6.f4.f0, .int .i64 b.f5.f6.f4.f1, .int .i64 b.f5.f6.f4.f2, .int .i64 b.f5.f6.f5.f0, .int .i64 b.f5.f6.f5.f1, .int .i64 b.f5.f6.f5.f2, .int .i64 b.f5.f6.f6.f0, .int .i64 b.f5.f6.f6.f1, .int .i64 b.f5.f6.f7, .slice B7 b.f5.f7.length B7c, .slice B8 b.f5.f8.length B8c]] (by rfl) rfl rfl (by (try simp only [List.map_toArray, List.map_cons, List.map_nil]); first | done | rfl) ?_
  with_reducible refine (dealCopy b HWB.out [.string b.f0, .int .i64 b.f1.f0, .int .i64 b.f1.f1, .int .i64 b.f1.f2, .slice B2 b.f2.length B2c, .slice B3 b.f3.length B3c, .slice B4 b.f4.length B4c, .int .i64 b.f5.f0, .string b.f5.f1, .string b.f5.f2, .string b.f5.f3, .int .i64 b.f5.f4, .int .i64 b.f5.f5.f0, .int .i64 b.f5.f5.f1, .int .i64 b.f5.f5.f2, .int .i64 b.f5.f6.f0, .int .i64 b.f5.f6.f1, .int .i64 b.f5.f6.f2, .int .i64 b.f5.f6.f3, .int .i64 b.f5.f6.f4.f0, .int .i64 b.f5.f6.f4.f1, .int .i64 b.f5.f6.f4.f2, .int .i64 b.f5.f6.f5.f0, .int .i64 b.f5.f6.f5.f1, .int .i64 b.f5.f6.f5.f2, .int .i64 b.f5.f6.f6.f0, .int .i64 b.f5.f6.f6.f1, .int .i64 b.f5.f6.f7, .slice B7 b.f5.f7.length B7c, .slice B8 b.f5.f8.length B8c] _ (k36.K_below HB.out HKB.out)).mono ?_
  rintro e wv16_ ⟨V2, V2c, V3, V3c, V4, V4c, V7, V7c, V8, V8c, rfl, hD, hb⟩
  refine ⟨_, rfl, ?_⟩
  have n0_ := Aside0.mk (below_step HB.out hb)
  have n1_ := Aside0.mk (blk_below BK1.out hb)
  have n2_ := Aside0.mk (blk_below BK2.out hb)
  have n3_ := Aside0.mk (blk_below BK3.out hb)
  have n4_ := Aside0.mk (blk_below BK4.out hb)
  have n5_ := Aside0.mk (below_step HBX.out hb)
  have n6_ := Aside0.mk (below_step HBY.out hb)
  have n7_ := Aside0.mk (hD)
  clear HB BK1 BK2 BK3 BK4 HBX HBY
  have HB := n0_
  have BK1 := n1_
  have BK2 := n2_
  have BK3 := n3_
  have BK4 := n4_
  have HBX := n5_
  have HBY := n6_
  have DV := n7_
  clear n0_ n1_ n2_ n3_ n4_ n5_ n6_ n7_
  clear hb hD
  refine hK.out _ _ ⟨BK1.out, BK2.out, BK3.out, BK4.out⟩ (fun hHeld => ?_)
  clear hK K
  refine norm_ (a' := ?_) ?_ ?_
  rotate_left
  · show Act.put _ (some 36) _ = _
    simp only [Act.put, List.setIfInBounds_toArray, List.set_cons_zero, List.set_cons_succ, i64_w, i32_w]
    rfl
  refine one_ (i := 17) (N := some 38) #[true, true, true, true, true, true, true, true, true, true, true, true, true, true, true, true, true, true, false, false, false, false, false, false, false, false, false, false, false, false] rfl rfl (by kernel_rfl) (by decide) (fun K hK => ?_)
  refine goes_ Try.func7 (by kernel_rfl) rfl #[.agg #[.string b.f0, .int .i64 b.f1.f0, .int .i64 b.f1.f1, .int .i64 b.f1.f2, .slice V2 b.f2.length V2c, .slice V3 b.f3.length V3c, .slice V4 b.f4.length V4c, .int .i64 b.f5.f0, .string b.f5.f1, .string b.f5.f2, .string b.f5.f3, .int .i64 b.f5.f4, .int .i64 b.f5.f5.f0, .int .i64 b.f5.f5.f1, .int .i64 b.f5.f5.f2, .int .i64 b.f5.f6.f0, .int .i64 b.f5.f6.f1, .int .i64 b.f5.f6.f2, .int .i64 b.f5.f6.f3, .int .i64 b.f5.f6.f4.f0, .int .i64 b.f5.f6.f4.f1, .int .i64 b.f5.f6.f4.f2, .int .i64 b.f5.f6.f5.f0, .int .i64 b.f5.f6.f5.f1, .int .i64 b.f5.f6.f5.f2, .int .i64 b.f5.f6.f6.f0, .int .i64 b.f5.f6.f6.f1, .int .i64 b.f5.f6.f7, .slice V7 b.f5.f7.length V7c, .slice V8 b.f5.f8.length V8c], .agg #[.string b.f0, .int .i64 b.f1.f0, .int .i64 b.f1.f1, .int .i64 b.f1.f2, .slice Y2 b.f2.length Y2c, .slice Y3 b.f3.length Y3c, .slice Y4 b.f4.length Y4c, .int .i64 b.f5.f0, .string b.f5.f1, .string b.f5.f2, .string b.f5.f3, .int .i64 b.f5.f4, .int .i64 b.f5.f5.f0, .int .i64 b.f5.f5.f1, .int .i64 b.f5.f5.f2, .int .i64 b.f5.f6.f0, .int .i64 b.f5.f6.f1, .int .i64 b.f5.f6.f2, .int .i64 b.f5.f6.f3, .int .i64 b.f5.f6.f4.f0, .int .i64 b.f5.f6.f4.f1, .int .i64 b.f5.f6.f4.f2, .int .i64 b.f5.f6.f5.f0, .int .i64 b.f5.f6.f5.f1, .int .i64 b.f5.f6.f5.f2, .int .i64 b.f5.f6.f6.f0, .int .i64 b.f5.f6.f6.f1, .int .i64 b.f5.f6.f7, .slice Y7 b.f5.f7.length Y7c, .slice Y8 b.f5.f8.length Y8c]] (by rfl) rfl rfl (by (try simp only [List.map_toArray, List.map_cons, List.map_nil]); first | done | rfl) ?_
  with_reducible refine (EqOK.calls (tree_Equal.all b b) [.string b.f0, .int .i64 b.f1.f0, .int .i64 b.f1.f1, .int .i64 b.f1.f2, .slice V2 b.f2.length V2c, .slice V3 b.f3.length V3c, .slice V4 b.f4.length V4c, .int .i64 b.f5.f0, .string b.f5.f1, .string b.f5.f2, .string b.f5.f3, .int .i64 b.f5.f4, .int .i64 b.f5.f5.f0, .int .i64 b.f5.f5.f1, .int .i64 b.f5.f5.f2, .int .i64 b.f5.f6.f0, .int .i64 b.f5.f6.f1, .int .i64 b.f5.f6.f2, .int .i64 b.f5.f6.f3, .int .i64 b.f5.f6.f4.f0, .int .i64 b.f5.f6.f4.f1, .int .i64 b.f5.f6.f4.f2, .int .i64 b.f5.f6.f5.f0, .int .i64 b.f5.f6.f5.f1, .int .i64 b.f5.f6.f5.f2, .int .i64 b.f5.f6.f6.f0, .int .i64 b.f5.f6.f6.f1, .int .i64 b.f5.f6.f7, .slice V7 b.f5.f7.length V7c, .slice V8 b.f5.f8.length V8c] [.string b.f0, .int .i64 b.f1.f0, .int .i64 b.f1.f1, .int .i64 b.f1.f2, .slice Y2 b.f2.length Y2c, .slice Y3 b.f3.length Y3c, .slice Y4 b.f4.length Y4c, .int .i64 b.f5.f0, .string b.f5.f1, .string b.f5.f2, .string b.f5.f3, .int .i64 b.f5.f4, .int .i64 b.f5.f5.f0, .int .i64 b.f5.f5.f1, .int .i64 b.f5.f5.f2, .int .i64 b.f5.f6.f0, .int .i64 b.f5.f6.f1, .int .i64 b.f5.f6.f2, .int .i64 b.f5.f6.f3, .int .i64 b.f5.f6.f4.f0, .int .i64 b.f5.f6.f4.f1, .int .i64 b.f5.f6.f4.f2, .int .i64 b.f5.f6.f5.f0, .int .i64 b.f5.f6.f5.f1, .int .i64 b.f5.f6.f5.f2, .int .i64 b.f5.f6.f6.f0, .int .i64 b.f5.f6.f6.f1, .int .i64 b.f5.f6.f7, .slice Y7 b.f5.f7.length Y7c, .slice Y8 b.f5.f8.length Y8c] _ DV.out.kk (DealB.below DY.out HBY.out).kk).mono ?_
  rintro e wv17_ ⟨rfl, hb⟩
  refine ⟨_, rfl, ?_⟩
  have n0_ := Aside0.mk (below_step HB.out hb)
  have n1_ := Aside0.mk (blk_below BK1.out hb)
  have n2_ := Aside0.mk (blk_below BK2.out hb)
  have n3_ := Aside0.mk (blk_below BK3.out hb)
  have n4_ := Aside0.mk (blk_below BK4.out hb)
  have n5_ := Aside0.mk (below_step HBX.out hb)
  have n6_ := Aside0.mk (below_step HBY.out hb)
  clear HB BK1 BK2 BK3 BK4 HBX HBY
  have HB := n0_
  have BK1 := n1_
  have BK2 := n2_
  have BK3 := n3_
  have BK4 := n4_
  have HBX := n5_
  have HBY := n6_
  clear n0_ n1_ n2_ n3_ n4_ n5_ n6_
  clear hb
  refine hK.out _ _ ⟨BK1.out, BK2.out, BK3.out, BK4.out⟩ (fun hHeld => ?_)
  clear hK K
  refine norm_ (a' := ?_) ?_ ?_
  rotate_left
  · show Act.put _ (some 38) _ = _
    simp only [Act.put, List.setIfInBounds_toArray, List.set_cons_zero, List.set_cons_succ, i64_w, i32_w]
    rfl
  refine pure_ (i := 18) (N := some 39) (v := ?_) (a' := ?_) #[true, true, true, true, true, true, true, true, true, true, true, true, true, true, true, true, true, true, true, false, false, false, false, false, false, false, false, false, false, false] rfl rfl (by kernel_rfl) (fun _ _ _ h => h) (Or.inl ⟨by rfl, ?_⟩) ?_ ?_
  rotate_left
  · intro w'
    go_simp
    with_reducible rfl
  rotate_left
  · simp only [Act.put, List.setIfInBounds_toArray, List.set_cons_zero, List.set_cons_succ, i64_w, i32_w]
    rfl
  refine pure_ (i := 19) (N := some 40) (v := ?_) (a' := ?_) #[true, true, true, true, true, true, true, true, true, true, true, true, true, true, true, true, true, true, true, true, false, false, false, false, false, false, false, false, false, false] rfl rfl (by kernel_rfl) (fun _ _ _ h => h) (Or.inl ⟨by rfl, ?_⟩) ?_ ?_
  rotate_left
  · intro w'
    go_simp
    with_reducible rfl
  rotate_left
  · simp only [Act.put, List.setIfInBounds_toArray, List.set_cons_zero, List.set_cons_succ, i64_w, i32_w]
    rfl
  refine take_ (i := 20) (N := some 41) (v := ?_) (a' := ?_) #[true, true, true, true, true, true, true, true, true, true, true, true, true, true, true, true, true, true, true, true, true, false, false, false, false, false, false, false, false, false] rfl rfl (by kernel_rfl) (fun _ _ _ h => h) (Or.inl ⟨by rfl, ?_⟩) hHeld ?_ ?_
  rotate_left
  · rintro w' ⟨s1, s2, s3, s4⟩
    refine Eq.trans (ldb_run rfl (by first | rfl | (go_simp; done) | (go_simp; rfl)) Try.underlying36 ⟨_, rfl⟩ s3 30 size36' [.string a.f0, .int .i64 a.f1.f0, .int .i64 a.f1.f1, .int .i64 a.f1.f2, .slice X2 a.f2.length X2c, .slice X3 a.f3.length X3c, .slice X4 a.f4.length X4c, .int .i64 a.f5.f0, .string a.f5.f1, .string a.f5.f2, .string a.f5.f3, .int .i64 a.f5.f4, .int .i64 a.f5.f5.f0, .int .i64 a.f5.f5.f1, .int .i64 a.f5.f5.f2, .int .i64 a.f5.f6.f0, .int .i64 a.f5.f6.f1, .int .i64 a.f5.f6.f2, .int .i64 a.f5.f6.f3, .int .i64 a.f5.f6.f4.f0, .int .i64 a.f5.f6.f4.f1, .int .i64 a.f5.f6.f4.f2, .int .i64 a.f5.f6.f5.f0, .int .i64 a.f5.f6.f5.f1, .int .i64 a.f5.f6.f5.f2, .int .i64 a.f5.f6.f6.f0, .int .i64 a.f5.f6.f6.f1, .int .i64 a.f5.f6.f7, .slice X7 a.f5.f7.length X7c, .slice X8 a.f5.f8.length X8c] rfl rfl) ?_
    with_reducible rfl
  rotate_left
  · simp only [Act.put, List.setIfInBounds_toArray, List.set_cons_zero, List.set_cons_succ, i64_w, i32_w]
    rfl
  refine take_ (i := 21) (N := some 42) (v := ?_) (a' := ?_) #[true, true, true, true, true, true, true, true, true, true, true, true, true, true, true, true, true, true, true, true, true, true, false, false, false, false, false, false, false, false] rfl rfl (by kernel_rfl) (fun _ _ _ h => h) (Or.inl ⟨by rfl, ?_⟩) hHeld ?_ ?_
  rotate_left
  · rintro w' ⟨s1, s2, s3, s4⟩
    refine Eq.trans (ldb_run rfl (by first | rfl | (go_simp; done) | (go_simp; rfl)) Try.underlying36 ⟨_, rfl⟩ s1 30 size36' [.string a.f0, .int .i64 a.f1.f0, .int .i64 a.f1.f1, .int .i64 a.f1.f2, .slice A2 a.f2.length A2c, .slice A3 a.f3.length A3c, .slice A4 a.f4.length A4c, .int .i64 a.f5.f0, .string a.f5.f1, .string a.f5.f2, .string a.f5.f3, .int .i64 a.f5.f4, .int .i64 a.f5.f5.f0, .int .i64 a.f5.f5.f1, .int .i64 a.f5.f5.f2, .int .i64 a.f5.f6.f0, .int .i64 a.f5.f6.f1, .int .i64 a.f5.f6.f2, .int .i64 a.f5.f6.f3, .int .i64 a.f5.f6.f4.f0, .int .i64 a.f5.f6.f4.f1, .int .i64 a.f5.f6.f4.f2, .int .i64 a.f5.f6.f5.f0, .int .i64 a.f5.f6.f5.f1, .int .i64 a.f5.f6.f5.f2, .int .i64 a.f5.f6.f6.f0, .int .i64 a.f5.f6.f6.f1, .int .i64 a.f5.f6.f7, .slice A7 a.f5.f7.length A7c, .slice A8 a.f5.f8.length A8c] rfl rfl) ?_
    with_reducible rfl
  rotate_left
  · simp only [Act.put, List.setIfInBounds_toArray, List.set_cons_zero, List.set_cons_succ, i64_w, i32_w]
    rfl
  refine one_ (i := 22) (N := some 43) #[true, true, true, true, true, true, true, true, true, true, true, true, true, true, true, true, true, true, true, true, true, true, true, false, false, false, false, false, false, false] rfl rfl (by kernel_rfl) (by decide) (fun K hK => ?_)
  refine goes_ Try.func9 (by kernel_rfl) rfl #[.agg #[.string a.f0, .int .i64 a.f1.f0, .int .i64 a.f1.f1, .int .i64 a.f1.f2, .slice X2 a.f2.length X2c, .slice X3 a.f3.length X3c, .slice X4 a.f4.length X4c, .int .i64 a.f5.f0, .string a.f5.f1, .string a.f5.f2, .string a.f5.f3, .int .i64 a.f5.f4, .int .i64 a.f5.f5.f0, .int .i64 a.f5.f5.f1, .int .i64 a.f5.f5.f2, .int .i64 a.f5.f6.f0, .int .i64 a.f5.f6.f1, .int .i64 a.f5.f6.f2, .int .i64 a.f5.f6.f3, .int .i64 a.f5.f6.f4.f0, .int .i64 a.f5.f6.f4.f1, .int .i64 a.f5.f6.f4.f2, .int .i64 a.f5.f6.f5.f0, .int .i64 a.f5.f6.f5.f1, .int .i64 a.f5.f6.f5.f2, .int .i64 a.f5.f6.f6.f0, .int .i64 a.f5.f6.f6.f1, .int .i64 a.f5.f6.f7, .slice X7 a.f5.f7.length X7c, .slice X8 a.f5.f8.length X8c], .agg #[.string a.f0, .int .i64 a.f1.f0, .int .i64 a.f1.f1, .int .i64 a.f1.f2, .slice A2 a.f2.length A2c, .slice A3 a.f3.length A3c, .slice A4 a.f4.length A4c, .int .i64 a.f5.f0, .string a.f5.f1, .string a.f5.f2, .string a.f5.f3, .int .i64 a.f5.f4, .int .i64 a.f5.f5.f0, .int .i64 a.f5.f5.f1, .int .i64 a.f5.f5.f2, .int .i64 a.f5.f6.f0, .int .i64 a.f5.f6.f1, .int .i64 a.f5.f6.f2, .int .i64 a.f5.f6.f3, .int .i64 a.f5.f6.f4.f0, .int .i64 a.f5.f6.f4.f1, .int .i64 a.f5.f6.f4.f2, .int .i64 a.f5.f6.f5.f0, .int .i64 a.f5.f6.f5.f1, .int .i64 a.f5.f6.f5.f2, .int .i64 a.f5.f6.f6.f0, .int .i64 a.f5.f6.f6.f1, .int .i64 a.f5.f6.f7, .slice A7 a.f5.f7.length A7c, .slice A8 a.f5.f8.length A8c]] (by rfl) rfl rfl (by (try simp only [List.map_toArray, List.map_cons, List.map_nil]); first | done | rfl) ?_
  with_reducible refine (intact.of a (fun q hq => S56.wf2 (HWA.out.w4s q hq)) HWA.out.w5 X2 X2c X3 X3c X4 X4c X7 X7c X8 X8c A2 A2c A3 A3c A4 A4c A7 A7c A8 A8c _ (DealB.below DX.out HBX.out).k2 (DealB.below DX.out HBX.out).k3 (DealB.below DX.out HBX.out).k4 (DealB.below DX.out HBX.out).k5 (DealB.below DX.out HBX.out).kk (k36.K_below HB.out HKA.out)).mono ?_
  rintro e wv18_ ⟨rfl, hb⟩
  refine ⟨_, rfl, ?_⟩
  have n0_ := Aside0.mk (below_step HB.out hb)
  have n1_ := Aside0.mk (blk_below BK1.out hb)
  have n2_ := Aside0.mk (blk_below BK2.out hb)
  have n3_ := Aside0.mk (blk_below BK3.out hb)
  have n4_ := Aside0.mk (blk_below BK4.out hb)
  have n5_ := Aside0.mk (below_step HBX.out hb)
  have n6_ := Aside0.mk (below_step HBY.out hb)
  clear HB BK1 BK2 BK3 BK4 HBX HBY
  have HB := n0_
  have BK1 := n1_
  have BK2 := n2_
  have BK3 := n3_
  have BK4 := n4_
  have HBX := n5_
  have HBY := n6_
  clear n0_ n1_ n2_ n3_ n4_ n5_ n6_
  clear hb
  refine hK.out _ _ ⟨BK1.out, BK2.out, BK3.out, BK4.out⟩ (fun hHeld => ?_)
  clear hK K
  refine norm_ (a' := ?_) ?_ ?_
  rotate_left
  · show Act.put _ (some 43) _ = _
    simp only [Act.put, List.setIfInBounds_toArray, List.set_cons_zero, List.set_cons_succ, i64_w, i32_w]
    rfl
  refine pure_ (i := 23) (N := some 44) (v := ?_) (a' := ?_) #[true, true, true, true, true, true, true, true, true, true, true, true, true, true, true, true, true, true, true, true, true, true, true, true, false, false, false, false, false, false] rfl rfl (by kernel_rfl) (fun _ _ _ h => h) (Or.inl ⟨by rfl, ?_⟩) ?_ ?_
  rotate_left
  · intro w'
    go_simp
    with_reducible rfl
  rotate_left
  · simp only [Act.put, List.setIfInBounds_toArray, List.set_cons_zero, List.set_cons_succ, i64_w, i32_w]
    rfl
  refine pure_ (i := 24) (N := some 45) (v := ?_) (a' := ?_) #[true, true, true, true, true, true, true, true, true, true, true, true, true, true, true, true, true, true, true, true, true, true, true, true, true, false, false, false, false, false] rfl rfl (by kernel_rfl) (fun _ _ _ h => h) (Or.inl ⟨by rfl, ?_⟩) ?_ ?_
  rotate_left
  · intro w'
    go_simp
    with_reducible rfl
  rotate_left
  · simp only [Act.put, List.setIfInBounds_toArray, List.set_cons_zero, List.set_cons_succ, i64_w, i32_w]
    rfl
  refine take_ (i := 25) (N := some 46) (v := ?_) (a' := ?_) #[true, true, true, true, true, true, true, true, true, true, true, true, true, true, true, true, true, true, true, true, true, true, true, true, true, true, false, false, false, false] rfl rfl (by kernel_rfl) (fun _ _ _ h => h) (Or.inl ⟨by rfl, ?_⟩) hHeld ?_ ?_
  rotate_left
  · rintro w' ⟨s1, s2, s3, s4⟩
    refine Eq.trans (ldb_run rfl (by first | rfl | (go_simp; done) | (go_simp; rfl)) Try.underlying36 ⟨_, rfl⟩ s4 30 size36' [.string b.f0, .int .i64 b.f1.f0, .int .i64 b.f1.f1, .int .i64 b.f1.f2, .slice Y2 b.f2.length Y2c, .slice Y3 b.f3.length Y3c, .slice Y4 b.f4.length Y4c, .int .i64 b.f5.f0, .string b.f5.f1, .string b.f5.f2, .string b.f5.f3, .int .i64 b.f5.f4, .int .i64 b.f5.f5.f0, .int .i64 b.f5.f5.f1, .int .i64 b.f5.f5.f2, .int .i64 b.f5.f6.f0, .int .i64 b.f5.f6.f1, .int .i64 b.f5.f6.f2, .int .i64 b.f5.f6.f3, .int .i64 b.f5.f6.f4.f0, .int .i64 b.f5.f6.f4.f1, .int .i64 b.f5.f6.f4.f2, .int .i64 b.f5.f6.f5.f0, .int .i64 b.f5.f6.f5.f1, .int .i64 b.f5.f6.f5.f2, .int .i64 b.f5.f6.f6.f0, .int .i64 b.f5.f6.f6.f1, .int .i64 b.f5.f6.f7, .slice Y7 b.f5.f7.length Y7c, .slice Y8 b.f5.f8.length Y8c] rfl rfl) ?_
    with_reducible rfl
  rotate_left
  · simp only [Act.put, List.setIfInBounds_toArray, List.set_cons_zero, List.set_cons_succ, i64_w, i32_w]
    rfl
  refine take_ (i := 26) (N := some 47) (v := ?_) (a' := ?_) #[true, true, true, true, true, true, true, true, true, true, true, true, true, true, true, true, true, true, true, true, true, true, true, true, true, true, true, false, false, false] rfl rfl (by kernel_rfl) (fun _ _ _ h => h) (Or.inl ⟨by rfl, ?_⟩) hHeld ?_ ?_
  rotate_left
  · rintro w' ⟨s1, s2, s3, s4⟩
    refine Eq.trans (ldb_run rfl (by first | rfl | (go_simp; done) | (go_simp; rfl)) Try.underlying36 ⟨_, rfl⟩ s2 30 size36' [.string b.f0, .int .i64 b.f1.f0, .int .i64 b.f1.f1, .int .i64 b.f1.f2, .slice B2 b.f2.length B2c, .slice B3 b.f3.length B3c, .slice B4 b.f4.length B4c, .int .i64 b.f5.f0, .string b.f5.f1, .string b.f5.f2, .string b.f5.f3, .int .i64 b.f5.f4, .int .i64 b.f5.f5.f0, .int .i64 b.f5.f5.f1, .int .i64 b.f5.f5.f2, .int .i64 b.f5.f6.f0, .int .i64 b.f5.f6.f1, .int .i64 b.f5.f6.f2, .int .i64 b.f5.f6.f3, .int .i64 b.f5.f6.f4.f0, .int .i64 b.f5.f6.f4.f1, .int .i64 b.f5.f6.f4.f2, .int .i64 b.f5.f6.f5.f0, .int .i64 b.f5.f6.f5.f1, .int .i64 b.f5.f6.f5.f2, .int .i64 b.f5.f6.f6.f0, .int .i64 b.f5.f6.f6.f1, .int .i64 b.f5.f6.f7, .slice B7 b.f5.f7.length B7c, .slice B8 b.f5.f8.length B8c] rfl rfl) ?_
    with_reducible rfl
  rotate_left
  · simp only [Act.put, List.setIfInBounds_toArray, List.set_cons_zero, List.set_cons_succ, i64_w, i32_w]
    rfl
  refine one_ (i := 27) (N := some 48) #[true, true, true, true, true, true, true, true, true, true, true, true, true, true, true, true, true, true, true, true, true, true, true, true, true, true, true, true, false, false] rfl rfl (by kernel_rfl) (by decide) (fun K hK => ?_)
  refine goes_ Try.func9 (by kernel_rfl) rfl #[.agg #[.string b.f0, .int .i64 b.f1.f0, .int .i64 b.f1.f1, .int .i64 b.f1.f2, .slice Y2 b.f2.length Y2c, .slice Y3 b.f3.length Y3c, .slice Y4 b.f4.length Y4c, .int .i64 b.f5.f0, .string b.f5.f1, .string b.f5.f2, .string b.f5.f3, .int .i64 b.f5.f4, .int .i64 b.f5.f5.f0, .int .i64 b.f5.f5.f1, .int .i64 b.f5.f5.f2, .int .i64 b.f5.f6.f0, .int .i64 b.f5.f6.f1, .int .i64 b.f5.f6.f2, .int .i64 b.f5.f6.f3, .int .i64 b.f5.f6.f4.f0, .int .i64 b.f5.f6.f4.f1, .int .i64 b.f5.f6.f4.f2, .int .i64 b.f5.f6.f5.f0, .int .i64 b.f5.f6.f5.f1, .int .i64 b.f5.f6.f5.f2, .int .i64 b.f5.f6.f6.f0, .int .i64 b.f5.f6.f6.f1, .int .i64 b.f5.f6.f7, .slice Y7 b.f5.f7.length Y7c, .slice Y8 b.f5.f8.length Y8c], .agg #[.string b.f0, .int .i64 b.f1.f0, .int .i64 b.f1.f1, .int .i64 b.f1.f2, .slice B2 b.f2.length B2c, .slice B3 b.f3.length B3c, .slice B4 b.f4.length B4c, .int .i64 b.f5.f0, .string b.f5.f1, .string b.f5.f2, .string b.f5.f3, .int .i64 b.f5.f4, .int .i64 b.f5.f5.f0, .int .i64 b.f5.f5.f1, .int .i64 b.f5.f5.f2, .int .i64 b.f5.f6.f0, .int .i64 b.f5.f6.f1, .int .i64 b.f5.f6.f2, .int .i64 b.f5.f6.f3, .int .i64 b.f5.f6.f4.f0, .int .i64 b.f5.f6.f4.f1, .int .i64 b.f5.f6.f4.f2, .int .i64 b.f5.f6.f5.f0, .int .i64 b.f5.f6.f5.f1, .int .i64 b.f5.f6.f5.f2, .int .i64 b.f5.f6.f6.f0, .int .i64 b.f5.f6.f6.f1, .int .i64 b.f5.f6.f7, .slice B7 b.f5.f7.length B7c, .slice B8 b.f5.f8.length B8c]] (by rfl) rfl rfl (by (try simp only [List.map_toArray, List.map_cons, List.map_nil]); first | done | rfl) ?_
  with_reducible refine (intact.of b (fun q hq => S56.wf2 (HWB.out.w4s q hq)) HWB.out.w5 Y2 Y2c Y3 Y3c Y4 Y4c Y7 Y7c Y8 Y8c B2 B2c B3 B3c B4 B4c B7 B7c B8 B8c _ (DealB.below DY.out HBY.out).k2 (DealB.below DY.out HBY.out).k3 (DealB.below DY.out HBY.out).k4 (DealB.below DY.out HBY.out).k5 (DealB.below DY.out HBY.out).kk (k36.K_below HB.out HKB.out)).mono ?_
  rintro e wv19_ ⟨rfl, hb⟩
  refine ⟨_, rfl, ?_⟩
  have n0_ := Aside0.mk (below_step HB.out hb)
  have n1_ := Aside0.mk (blk_below BK1.out hb)
  have n2_ := Aside0.mk (blk_below BK2.out hb)
  have n3_ := Aside0.mk (blk_below BK3.out hb)
  have n4_ := Aside0.mk (blk_below BK4.out hb)
  have n5_ := Aside0.mk (below_step HBX.out hb)
  have n6_ := Aside0.mk (below_step HBY.out hb)
  clear HB BK1 BK2 BK3 BK4 HBX HBY
  have HB := n0_
  have BK1 := n1_
  have BK2 := n2_
  have BK3 := n3_
  have BK4 := n4_
  have HBX := n5_
  have HBY := n6_
  clear n0_ n1_ n2_ n3_ n4_ n5_ n6_
  clear hb
  refine hK.out _ _ ⟨BK1.out, BK2.out, BK3.out, BK4.out⟩ (fun hHeld => ?_)
  clear hK K
  refine norm_ (a' := ?_) ?_ ?_
  rotate_left
  · show Act.put _ (some 48) _ = _
    simp only [Act.put, List.setIfInBounds_toArray, List.set_cons_zero, List.set_cons_succ, i64_w, i32_w]
    rfl
  refine pure_ (i := 28) (N := some 49) (v := ?_) (a' := ?_) #[true, true, true, true, true, true, true, true, true, true, true, true, true, true, true, true, true, true, true, true, true, true, true, true, true, true, true, true, true, false] rfl rfl (by kernel_rfl) (fun _ _ _ h => h) (Or.inl ⟨by rfl, ?_⟩) ?_ ?_
  rotate_left
  · intro w'
    go_simp
    with_reducible rfl
  rotate_left
  · simp only [Act.put, List.setIfInBounds_toArray, List.set_cons_zero, List.set_cons_succ, i64_w, i32_w]
    rfl
  refine pure_ (i := 29) (N := some 4) (v := ?_) (a' := ?_) #[true, true, true, true, true, true, true, true, true, true, true, true, true, true, true, true, true, true, true, true, true, true, true, true, true, true, true, true, true, true] rfl rfl (by kernel_rfl) (fun _ _ _ h => h) (Or.inl ⟨by rfl, ?_⟩) ?_ ?_
  rotate_left
  · intro w'
    go_simp
    with_reducible rfl
  rotate_left
  · simp only [Act.put, List.setIfInBounds_toArray, List.set_cons_zero, List.set_cons_succ, i64_w, i32_w]
    rfl
  refine done_ (by kernel_rfl) ?_
  go_wp2
  go_ret
  exact ⟨rfl, HB.out⟩
end Go.Proofs.Ytkfbkjcdngipcaa.PTreeEquals
