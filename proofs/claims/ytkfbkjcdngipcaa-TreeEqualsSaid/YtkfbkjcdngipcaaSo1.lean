import Derived.Test.YtkfbkjcdngipcaaKinC
import Derived.Test.YtkfbkjcdngipcaaEqP
namespace Go.Proofs.Ytkfbkjcdngipcaa.PTreeEquals
open Go.RowKit Go.Proofs.YtkfbkjcdngipcaaW.PrintWords Go.Proofs.YtkfbkjcdngipcaaW.PrintLast Go.Proofs.YtkfbkjcdngipcaaW.PrintMore
attribute [local go_sem] nil24 nil25 nil26 nil31 nil32 nnil24 nnil25 nnil26 nnil31 nnil32 max2_int min2_int max_two min_two max_three min_three max_four min_four
set_option linter.unusedVariables false
set_option linter.unusedSimpArgs false
def SndL (l : List S54) : Prop := ∀ (A : Option Addr) (c : Nat) (w : World), (Kd.sliceB 54 k54B b54).K w l [.slice A l.length c] → Calls Try.prog 38 #[.slice A l.length c] w fun e w' => e = .returned (.bool true) ∧ Below w.heap.size w w'
theorem SndL.calls {l : List S54} (h : SndL l) (A : Option Addr) (c : Nat) (w : World) (hk : (Kd.sliceB 54 k54B b54).K w l [.slice A l.length c]) : Calls Try.prog 38 #[.slice A l.length c] w fun e w' => e = .returned (.bool true) ∧ Below w.heap.size w w' := h A c w hk
def SndE (x : S54) : Prop := ∀ (cs : List Value) (w : World), k54B.K w x cs → Calls Try.prog 31 #[.agg cs.toArray] w fun e w' => e = .returned (.bool true) ∧ Below w.heap.size w w'
theorem SndE.calls {x : S54} (h : SndE x) (cs : List Value) (w : World) (hk : k54B.K w x cs) : Calls Try.prog 31 #[.agg cs.toArray] w fun e w' => e = .returned (.bool true) ∧ Below w.heap.size w w' := h cs w hk
theorem getD_app {α : Type} (z m : α) (l : List α) : (l ++ [m]).getD l.length z = m := by simp [List.getD_eq_getElem?_getD]
/-- The mark behind a list's end. -/
theorem mark_cells {α : Type} {d : Kd α} {z0 z : α} {l : List α} {ad : Addr} {w : World} (h : d.C w (some ad) (l.length + 1) (l ++ [z])) : ∃ cs, d.K w z cs ∧ ∀ j u, cs[j]? = some u → w.cell? (ad.add (l.length * d.sz + j)) = some u := by
  obtain ⟨ad1, cs, e, _, hK, hc⟩ := Kd.C_get h z (l.length : Int) (by omega) (by omega)
  injection e with e
  subst e
  rw [Int.toNat_natCast, getD_app] at hK
  rw [Int.toNat_natCast] at hc
  exact ⟨cs, hK, hc⟩
set_option maxHeartbeats 8000000 in
set_option maxRecDepth 100000 in
theorem soundExprs.of (l : List S54) (hs : ∀ x ∈ l, SndE x) : SndL l := by
  intro A c w hk
  have hu54 := Try.underlying54
  have HS := Aside0.mk hs
  clear hs
  have HB := Aside0.mk (Below.refl w.heap.size w)
  obtain ⟨A', c', e_, hl, hr, hd⟩ := Kd.sB_read hk
  injection e_ with e1 e2 e3
  subst e1 e3
  clear e2 hk
  rcases hd with ⟨rfl, rfl⟩ | ⟨ad, rfl, hlc, hm⟩
  · clear hr
    go_enter Try.func38, Try.ntmps38
    go_wp2
    go_ret
    exact ⟨rfl, HB.out⟩
  obtain ⟨cm, hKm, hcm⟩ := mark_cells (z0 := z54) hm
  obtain ⟨m3, m4, rfl, _, _⟩ := k54B_open hKm
  have hx0 : w.cell? (ad.add (l.length * 5)) = some (.int .i64 (-5)) := hcm 0 _ rfl
  have hmx := Kd.C_max hr
  have HMX := Aside0.mk (Kd.C_max hm)
  have HR := Aside0.mk hr
  have HLC := Aside0.mk hlc
  clear hr hlc hm hKm hcm hl
  have hw_ : wrap64 ((l.length : Int) + 1) = (l.length : Int) + 1 := by (have := HMX.out; unfold wrap64; omega)
  have p_ : (0 ≤ (l.length : Int)) = True := eq_true (by omega)
  have q_ : ((l.length : Int) < (l.length : Int) + 1) = True := eq_true (by omega)
  have q2_ : ((l.length : Int) < ((l.length + 1 : Nat) : Int)) = True := eq_true (by omega)
  go_enter Try.func38, Try.ntmps38
  go_upto_region 6 with (((with_reducible refine gate_dst (N := 12) rfl ?_); refine Kd.cut_event rfl 31 54 (.tmp 8) (.tmp 11) rfl Try.underlying31 (by kernel_rfl) ((some ad)) (_) (c) (l.length + 1) rfl (by first | rfl | (go_simp; done) | (go_simp; rfl)) (by have := HLC.out; omega) ?_))
  clear hx0 p_ q_ q2_ hw_
  go_wp2
  go_loopg [4] l.length (fun kq v4 w' => ∃ (i_ : Int), v4 = .int .i64 i_ ∧ Aside0 (0 ≤ i_ ∧ i_ + (kq : Int) = (l.length : Int)) ∧ Aside0 (Below w.heap.size w w'))
  case atStart => exact ⟨0, rfl, ⟨by omega, by omega⟩, HB⟩
  case round =>
    clear HB
    obtain ⟨i_, rfl, HQ, HB⟩ := hrel
    by_cases c_ : i_ < (l.length : Int)
    · have cb : decide (i_ < (l.length : Int)) = true := decide_eq_true c_
      have p_ : 0 ≤ i_ := HQ.out.1
      obtain ⟨ad1, cv1_, e_, _, hK1, hc1_⟩ := Kd.C_get HR.out z54 i_ p_ c_
      injection e_ with e_
      subst e_
      have HCS1 := Aside0.mk (show CSat w (ad.add (i_.toNat * 5)) cv1_ from fun j v hj => by rw [World_add_add]; exact hc1_ j v hj)
      have SZ1 := Aside0.mk (show (Try.prog.info? 54).map (fun i => i.size) = some cv1_.length by rw [Kd.K_len _ hK1]; exact size54)
      have hM1 := mem_getD z54 p_ c_
      obtain ⟨x_, hx_⟩ : ∃ q, q = l.getD i_.toNat z54 := ⟨_, rfl⟩
      rw [← hx_] at hK1 hM1
      clear hx_
      have HK1 := Aside0.mk hK1
      have HM1 := Aside0.mk hM1
      clear hK1 hc1_ hM1
      have HC_ := Aside0.mk c_
      replace p_ := eq_true p_
      replace c_ := eq_true c_
      go_wp2_with (first | ((with_reducible refine gate_dst (N := 29) rfl ?_); refine load_event (t := 54) (p := .tmp 28) (ad := ad.add (i_.toNat * 5)) rfl rfl (by first | rfl | (go_simp; done) | (go_simp; rfl)) Try.underlying54 ⟨_, rfl⟩ cv1_ (SZ1.out) (CSat.below HCS1.out HB.out) ?_) | ((with_reducible refine gate_callee (f := 31) rfl ?_); (try (refine gate_guard (by rfl) ?_; dsimp only)); refine goesL_ (some 30) rfl rfl Try.func31 (by kernel_rfl) rfl #[.agg cv1_.toArray] rfl (by (try simp only [List.map_toArray, List.map_cons, List.map_nil]); first | done | rfl) ?_; (with_reducible refine (SndE.calls (HS.out _ HM1.out) cv1_ _ (Kd.K_below _ HB.out HK1.out)).mono ?_); rintro e wv1_ ⟨rfl, hb⟩; refine ⟨_, rfl, ?_⟩; have n0_ := Aside0.mk (below_step HB.out hb); clear HB; have HB := n0_; clear n0_; clear hb))
      go_roundg (gk - 1)
      case measure => have := HQ.out; have := HC_.out; omega
      case rel => exact ⟨i_ + 1, by rw [show wrap64 (i_ + 1) = i_ + 1 from by have := HQ.out; have := HC_.out; unfold wrap64; omega], ⟨by have := HQ.out; have := HC_.out; omega⟩, HB⟩
    · have cb : decide (i_ < (l.length : Int)) = false := decide_eq_false c_
      clear c_
      go_wp2
      go_ret
      exact ⟨rfl, HB.out⟩
set_option maxHeartbeats 8000000 in
set_option maxRecDepth 100000 in
theorem sound.of (x : S54) (hkl : SndL x.f4) : SndE x := by
  intro cs w hk
  have hu54 := Try.underlying54
  have hu23 := Try.underlying23
  have HKL := Aside0.mk hkl
  have HB := Aside0.mk (Below.refl w.heap.size w)
  obtain ⟨v3, v4, rfl, h3, h4⟩ := k54B_open hk
  obtain ⟨A4, c4, rfl, _, _, _⟩ := Kd.sB_read h4
  obtain ⟨A3, c3, rfl, hl, hr, hd⟩ := Kd.sB_read h3
  have H4 := Aside0.mk h4
  clear h3 h4 hk
  rcases hd with ⟨rfl, hx0⟩ | ⟨ad, rfl, hlc, hm⟩
  · rw [hx0]
    clear hr hl hx0
    go_enter Try.func31, Try.ntmps31
    go_wp2_with (first | ((with_reducible refine gate_dst (N := 1) rfl ?_); (try (refine gate_guard (by rfl) ?_; dsimp only)); refine box_event ?hg (N := 1) ?hd (cs := #[.int .i64 x.f0, .int .i64 x.f1, .string x.f2, .slice none ([] : List S23).length c3, .slice A4 x.f4.length c4]) (t := 54) ?hr ?_; (case hd => rfl); (case hg => rfl); (case hr => first | (go_simp; done) | (go_simp; rfl)); intro g1 hg wv1_ hbox hb; have n0_ := Aside0.mk (below_step HB.out hb); have n1_ := Aside0.mk (hbox); have n2_ := Aside0.mk ((show w.heap.size ≤ g1 by rw [hg]; exact below_size HB.out)); clear HB; have HB := n0_; have BK1 := n1_; have ORD := n2_; clear n0_ n1_ n2_; clear hb hbox hg) | ((with_reducible refine gate_dst (N := 5) rfl ?_); (try (refine gate_guard (by rfl) ?_; dsimp only)); refine ld_event rfl rfl (by first | rfl | (go_simp; done) | (go_simp; rfl)) Try.underlying24 trivial (.slice none ([] : List S23).length c3) ((blk_cell BK1.out 3).trans rfl) ?_) | ((with_reducible refine gate_dst (N := 23) rfl ?_); (try (refine gate_guard (by rfl) ?_; dsimp only)); refine ld_event rfl rfl (by first | rfl | (go_simp; done) | (go_simp; rfl)) Try.underlying31 trivial (.slice A4 x.f4.length c4) ((blk_cell BK1.out 4).trans rfl) ?_) | ((with_reducible refine gate_callee (f := 38) rfl ?_); (try (refine gate_guard (by rfl) ?_; dsimp only)); refine goesL_ (some 24) rfl rfl Try.func38 (by kernel_rfl) rfl #[.slice A4 x.f4.length c4] rfl (by (try simp only [List.map_toArray, List.map_cons, List.map_nil]); first | done | rfl) ?_; (with_reducible refine (SndL.calls HKL.out A4 c4 _ (Kd.K_below _ HB.out H4.out)).mono ?_); rintro e wv2_ ⟨rfl, hb⟩; refine ⟨_, rfl, ?_⟩; have n0_ := Aside0.mk (below_step HB.out hb); have n1_ := Aside0.mk (blk_below BK1.out hb); clear HB BK1; have HB := n0_; have BK1 := n1_; clear n0_ n1_; clear hb))
    go_ret
    exact ⟨rfl, HB.out⟩
  obtain ⟨cm, hKm, hcm⟩ := mark_cells (z0 := z23) hm
  obtain rfl := k23_open hKm
  have HCM := Aside0.mk (show CSat w (ad.add (x.f3.length * 3)) [.int .i64 (-5), .int .i64 0, .int .i64 0] from fun j v hj => by rw [World_add_add]; exact hcm j v hj)
  have hmx := Kd.C_max hr
  have HMX := Aside0.mk (Kd.C_max hm)
  have HLC := Aside0.mk hlc
  clear hr hlc hm hKm hcm hl
  have hw_ : wrap64 ((x.f3.length : Int) + 1) = (x.f3.length : Int) + 1 := by (have := HMX.out; unfold wrap64; omega)
  have p_ : (0 ≤ (x.f3.length : Int)) = True := eq_true (by omega)
  have q_ : ((x.f3.length : Int) < (x.f3.length : Int) + 1) = True := eq_true (by omega)
  have q2_ : ((x.f3.length : Int) < ((x.f3.length + 1 : Nat) : Int)) = True := eq_true (by omega)
  go_enter Try.func31, Try.ntmps31
  go_upto_region 3 with (first | ((with_reducible refine gate_dst (N := 1) rfl ?_); (try (refine gate_guard (by rfl) ?_; dsimp only)); refine box_event ?hg (N := 1) ?hd (cs := #[.int .i64 x.f0, .int .i64 x.f1, .string x.f2, .slice (some ad) x.f3.length c3, .slice A4 x.f4.length c4]) (t := 54) ?hr ?_; (case hd => rfl); (case hg => rfl); (case hr => first | (go_simp; done) | (go_simp; rfl)); intro g1 hg wv1_ hbox hb; have n0_ := Aside0.mk (below_step HB.out hb); have n1_ := Aside0.mk (hbox); have n2_ := Aside0.mk ((show w.heap.size ≤ g1 by rw [hg]; exact below_size HB.out)); clear HB; have HB := n0_; have BK1 := n1_; have ORD := n2_; clear n0_ n1_ n2_; clear hb hbox hg) | ((with_reducible refine gate_dst (N := 5) rfl ?_); (try (refine gate_guard (by rfl) ?_; dsimp only)); refine ld_event rfl rfl (by first | rfl | (go_simp; done) | (go_simp; rfl)) Try.underlying24 trivial (.slice (some ad) x.f3.length c3) ((blk_cell BK1.out 3).trans rfl) ?_) | ((with_reducible refine gate_dst (N := 8) rfl ?_); (try (refine gate_guard (by rfl) ?_; dsimp only)); refine ld_event rfl rfl (by first | rfl | (go_simp; done) | (go_simp; rfl)) Try.underlying24 trivial (.slice (some ad) x.f3.length c3) ((blk_cell BK1.out 3).trans rfl) ?_) | ((with_reducible refine gate_dst (N := 10) rfl ?_); (try (refine gate_guard (by rfl) ?_; dsimp only)); refine ld_event rfl rfl (by first | rfl | (go_simp; done) | (go_simp; rfl)) Try.underlying24 trivial (.slice (some ad) x.f3.length c3) ((blk_cell BK1.out 3).trans rfl) ?_) | ((with_reducible refine gate_dst (N := 13) rfl ?_); refine Kd.cut_event rfl 24 23 (.tmp 8) (.tmp 12) rfl Try.underlying24 (by kernel_rfl) ((some ad)) (_) (c3) (x.f3.length + 1) rfl (by first | rfl | (go_simp; done) | (go_simp; rfl)) (by have := HLC.out; omega) ?_))
  go_wp2_with (first | ((with_reducible refine gate_dst (N := 16) rfl ?_); (try (refine gate_guard (by rfl) ?_; dsimp only)); refine ld_event rfl rfl (by first | rfl | (go_simp; done) | (go_simp; rfl)) Try.underlying24 trivial (.slice (some ad) x.f3.length c3) ((blk_cell BK1.out 3).trans rfl) ?_) | ((with_reducible refine gate_dst (N := 19) rfl ?_); refine load_event (t := 23) (p := .tmp 18) (ad := ad.add (x.f3.length * 3)) rfl rfl (by first | rfl | (go_simp; done) | (go_simp; rfl)) Try.underlying23 ⟨_, rfl⟩ [.int .i64 (-5), .int .i64 0, .int .i64 0] (size23) (CSat.below HCM.out HB.out) ?_) | ((with_reducible refine gate_dst (N := 23) rfl ?_); (try (refine gate_guard (by rfl) ?_; dsimp only)); refine ld_event rfl rfl (by first | rfl | (go_simp; done) | (go_simp; rfl)) Try.underlying31 trivial (.slice A4 x.f4.length c4) ((blk_cell BK1.out 4).trans rfl) ?_) | ((with_reducible refine gate_callee (f := 38) rfl ?_); (try (refine gate_guard (by rfl) ?_; dsimp only)); refine goesL_ (some 24) rfl rfl Try.func38 (by kernel_rfl) rfl #[.slice A4 x.f4.length c4] rfl (by (try simp only [List.map_toArray, List.map_cons, List.map_nil]); first | done | rfl) ?_; (with_reducible refine (SndL.calls HKL.out A4 c4 _ (Kd.K_below _ HB.out H4.out)).mono ?_); rintro e wv2_ ⟨rfl, hb⟩; refine ⟨_, rfl, ?_⟩; have n0_ := Aside0.mk (below_step HB.out hb); have n1_ := Aside0.mk (blk_below BK1.out hb); clear HB BK1; have HB := n0_; have BK1 := n1_; clear n0_ n1_; clear hb))
  go_ret
  exact ⟨rfl, HB.out⟩
theorem soundExprs.lt : ∀ (n : Nat) (l : List S54), S54.wts l < n → SndL l := by
  intro n
  induction n with
  | zero => intro l h; omega
  | succ n ih =>
    intro l h
    refine soundExprs.of l (fun x hx => sound.of x (ih x.f4 ?_))
    have h1 := S54.wt_le hx
    have h2 := S54.wt_eq x
    omega
theorem soundExprs.all (l : List S54) : SndL l := soundExprs.lt _ l (Nat.lt_succ_self _)
theorem sound.all (x : S54) : SndE x := sound.of x (soundExprs.all _)
end Go.Proofs.Ytkfbkjcdngipcaa.PTreeEquals
