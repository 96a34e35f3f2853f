import Derived.Test.YtkfbkjcdngipcaaKinC
import Derived.Test.YtkfbkjcdngipcaaSm0
namespace Go.Proofs.Ytkfbkjcdngipcaa.PTreeEquals
open Go.RowKit Go.Proofs.YtkfbkjcdngipcaaW.PrintWords Go.Proofs.YtkfbkjcdngipcaaW.PrintLast Go.Proofs.YtkfbkjcdngipcaaW.PrintMore
attribute [local go_sem] max2_int min2_int max_two min_two max_three min_three max_four min_four
set_option linter.unusedVariables false
set_option linter.unusedSimpArgs false
/-- A function that tells whether two are the same; one that asks it of two lists. -/
def EqOK {α : Type} (d : Kd α) (f : Nat) (x y : α) : Prop := ∀ (cs ds : List Value) (w : World), d.K w x cs → d.K w y ds → Calls Try.prog f #[.agg cs.toArray, .agg ds.toArray] w fun e w' => e = .returned (.bool (sm x y)) ∧ Below w.heap.size w w'
theorem EqOK.calls {α : Type} {d : Kd α} {f : Nat} {x y : α} (h : EqOK d f x y) (cs ds : List Value) (w : World) (h1 : d.K w x cs) (h2 : d.K w y ds) : Calls Try.prog f #[.agg cs.toArray, .agg ds.toArray] w fun e w' => e = .returned (.bool (sm x y)) ∧ Below w.heap.size w w' := h cs ds w h1 h2
def EqLOK {α : Type} (d : Kd α) (f cf : Nat) (l m : List α) : Prop := ∀ (A : Option Addr) (c : Nat) (B : Option Addr) (e : Nat) (w : World), d.C w A l.length l → d.C w B m.length m → Calls Try.prog f #[.slice A l.length c, .slice B m.length e, .func (.func cf) #[] #[]] w fun e w' => e = .returned (.bool (sm l m)) ∧ Below w.heap.size w w'
theorem EqLOK.calls {α : Type} {d : Kd α} {f cf : Nat} {l m : List α} (h : EqLOK d f cf l m) (A : Option Addr) (c : Nat) (B : Option Addr) (e : Nat) (w : World) (h1 : d.C w A l.length l) (h2 : d.C w B m.length m) : Calls Try.prog f #[.slice A l.length c, .slice B m.length e, .func (.func cf) #[] #[]] w fun e w' => e = .returned (.bool (sm l m)) ∧ Below w.heap.size w w' := h A c B e w h1 h2
theorem sm_next {α : Type} (z : α) {l m : List α} {i : Int} (h0 : 0 ≤ i) (h1 : i < l.length) (h2 : i < m.length) : sm (l.drop i.toNat) (m.drop i.toNat) = (sm (l.getD i.toNat z) (m.getD i.toNat z) && sm (l.drop (i + 1).toNat) (m.drop (i + 1).toNat)) := by
  rw [sm_drop l m i.toNat (by omega) (by omega), show (i + 1).toNat = i.toNat + 1 by omega]
  simp [List.getD_eq_getElem?_getD, List.getElem?_eq_getElem (show i.toNat < l.length by omega), List.getElem?_eq_getElem (show i.toNat < m.length by omega)]
theorem mem_getD {α : Type} (z : α) {l : List α} {i : Int} (h0 : 0 ≤ i) (h1 : i < l.length) : l.getD i.toNat z ∈ l := by
  rw [List.getD_eq_getElem?_getD, List.getElem?_eq_getElem (show i.toNat < l.length by omega)]
  exact List.getElem_mem _
theorem size56 : (Try.prog.info? 56).map (fun i => i.size) = some 7 := by kernel_rfl
set_option maxHeartbeats 8000000 in
set_option maxRecDepth 100000 in
theorem eqFunc36.of (l m : List S54) (hs : ∀ x ∈ l, ∀ y ∈ m, EqOK k54 35 x y) : EqLOK k54 36 35 l m := by
  intro A c B e w hr1 hr2
  have hu54 := Try.underlying54
  have hmx := Kd.C_max hr1
  have HR1 := Aside0.mk hr1
  have HR2 := Aside0.mk hr2
  have HS := Aside0.mk hs
  clear hr1 hr2 hs
  have HB := Aside0.mk (Below.refl w.heap.size w)
  by_cases hlen : l.length = m.length
  case neg =>
    have hl1 : ((l.length : Int) != (m.length : Int)) = true := bne_iff_ne.mpr (by omega)
    have hsm := sm_len hlen
    clear hlen
    go_enter Try.func36, Try.ntmps36
    go_wp2
    go_ret
    exact ⟨by rw [hsm]; rfl, HB.out⟩
  case pos =>
  have hl1 : ((l.length : Int) != (m.length : Int)) = false := bne_eq_false_iff_eq.mpr (by omega)
  have HLEN := Aside0.mk hlen
  clear hlen
  go_enter Try.func36, Try.ntmps36
  go_wp2
  go_loopg [17] l.length (fun kq v17 w' => ∃ (i_ : Int), v17 = .int .i64 i_ ∧ Aside0 (0 ≤ i_ ∧ i_ + (kq : Int) = (l.length : Int)) ∧ Aside0 (sm (l.drop i_.toNat) (m.drop i_.toNat) = sm l m) ∧ Aside0 (Below w.heap.size w w'))
  case atStart => exact ⟨0, rfl, ⟨by omega, by omega⟩, ⟨rfl⟩, HB⟩
  case round =>
    clear HB
    obtain ⟨i_, rfl, HQ, HX, HB⟩ := hrel
    by_cases c_ : i_ < (l.length : Int)
    · have cb : decide (i_ < (l.length : Int)) = true := decide_eq_true c_
      have p_ : 0 ≤ i_ := HQ.out.1
      have c2_ : i_ < (m.length : Int) := by have := HLEN.out; omega
      obtain ⟨ad, cv1_, e_, _, hK1, hc1_⟩ := Kd.C_get HR1.out z54 i_ p_ c_
      obtain rfl := e_
      obtain ⟨bd, cv2_, e_, _, hK2, hc2_⟩ := Kd.C_get HR2.out z54 i_ p_ c2_
      obtain rfl := e_
      have HCS1 := Aside0.mk (show CSat w (ad.add (i_.toNat * 5)) cv1_ from fun j v hj => by rw [World_add_add]; exact hc1_ j v hj)
      have HCS2 := Aside0.mk (show CSat w (bd.add (i_.toNat * 5)) cv2_ from fun j v hj => by rw [World_add_add]; exact hc2_ j v hj)
      have SZ1 := Aside0.mk (show (Try.prog.info? 54).map (fun i => i.size) = some cv1_.length by rw [Kd.K_len _ hK1]; exact size54)
      have SZ2 := Aside0.mk (show (Try.prog.info? 54).map (fun i => i.size) = some cv2_.length by rw [Kd.K_len _ hK2]; exact size54)
      have LN1 := Aside0.mk (show cv1_.length = 5 from Kd.K_len _ hK1)
      have LN2 := Aside0.mk (show cv2_.length = 5 from Kd.K_len _ hK2)
      have ONE1 := Aside0.mk (Kd.K_one _ hK1)
      have ONE2 := Aside0.mk (Kd.K_one _ hK2)
      have hM1 := mem_getD z54 p_ c_
      have hM2 := mem_getD z54 p_ c2_
      have hN := sm_next z54 p_ c_ c2_
      obtain ⟨x_, hx_⟩ : ∃ x, x = l.getD i_.toNat z54 := ⟨_, rfl⟩
      obtain ⟨y_, hy_⟩ : ∃ x, x = m.getD i_.toNat z54 := ⟨_, rfl⟩
      rw [← hx_] at hK1 hM1 hN
      rw [← hy_] at hK2 hM2 hN
      clear hx_ hy_
      have HK1 := Aside0.mk hK1
      have HK2 := Aside0.mk hK2
      have HM1 := Aside0.mk hM1
      have HM2 := Aside0.mk hM2
      have HN := Aside0.mk hN
      clear hK1 hK2 hc1_ hc2_ hM1 hM2 hN
      have HC_ := Aside0.mk c_
      obtain ⟨b_, hb_⟩ : ∃ b, b = sm x_ y_ := ⟨_, rfl⟩
      rw [← hb_] at HN
      have HBE := Aside0.mk hb_.symm
      clear hb_
      replace p_ := eq_true p_
      replace c_ := eq_true c_
      replace c2_ := eq_true c2_
      cases b_ with
      | true =>
        have hbe := HBE.out
        go_wp2_with (first | ((with_reducible refine gate_dst (N := 21) rfl ?_); refine load_event (t := 54) (p := .tmp 20) (ad := ad.add (i_.toNat * 5)) rfl rfl (by first | rfl | (go_simp; done) | (go_simp; rfl)) Try.underlying54 ⟨_, rfl⟩ cv1_ (SZ1.out) (CSat.below HCS1.out HB.out) ?_) | ((with_reducible refine gate_dst (N := 8) rfl ?_); (try (refine gate_guard (by rfl) ?_; dsimp only)); refine box_event ?hg (N := 8) ?hd (cs := #[.int .i64 0, .int .i64 0, .string ⟨#[]⟩, .slice none 0 0, .slice none 0 0]) (t := 54) ?hr ?_; (case hd => rfl); (case hg => rfl); (case hr => first | (go_simp; done) | (go_simp; rfl)); intro g1 hg wv1_ hbox hb; have n0_ := Aside0.mk (below_step HB.out hb); have n1_ := Aside0.mk (hbox); have n2_ := Aside0.mk ((show w.heap.size ≤ g1 by rw [hg]; exact below_size HB.out)); clear HB; have HB := n0_; have BK1 := n1_; have ORD := n2_; clear n0_ n1_ n2_; clear hb hbox hg) | ((with_reducible refine gate_store (t := 54) (p := 8) rfl ?_); refine stw_event rfl rfl rfl (g := g1) (by first | rfl | (go_simp; done) | (go_simp; rfl)) (cs := cv1_) (by first | rfl | (go_simp; done) | (go_simp; rfl)) BK1.out (SZ1.out) (by rw [LN1.out]; rfl) (ONE1.out) ?_; intro wv2_ hbk ho; have n0_ := Aside0.mk (Other.below ho HB.out (by have := ORD.out; omega)); have n1_ := Aside0.mk (hbk); clear HB BK1; have HB := n0_; have BK1 := n1_; clear n0_ n1_; clear hbk ho) | ((with_reducible refine gate_dst (N := 25) rfl ?_); refine load_event (t := 54) (p := .tmp 24) (ad := bd.add (i_.toNat * 5)) rfl rfl (by first | rfl | (go_simp; done) | (go_simp; rfl)) Try.underlying54 ⟨_, rfl⟩ cv2_ (SZ2.out) (CSat.below HCS2.out HB.out) ?_) | ((with_reducible refine gate_dst (N := 9) rfl ?_); (try (refine gate_guard (by rfl) ?_; dsimp only)); refine box_event ?hg (N := 9) ?hd (cs := #[.int .i64 0, .int .i64 0, .string ⟨#[]⟩, .slice none 0 0, .slice none 0 0]) (t := 54) ?hr ?_; (case hd => rfl); (case hg => rfl); (case hr => first | (go_simp; done) | (go_simp; rfl)); intro g2 hg wv3_ hbox hb; have n0_ := Aside0.mk (below_step HB.out hb); have n1_ := Aside0.mk (blk_below BK1.out hb); have n2_ := Aside0.mk (hbox); have n3_ := Aside0.mk (And.intro ORD.out (show g1 < g2 by rw [hg]; exact blk_lt BK1.out)); clear HB BK1 ORD; have HB := n0_; have BK1 := n1_; have BK2 := n2_; have ORD := n3_; clear n0_ n1_ n2_ n3_; clear hb hbox hg) | ((with_reducible refine gate_store (t := 54) (p := 9) rfl ?_); refine stw_event rfl rfl rfl (g := g2) (by first | rfl | (go_simp; done) | (go_simp; rfl)) (cs := cv2_) (by first | rfl | (go_simp; done) | (go_simp; rfl)) BK2.out (SZ2.out) (by rw [LN2.out]; rfl) (ONE2.out) ?_; intro wv4_ hbk ho; have n0_ := Aside0.mk (Other.below ho HB.out (by have := ORD.out; omega)); have n1_ := Aside0.mk (Other.blk ho BK1.out (by have := ORD.out; omega)); have n2_ := Aside0.mk (hbk); clear HB BK1 BK2; have HB := n0_; have BK1 := n1_; have BK2 := n2_; clear n0_ n1_ n2_; clear hbk ho) | ((with_reducible refine gate_dst (N := 27) rfl ?_); refine ldw_event rfl rfl (by first | rfl | (go_simp; done) | (go_simp; rfl)) Try.underlying54 ⟨_, rfl⟩ BK1.out (SZ1.out) ?_) | ((with_reducible refine gate_dst (N := 28) rfl ?_); refine ldw_event rfl rfl (by first | rfl | (go_simp; done) | (go_simp; rfl)) Try.underlying54 ⟨_, rfl⟩ BK2.out (SZ2.out) ?_) | (go_at_call 35; (with_reducible refine (EqOK.calls (HS.out _ HM1.out _ HM2.out) cv1_ cv2_ _ (Kd.K_below _ HB.out HK1.out) (Kd.K_below _ HB.out HK2.out)).mono ?_); rintro e wv5_ ⟨rfl, hb⟩; have n0_ := Aside0.mk (below_step HB.out hb); have n1_ := Aside0.mk (blk_below BK1.out hb); have n2_ := Aside0.mk (blk_below BK2.out hb); clear HB BK1 BK2; have HB := n0_; have BK1 := n1_; have BK2 := n2_; clear n0_ n1_ n2_; clear hb))
        go_roundg (gk - 1)
        case measure => have := HQ.out; have := HC_.out; omega
        case rel => exact ⟨i_ + 1, by rw [show wrap64 (i_ + 1) = i_ + 1 from by have := HQ.out; have := HC_.out; unfold wrap64; omega], ⟨by have := HQ.out; have := HC_.out; omega⟩, ⟨by rw [← HX.out, HN.out, Bool.true_and]⟩, HB⟩
      | false =>
        have hbe := HBE.out
        go_wp2_with (first | ((with_reducible refine gate_dst (N := 21) rfl ?_); refine load_event (t := 54) (p := .tmp 20) (ad := ad.add (i_.toNat * 5)) rfl rfl (by first | rfl | (go_simp; done) | (go_simp; rfl)) Try.underlying54 ⟨_, rfl⟩ cv1_ (SZ1.out) (CSat.below HCS1.out HB.out) ?_) | ((with_reducible refine gate_dst (N := 8) rfl ?_); (try (refine gate_guard (by rfl) ?_; dsimp only)); refine box_event ?hg (N := 8) ?hd (cs := #[.int .i64 0, .int .i64 0, .string ⟨#[]⟩, .slice none 0 0, .slice none 0 0]) (t := 54) ?hr ?_; (case hd => rfl); (case hg => rfl); (case hr => first | (go_simp; done) | (go_simp; rfl)); intro g1 hg wv1_ hbox hb; have n0_ := Aside0.mk (below_step HB.out hb); have n1_ := Aside0.mk (hbox); have n2_ := Aside0.mk ((show w.heap.size ≤ g1 by rw [hg]; exact below_size HB.out)); clear HB; have HB := n0_; have BK1 := n1_; have ORD := n2_; clear n0_ n1_ n2_; clear hb hbox hg) | ((with_reducible refine gate_store (t := 54) (p := 8) rfl ?_); refine stw_event rfl rfl rfl (g := g1) (by first | rfl | (go_simp; done) | (go_simp; rfl)) (cs := cv1_) (by first | rfl | (go_simp; done) | (go_simp; rfl)) BK1.out (SZ1.out) (by rw [LN1.out]; rfl) (ONE1.out) ?_; intro wv2_ hbk ho; have n0_ := Aside0.mk (Other.below ho HB.out (by have := ORD.out; omega)); have n1_ := Aside0.mk (hbk); clear HB BK1; have HB := n0_; have BK1 := n1_; clear n0_ n1_; clear hbk ho) | ((with_reducible refine gate_dst (N := 25) rfl ?_); refine load_event (t := 54) (p := .tmp 24) (ad := bd.add (i_.toNat * 5)) rfl rfl (by first | rfl | (go_simp; done) | (go_simp; rfl)) Try.underlying54 ⟨_, rfl⟩ cv2_ (SZ2.out) (CSat.below HCS2.out HB.out) ?_) | ((with_reducible refine gate_dst (N := 9) rfl ?_); (try (refine gate_guard (by rfl) ?_; dsimp only)); refine box_event ?hg (N := 9) ?hd (cs := #[.int .i64 0, .int .i64 0, .string ⟨#[]⟩, .slice none 0 0, .slice none 0 0]) (t := 54) ?hr ?_; (case hd => rfl); (case hg => rfl); (case hr => first | (go_simp; done) | (go_simp; rfl)); intro g2 hg wv3_ hbox hb; have n0_ := Aside0.mk (below_step HB.out hb); have n1_ := Aside0.mk (blk_below BK1.out hb); have n2_ := Aside0.mk (hbox); have n3_ := Aside0.mk (And.intro ORD.out (show g1 < g2 by rw [hg]; exact blk_lt BK1.out)); clear HB BK1 ORD; have HB := n0_; have BK1 := n1_; have BK2 := n2_; have ORD := n3_; clear n0_ n1_ n2_ n3_; clear hb hbox hg) | ((with_reducible refine gate_store (t := 54) (p := 9) rfl ?_); refine stw_event rfl rfl rfl (g := g2) (by first | rfl | (go_simp; done) | (go_simp; rfl)) (cs := cv2_) (by first | rfl | (go_simp; done) | (go_simp; rfl)) BK2.out (SZ2.out) (by rw [LN2.out]; rfl) (ONE2.out) ?_; intro wv4_ hbk ho; have n0_ := Aside0.mk (Other.below ho HB.out (by have := ORD.out; omega)); have n1_ := Aside0.mk (Other.blk ho BK1.out (by have := ORD.out; omega)); have n2_ := Aside0.mk (hbk); clear HB BK1 BK2; have HB := n0_; have BK1 := n1_; have BK2 := n2_; clear n0_ n1_ n2_; clear hbk ho) | ((with_reducible refine gate_dst (N := 27) rfl ?_); refine ldw_event rfl rfl (by first | rfl | (go_simp; done) | (go_simp; rfl)) Try.underlying54 ⟨_, rfl⟩ BK1.out (SZ1.out) ?_) | ((with_reducible refine gate_dst (N := 28) rfl ?_); refine ldw_event rfl rfl (by first | rfl | (go_simp; done) | (go_simp; rfl)) Try.underlying54 ⟨_, rfl⟩ BK2.out (SZ2.out) ?_) | (go_at_call 35; (with_reducible refine (EqOK.calls (HS.out _ HM1.out _ HM2.out) cv1_ cv2_ _ (Kd.K_below _ HB.out HK1.out) (Kd.K_below _ HB.out HK2.out)).mono ?_); rintro e wv5_ ⟨rfl, hb⟩; have n0_ := Aside0.mk (below_step HB.out hb); have n1_ := Aside0.mk (blk_below BK1.out hb); have n2_ := Aside0.mk (blk_below BK2.out hb); clear HB BK1 BK2; have HB := n0_; have BK1 := n1_; have BK2 := n2_; clear n0_ n1_ n2_; clear hb))
        go_ret
        exact ⟨by rw [← HX.out, HN.out, Bool.false_and]; rfl, HB.out⟩
    · have cb : decide (i_ < (l.length : Int)) = false := decide_eq_false c_
      have hsm : sm l m = true := by rw [← HX.out]; exact sm_end l m _ (by omega) (by have := HLEN.out; omega)
      clear c_
      go_wp2
      go_ret
      exact ⟨by rw [hsm]; rfl, HB.out⟩
set_option maxHeartbeats 8000000 in
set_option maxRecDepth 100000 in
theorem eqFunc37.of (l m : List S34) (hs : ∀ x ∈ l, ∀ y ∈ m, EqOK k34 26 x y) : EqLOK k34 37 26 l m := by
  intro A c B e w hr1 hr2
  have hu34 := Try.underlying34
  have hmx := Kd.C_max hr1
  have HR1 := Aside0.mk hr1
  have HR2 := Aside0.mk hr2
  have HS := Aside0.mk hs
  clear hr1 hr2 hs
  have HB := Aside0.mk (Below.refl w.heap.size w)
  by_cases hlen : l.length = m.length
  case neg =>
    have hl1 : ((l.length : Int) != (m.length : Int)) = true := bne_iff_ne.mpr (by omega)
    have hsm := sm_len hlen
    clear hlen
    go_enter Try.func37, Try.ntmps37
    go_wp2
    go_ret
    exact ⟨by rw [hsm]; rfl, HB.out⟩
  case pos =>
  have hl1 : ((l.length : Int) != (m.length : Int)) = false := bne_eq_false_iff_eq.mpr (by omega)
  have HLEN := Aside0.mk hlen
  clear hlen
  go_enter Try.func37, Try.ntmps37
  go_wp2
  go_loopg [17] l.length (fun kq v17 w' => ∃ (i_ : Int), v17 = .int .i64 i_ ∧ Aside0 (0 ≤ i_ ∧ i_ + (kq : Int) = (l.length : Int)) ∧ Aside0 (sm (l.drop i_.toNat) (m.drop i_.toNat) = sm l m) ∧ Aside0 (Below w.heap.size w w'))
  case atStart => exact ⟨0, rfl, ⟨by omega, by omega⟩, ⟨rfl⟩, HB⟩
  case round =>
    clear HB
    obtain ⟨i_, rfl, HQ, HX, HB⟩ := hrel
    by_cases c_ : i_ < (l.length : Int)
    · have cb : decide (i_ < (l.length : Int)) = true := decide_eq_true c_
      have p_ : 0 ≤ i_ := HQ.out.1
      have c2_ : i_ < (m.length : Int) := by have := HLEN.out; omega
      obtain ⟨ad, cv1_, e_, _, hK1, hc1_⟩ := Kd.C_get HR1.out z34 i_ p_ c_
      obtain rfl := e_
      obtain ⟨bd, cv2_, e_, _, hK2, hc2_⟩ := Kd.C_get HR2.out z34 i_ p_ c2_
      obtain rfl := e_
      have HCS1 := Aside0.mk (show CSat w (ad.add (i_.toNat * 23)) cv1_ from fun j v hj => by rw [World_add_add]; exact hc1_ j v hj)
      have HCS2 := Aside0.mk (show CSat w (bd.add (i_.toNat * 23)) cv2_ from fun j v hj => by rw [World_add_add]; exact hc2_ j v hj)
      have SZ1 := Aside0.mk (show (Try.prog.info? 34).map (fun i => i.size) = some cv1_.length by rw [Kd.K_len _ hK1]; exact size34)
      have SZ2 := Aside0.mk (show (Try.prog.info? 34).map (fun i => i.size) = some cv2_.length by rw [Kd.K_len _ hK2]; exact size34)
      have LN1 := Aside0.mk (show cv1_.length = 23 from Kd.K_len _ hK1)
      have LN2 := Aside0.mk (show cv2_.length = 23 from Kd.K_len _ hK2)
      have ONE1 := Aside0.mk (Kd.K_one _ hK1)
      have ONE2 := Aside0.mk (Kd.K_one _ hK2)
      have hM1 := mem_getD z34 p_ c_
      have hM2 := mem_getD z34 p_ c2_
      have hN := sm_next z34 p_ c_ c2_
      obtain ⟨x_, hx_⟩ : ∃ x, x = l.getD i_.toNat z34 := ⟨_, rfl⟩
      obtain ⟨y_, hy_⟩ : ∃ x, x = m.getD i_.toNat z34 := ⟨_, rfl⟩
      rw [← hx_] at hK1 hM1 hN
      rw [← hy_] at hK2 hM2 hN
      clear hx_ hy_
      have HK1 := Aside0.mk hK1
      have HK2 := Aside0.mk hK2
      have HM1 := Aside0.mk hM1
      have HM2 := Aside0.mk hM2
      have HN := Aside0.mk hN
      clear hK1 hK2 hc1_ hc2_ hM1 hM2 hN
      have HC_ := Aside0.mk c_
      obtain ⟨b_, hb_⟩ : ∃ b, b = sm x_ y_ := ⟨_, rfl⟩
      rw [← hb_] at HN
      have HBE := Aside0.mk hb_.symm
      clear hb_
      replace p_ := eq_true p_
      replace c_ := eq_true c_
      replace c2_ := eq_true c2_
      cases b_ with
      | true =>
        have hbe := HBE.out
        go_wp2_with (first | ((with_reducible refine gate_dst (N := 21) rfl ?_); refine load_event (t := 34) (p := .tmp 20) (ad := ad.add (i_.toNat * 23)) rfl rfl (by first | rfl | (go_simp; done) | (go_simp; rfl)) Try.underlying34 ⟨_, rfl⟩ cv1_ (SZ1.out) (CSat.below HCS1.out HB.out) ?_) | ((with_reducible refine gate_dst (N := 8) rfl ?_); (try (refine gate_guard (by rfl) ?_; dsimp only)); refine box_event ?hg (N := 8) ?hd (cs := #[.int .i64 0, .string ⟨#[]⟩, .string ⟨#[]⟩, .string ⟨#[]⟩, .int .i64 0, .int .i64 0, .int .i64 0, .int .i64 0, .int .i64 0, .int .i64 0, .int .i64 0, .int .i64 0, .int .i64 0, .int .i64 0, .int .i64 0, .int .i64 0, .int .i64 0, .int .i64 0, .int .i64 0, .int .i64 0, .int .i64 0, .slice none 0 0, .slice none 0 0]) (t := 34) ?hr ?_; (case hd => rfl); (case hg => rfl); (case hr => first | (go_simp; done) | (go_simp; rfl)); intro g1 hg wv1_ hbox hb; have n0_ := Aside0.mk (below_step HB.out hb); have n1_ := Aside0.mk (hbox); have n2_ := Aside0.mk ((show w.heap.size ≤ g1 by rw [hg]; exact below_size HB.out)); clear HB; have HB := n0_; have BK1 := n1_; have ORD := n2_; clear n0_ n1_ n2_; clear hb hbox hg) | ((with_reducible refine gate_store (t := 34) (p := 8) rfl ?_); refine stw_event rfl rfl rfl (g := g1) (by first | rfl | (go_simp; done) | (go_simp; rfl)) (cs := cv1_) (by first | rfl | (go_simp; done) | (go_simp; rfl)) BK1.out (SZ1.out) (by rw [LN1.out]; rfl) (ONE1.out) ?_; intro wv2_ hbk ho; have n0_ := Aside0.mk (Other.below ho HB.out (by have := ORD.out; omega)); have n1_ := Aside0.mk (hbk); clear HB BK1; have HB := n0_; have BK1 := n1_; clear n0_ n1_; clear hbk ho) | ((with_reducible refine gate_dst (N := 25) rfl ?_); refine load_event (t := 34) (p := .tmp 24) (ad := bd.add (i_.toNat * 23)) rfl rfl (by first | rfl | (go_simp; done) | (go_simp; rfl)) Try.underlying34 ⟨_, rfl⟩ cv2_ (SZ2.out) (CSat.below HCS2.out HB.out) ?_) | ((with_reducible refine gate_dst (N := 9) rfl ?_); (try (refine gate_guard (by rfl) ?_; dsimp only)); refine box_event ?hg (N := 9) ?hd (cs := #[.int .i64 0, .string ⟨#[]⟩, .string ⟨#[]⟩, .string ⟨#[]⟩, .int .i64 0, .int .i64 0, .int .i64 0, .int .i64 0, .int .i64 0, .int .i64 0, .int .i64 0, .int .i64 0, .int .i64 0, .int .i64 0, .int .i64 0, .int .i64 0, .int .i64 0, .int .i64 0, .int .i64 0, .int .i64 0, .int .i64 0, .slice none 0 0, .slice none 0 0]) (t := 34) ?hr ?_; (case hd => rfl); (case hg => rfl); (case hr => first | (go_simp; done) | (go_simp; rfl)); intro g2 hg wv3_ hbox hb; have n0_ := Aside0.mk (below_step HB.out hb); have n1_ := Aside0.mk (blk_below BK1.out hb); have n2_ := Aside0.mk (hbox); have n3_ := Aside0.mk (And.intro ORD.out (show g1 < g2 by rw [hg]; exact blk_lt BK1.out)); clear HB BK1 ORD; have HB := n0_; have BK1 := n1_; have BK2 := n2_; have ORD := n3_; clear n0_ n1_ n2_ n3_; clear hb hbox hg) | ((with_reducible refine gate_store (t := 34) (p := 9) rfl ?_); refine stw_event rfl rfl rfl (g := g2) (by first | rfl | (go_simp; done) | (go_simp; rfl)) (cs := cv2_) (by first | rfl | (go_simp; done) | (go_simp; rfl)) BK2.out (SZ2.out) (by rw [LN2.out]; rfl) (ONE2.out) ?_; intro wv4_ hbk ho; have n0_ := Aside0.mk (Other.below ho HB.out (by have := ORD.out; omega)); have n1_ := Aside0.mk (Other.blk ho BK1.out (by have := ORD.out; omega)); have n2_ := Aside0.mk (hbk); clear HB BK1 BK2; have HB := n0_; have BK1 := n1_; have BK2 := n2_; clear n0_ n1_ n2_; clear hbk ho) | ((with_reducible refine gate_dst (N := 27) rfl ?_); refine ldw_event rfl rfl (by first | rfl | (go_simp; done) | (go_simp; rfl)) Try.underlying34 ⟨_, rfl⟩ BK1.out (SZ1.out) ?_) | ((with_reducible refine gate_dst (N := 28) rfl ?_); refine ldw_event rfl rfl (by first | rfl | (go_simp; done) | (go_simp; rfl)) Try.underlying34 ⟨_, rfl⟩ BK2.out (SZ2.out) ?_) | (go_at_call 26; (with_reducible refine (EqOK.calls (HS.out _ HM1.out _ HM2.out) cv1_ cv2_ _ (Kd.K_below _ HB.out HK1.out) (Kd.K_below _ HB.out HK2.out)).mono ?_); rintro e wv5_ ⟨rfl, hb⟩; have n0_ := Aside0.mk (below_step HB.out hb); have n1_ := Aside0.mk (blk_below BK1.out hb); have n2_ := Aside0.mk (blk_below BK2.out hb); clear HB BK1 BK2; have HB := n0_; have BK1 := n1_; have BK2 := n2_; clear n0_ n1_ n2_; clear hb))
        go_roundg (gk - 1)
        case measure => have := HQ.out; have := HC_.out; omega
        case rel => exact ⟨i_ + 1, by rw [show wrap64 (i_ + 1) = i_ + 1 from by have := HQ.out; have := HC_.out; unfold wrap64; omega], ⟨by have := HQ.out; have := HC_.out; omega⟩, ⟨by rw [← HX.out, HN.out, Bool.true_and]⟩, HB⟩
      | false =>
        have hbe := HBE.out
        go_wp2_with (first | ((with_reducible refine gate_dst (N := 21) rfl ?_); refine load_event (t := 34) (p := .tmp 20) (ad := ad.add (i_.toNat * 23)) rfl rfl (by first | rfl | (go_simp; done) | (go_simp; rfl)) Try.underlying34 ⟨_, rfl⟩ cv1_ (SZ1.out) (CSat.below HCS1.out HB.out) ?_) | ((with_reducible refine gate_dst (N := 8) rfl ?_); (try (refine gate_guard (by rfl) ?_; dsimp only)); refine box_event ?hg (N := 8) ?hd (cs := #[.int .i64 0, .string ⟨#[]⟩, .string ⟨#[]⟩, .string ⟨#[]⟩, .int .i64 0, .int .i64 0, .int .i64 0, .int .i64 0, .int .i64 0, .int .i64 0, .int .i64 0, .int .i64 0, .int .i64 0, .int .i64 0, .int .i64 0, .int .i64 0, .int .i64 0, .int .i64 0, .int .i64 0, .int .i64 0, .int .i64 0, .slice none 0 0, .slice none 0 0]) (t := 34) ?hr ?_; (case hd => rfl); (case hg => rfl); (case hr => first | (go_simp; done) | (go_simp; rfl)); intro g1 hg wv1_ hbox hb; have n0_ := Aside0.mk (below_step HB.out hb); have n1_ := Aside0.mk (hbox); have n2_ := Aside0.mk ((show w.heap.size ≤ g1 by rw [hg]; exact below_size HB.out)); clear HB; have HB := n0_; have BK1 := n1_; have ORD := n2_; clear n0_ n1_ n2_; clear hb hbox hg) | ((with_reducible refine gate_store (t := 34) (p := 8) rfl ?_); refine stw_event rfl rfl rfl (g := g1) (by first | rfl | (go_simp; done) | (go_simp; rfl)) (cs := cv1_) (by first | rfl | (go_simp; done) | (go_simp; rfl)) BK1.out (SZ1.out) (by rw [LN1.out]; rfl) (ONE1.out) ?_; intro wv2_ hbk ho; have n0_ := Aside0.mk (Other.below ho HB.out (by have := ORD.out; omega)); have n1_ := Aside0.mk (hbk); clear HB BK1; have HB := n0_; have BK1 := n1_; clear n0_ n1_; clear hbk ho) | ((with_reducible refine gate_dst (N := 25) rfl ?_); refine load_event (t := 34) (p := .tmp 24) (ad := bd.add (i_.toNat * 23)) rfl rfl (by first | rfl | (go_simp; done) | (go_simp; rfl)) Try.underlying34 ⟨_, rfl⟩ cv2_ (SZ2.out) (CSat.below HCS2.out HB.out) ?_) | ((with_reducible refine gate_dst (N := 9) rfl ?_); (try (refine gate_guard (by rfl) ?_; dsimp only)); refine box_event ?hg (N := 9) ?hd (cs := #[.int .i64 0, .string ⟨#[]⟩, .string ⟨#[]⟩, .string ⟨#[]⟩, .int .i64 0, .int .i64 0, .int .i64 0, .int .i64 0, .int .i64 0, .int .i64 0, .int .i64 0, .int .i64 0, .int .i64 0, .int .i64 0, .int .i64 0, .int .i64 0, .int .i64 0, .int .i64 0, .int .i64 0, .int .i64 0, .int .i64 0, .slice none 0 0, .slice none 0 0]) (t := 34) ?hr ?_; (case hd => rfl); (case hg => rfl); (case hr => first | (go_simp; done) | (go_simp; rfl)); intro g2 hg wv3_ hbox hb; have n0_ := Aside0.mk (below_step HB.out hb); have n1_ := Aside0.mk (blk_below BK1.out hb); have n2_ := Aside0.mk (hbox); have n3_ := Aside0.mk (And.intro ORD.out (show g1 < g2 by rw [hg]; exact blk_lt BK1.out)); clear HB BK1 ORD; have HB := n0_; have BK1 := n1_; have BK2 := n2_; have ORD := n3_; clear n0_ n1_ n2_ n3_; clear hb hbox hg) | ((with_reducible refine gate_store (t := 34) (p := 9) rfl ?_); refine stw_event rfl rfl rfl (g := g2) (by first | rfl | (go_simp; done) | (go_simp; rfl)) (cs := cv2_) (by first | rfl | (go_simp; done) | (go_simp; rfl)) BK2.out (SZ2.out) (by rw [LN2.out]; rfl) (ONE2.out) ?_; intro wv4_ hbk ho; have n0_ := Aside0.mk (Other.below ho HB.out (by have := ORD.out; omega)); have n1_ := Aside0.mk (Other.blk ho BK1.out (by have := ORD.out; omega)); have n2_ := Aside0.mk (hbk); clear HB BK1 BK2; have HB := n0_; have BK1 := n1_; have BK2 := n2_; clear n0_ n1_ n2_; clear hbk ho) | ((with_reducible refine gate_dst (N := 27) rfl ?_); refine ldw_event rfl rfl (by first | rfl | (go_simp; done) | (go_simp; rfl)) Try.underlying34 ⟨_, rfl⟩ BK1.out (SZ1.out) ?_) | ((with_reducible refine gate_dst (N := 28) rfl ?_); refine ldw_event rfl rfl (by first | rfl | (go_simp; done) | (go_simp; rfl)) Try.underlying34 ⟨_, rfl⟩ BK2.out (SZ2.out) ?_) | (go_at_call 26; (with_reducible refine (EqOK.calls (HS.out _ HM1.out _ HM2.out) cv1_ cv2_ _ (Kd.K_below _ HB.out HK1.out) (Kd.K_below _ HB.out HK2.out)).mono ?_); rintro e wv5_ ⟨rfl, hb⟩; have n0_ := Aside0.mk (below_step HB.out hb); have n1_ := Aside0.mk (blk_below BK1.out hb); have n2_ := Aside0.mk (blk_below BK2.out hb); clear HB BK1 BK2; have HB := n0_; have BK1 := n1_; have BK2 := n2_; clear n0_ n1_ n2_; clear hb))
        go_ret
        exact ⟨by rw [← HX.out, HN.out, Bool.false_and]; rfl, HB.out⟩
    · have cb : decide (i_ < (l.length : Int)) = false := decide_eq_false c_
      have hsm : sm l m = true := by rw [← HX.out]; exact sm_end l m _ (by omega) (by have := HLEN.out; omega)
      clear c_
      go_wp2
      go_ret
      exact ⟨by rw [hsm]; rfl, HB.out⟩
set_option maxHeartbeats 8000000 in
set_option maxRecDepth 100000 in
theorem eqFunc24.of (l m : List S56) (hs : ∀ x ∈ l, ∀ y ∈ m, EqOK k56 25 x y) : EqLOK k56 24 25 l m := by
  intro A c B e w hr1 hr2
  have hu56 := Try.underlying56
  have hmx := Kd.C_max hr1
  have HR1 := Aside0.mk hr1
  have HR2 := Aside0.mk hr2
  have HS := Aside0.mk hs
  clear hr1 hr2 hs
  have HB := Aside0.mk (Below.refl w.heap.size w)
  by_cases hlen : l.length = m.length
  case neg =>
    have hl1 : ((l.length : Int) != (m.length : Int)) = true := bne_iff_ne.mpr (by omega)
    have hsm := sm_len hlen
    clear hlen
    go_enter Try.func24, Try.ntmps24
    go_wp2
    go_ret
    exact ⟨by rw [hsm]; rfl, HB.out⟩
  case pos =>
  have hl1 : ((l.length : Int) != (m.length : Int)) = false := bne_eq_false_iff_eq.mpr (by omega)
  have HLEN := Aside0.mk hlen
  clear hlen
  go_enter Try.func24, Try.ntmps24
  go_wp2
  go_loopg [17] l.length (fun kq v17 w' => ∃ (i_ : Int), v17 = .int .i64 i_ ∧ Aside0 (0 ≤ i_ ∧ i_ + (kq : Int) = (l.length : Int)) ∧ Aside0 (sm (l.drop i_.toNat) (m.drop i_.toNat) = sm l m) ∧ Aside0 (Below w.heap.size w w'))
  case atStart => exact ⟨0, rfl, ⟨by omega, by omega⟩, ⟨rfl⟩, HB⟩
  case round =>
    clear HB
    obtain ⟨i_, rfl, HQ, HX, HB⟩ := hrel
    by_cases c_ : i_ < (l.length : Int)
    · have cb : decide (i_ < (l.length : Int)) = true := decide_eq_true c_
      have p_ : 0 ≤ i_ := HQ.out.1
      have c2_ : i_ < (m.length : Int) := by have := HLEN.out; omega
      obtain ⟨ad, cv1_, e_, _, hK1, hc1_⟩ := Kd.C_get HR1.out z56 i_ p_ c_
      obtain rfl := e_
      obtain ⟨bd, cv2_, e_, _, hK2, hc2_⟩ := Kd.C_get HR2.out z56 i_ p_ c2_
      obtain rfl := e_
      have HCS1 := Aside0.mk (show CSat w (ad.add (i_.toNat * 7)) cv1_ from fun j v hj => by rw [World_add_add]; exact hc1_ j v hj)
      have HCS2 := Aside0.mk (show CSat w (bd.add (i_.toNat * 7)) cv2_ from fun j v hj => by rw [World_add_add]; exact hc2_ j v hj)
      have SZ1 := Aside0.mk (show (Try.prog.info? 56).map (fun i => i.size) = some cv1_.length by rw [Kd.K_len _ hK1]; exact size56)
      have SZ2 := Aside0.mk (show (Try.prog.info? 56).map (fun i => i.size) = some cv2_.length by rw [Kd.K_len _ hK2]; exact size56)
      have LN1 := Aside0.mk (show cv1_.length = 7 from Kd.K_len _ hK1)
      have LN2 := Aside0.mk (show cv2_.length = 7 from Kd.K_len _ hK2)
      have ONE1 := Aside0.mk (Kd.K_one _ hK1)
      have ONE2 := Aside0.mk (Kd.K_one _ hK2)
      have hM1 := mem_getD z56 p_ c_
      have hM2 := mem_getD z56 p_ c2_
      have hN := sm_next z56 p_ c_ c2_
      obtain ⟨x_, hx_⟩ : ∃ x, x = l.getD i_.toNat z56 := ⟨_, rfl⟩
      obtain ⟨y_, hy_⟩ : ∃ x, x = m.getD i_.toNat z56 := ⟨_, rfl⟩
      rw [← hx_] at hK1 hM1 hN
      rw [← hy_] at hK2 hM2 hN
      clear hx_ hy_
      have HK1 := Aside0.mk hK1
      have HK2 := Aside0.mk hK2
      have HM1 := Aside0.mk hM1
      have HM2 := Aside0.mk hM2
      have HN := Aside0.mk hN
      clear hK1 hK2 hc1_ hc2_ hM1 hM2 hN
      have HC_ := Aside0.mk c_
      obtain ⟨b_, hb_⟩ : ∃ b, b = sm x_ y_ := ⟨_, rfl⟩
      rw [← hb_] at HN
      have HBE := Aside0.mk hb_.symm
      clear hb_
      replace p_ := eq_true p_
      replace c_ := eq_true c_
      replace c2_ := eq_true c2_
      cases b_ with
      | true =>
        have hbe := HBE.out
        go_wp2_with (first | ((with_reducible refine gate_dst (N := 21) rfl ?_); refine load_event (t := 56) (p := .tmp 20) (ad := ad.add (i_.toNat * 7)) rfl rfl (by first | rfl | (go_simp; done) | (go_simp; rfl)) Try.underlying56 ⟨_, rfl⟩ cv1_ (SZ1.out) (CSat.below HCS1.out HB.out) ?_) | ((with_reducible refine gate_dst (N := 8) rfl ?_); (try (refine gate_guard (by rfl) ?_; dsimp only)); refine box_event ?hg (N := 8) ?hd (cs := #[.string ⟨#[]⟩, .slice none 0 0, .int .i64 0, .int .i64 0, .string ⟨#[]⟩, .slice none 0 0, .slice none 0 0]) (t := 56) ?hr ?_; (case hd => rfl); (case hg => rfl); (case hr => first | (go_simp; done) | (go_simp; rfl)); intro g1 hg wv1_ hbox hb; have n0_ := Aside0.mk (below_step HB.out hb); have n1_ := Aside0.mk (hbox); have n2_ := Aside0.mk ((show w.heap.size ≤ g1 by rw [hg]; exact below_size HB.out)); clear HB; have HB := n0_; have BK1 := n1_; have ORD := n2_; clear n0_ n1_ n2_; clear hb hbox hg) | ((with_reducible refine gate_store (t := 56) (p := 8) rfl ?_); refine stw_event rfl rfl rfl (g := g1) (by first | rfl | (go_simp; done) | (go_simp; rfl)) (cs := cv1_) (by first | rfl | (go_simp; done) | (go_simp; rfl)) BK1.out (SZ1.out) (by rw [LN1.out]; rfl) (ONE1.out) ?_; intro wv2_ hbk ho; have n0_ := Aside0.mk (Other.below ho HB.out (by have := ORD.out; omega)); have n1_ := Aside0.mk (hbk); clear HB BK1; have HB := n0_; have BK1 := n1_; clear n0_ n1_; clear hbk ho) | ((with_reducible refine gate_dst (N := 25) rfl ?_); refine load_event (t := 56) (p := .tmp 24) (ad := bd.add (i_.toNat * 7)) rfl rfl (by first | rfl | (go_simp; done) | (go_simp; rfl)) Try.underlying56 ⟨_, rfl⟩ cv2_ (SZ2.out) (CSat.below HCS2.out HB.out) ?_) | ((with_reducible refine gate_dst (N := 9) rfl ?_); (try (refine gate_guard (by rfl) ?_; dsimp only)); refine box_event ?hg (N := 9) ?hd (cs := #[.string ⟨#[]⟩, .slice none 0 0, .int .i64 0, .int .i64 0, .string ⟨#[]⟩, .slice none 0 0, .slice none 0 0]) (t := 56) ?hr ?_; (case hd => rfl); (case hg => rfl); (case hr => first | (go_simp; done) | (go_simp; rfl)); intro g2 hg wv3_ hbox hb; have n0_ := Aside0.mk (below_step HB.out hb); have n1_ := Aside0.mk (blk_below BK1.out hb); have n2_ := Aside0.mk (hbox); have n3_ := Aside0.mk (And.intro ORD.out (show g1 < g2 by rw [hg]; exact blk_lt BK1.out)); clear HB BK1 ORD; have HB := n0_; have BK1 := n1_; have BK2 := n2_; have ORD := n3_; clear n0_ n1_ n2_ n3_; clear hb hbox hg) | ((with_reducible refine gate_store (t := 56) (p := 9) rfl ?_); refine stw_event rfl rfl rfl (g := g2) (by first | rfl | (go_simp; done) | (go_simp; rfl)) (cs := cv2_) (by first | rfl | (go_simp; done) | (go_simp; rfl)) BK2.out (SZ2.out) (by rw [LN2.out]; rfl) (ONE2.out) ?_; intro wv4_ hbk ho; have n0_ := Aside0.mk (Other.below ho HB.out (by have := ORD.out; omega)); have n1_ := Aside0.mk (Other.blk ho BK1.out (by have := ORD.out; omega)); have n2_ := Aside0.mk (hbk); clear HB BK1 BK2; have HB := n0_; have BK1 := n1_; have BK2 := n2_; clear n0_ n1_ n2_; clear hbk ho) | ((with_reducible refine gate_dst (N := 27) rfl ?_); refine ldw_event rfl rfl (by first | rfl | (go_simp; done) | (go_simp; rfl)) Try.underlying56 ⟨_, rfl⟩ BK1.out (SZ1.out) ?_) | ((with_reducible refine gate_dst (N := 28) rfl ?_); refine ldw_event rfl rfl (by first | rfl | (go_simp; done) | (go_simp; rfl)) Try.underlying56 ⟨_, rfl⟩ BK2.out (SZ2.out) ?_) | (go_at_call 25; (with_reducible refine (EqOK.calls (HS.out _ HM1.out _ HM2.out) cv1_ cv2_ _ (Kd.K_below _ HB.out HK1.out) (Kd.K_below _ HB.out HK2.out)).mono ?_); rintro e wv5_ ⟨rfl, hb⟩; have n0_ := Aside0.mk (below_step HB.out hb); have n1_ := Aside0.mk (blk_below BK1.out hb); have n2_ := Aside0.mk (blk_below BK2.out hb); clear HB BK1 BK2; have HB := n0_; have BK1 := n1_; have BK2 := n2_; clear n0_ n1_ n2_; clear hb))
        go_roundg (gk - 1)
        case measure => have := HQ.out; have := HC_.out; omega
        case rel => exact ⟨i_ + 1, by rw [show wrap64 (i_ + 1) = i_ + 1 from by have := HQ.out; have := HC_.out; unfold wrap64; omega], ⟨by have := HQ.out; have := HC_.out; omega⟩, ⟨by rw [← HX.out, HN.out, Bool.true_and]⟩, HB⟩
      | false =>
        have hbe := HBE.out
        go_wp2_with (first | ((with_reducible refine gate_dst (N := 21) rfl ?_); refine load_event (t := 56) (p := .tmp 20) (ad := ad.add (i_.toNat * 7)) rfl rfl (by first | rfl | (go_simp; done) | (go_simp; rfl)) Try.underlying56 ⟨_, rfl⟩ cv1_ (SZ1.out) (CSat.below HCS1.out HB.out) ?_) | ((with_reducible refine gate_dst (N := 8) rfl ?_); (try (refine gate_guard (by rfl) ?_; dsimp only)); refine box_event ?hg (N := 8) ?hd (cs := #[.string ⟨#[]⟩, .slice none 0 0, .int .i64 0, .int .i64 0, .string ⟨#[]⟩, .slice none 0 0, .slice none 0 0]) (t := 56) ?hr ?_; (case hd => rfl); (case hg => rfl); (case hr => first | (go_simp; done) | (go_simp; rfl)); intro g1 hg wv1_ hbox hb; have n0_ := Aside0.mk (below_step HB.out hb); have n1_ := Aside0.mk (hbox); have n2_ := Aside0.mk ((show w.heap.size ≤ g1 by rw [hg]; exact below_size HB.out)); clear HB; have HB := n0_; have BK1 := n1_; have ORD := n2_; clear n0_ n1_ n2_; clear hb hbox hg) | ((with_reducible refine gate_store (t := 56) (p := 8) rfl ?_); refine stw_event rfl rfl rfl (g := g1) (by first | rfl | (go_simp; done) | (go_simp; rfl)) (cs := cv1_) (by first | rfl | (go_simp; done) | (go_simp; rfl)) BK1.out (SZ1.out) (by rw [LN1.out]; rfl) (ONE1.out) ?_; intro wv2_ hbk ho; have n0_ := Aside0.mk (Other.below ho HB.out (by have := ORD.out; omega)); have n1_ := Aside0.mk (hbk); clear HB BK1; have HB := n0_; have BK1 := n1_; clear n0_ n1_; clear hbk ho) | ((with_reducible refine gate_dst (N := 25) rfl ?_); refine load_event (t := 56) (p := .tmp 24) (ad := bd.add (i_.toNat * 7)) rfl rfl (by first | rfl | (go_simp; done) | (go_simp; rfl)) Try.underlying56 ⟨_, rfl⟩ cv2_ (SZ2.out) (CSat.below HCS2.out HB.out) ?_) | ((with_reducible refine gate_dst (N := 9) rfl ?_); (try (refine gate_guard (by rfl) ?_; dsimp only)); refine box_event ?hg (N := 9) ?hd (cs := #[.string ⟨#[]⟩, .slice none 0 0, .int .i64 0, .int .i64 0, .string ⟨#[]⟩, .slice none 0 0, .slice none 0 0]) (t := 56) ?hr ?_; (case hd => rfl); (case hg => rfl); (case hr => first | (go_simp; done) | (go_simp; rfl)); intro g2 hg wv3_ hbox hb; have n0_ := Aside0.mk (below_step HB.out hb); have n1_ := Aside0.mk (blk_below BK1.out hb); have n2_ := Aside0.mk (hbox); have n3_ := Aside0.mk (And.intro ORD.out (show g1 < g2 by rw [hg]; exact blk_lt BK1.out)); clear HB BK1 ORD; have HB := n0_; have BK1 := n1_; have BK2 := n2_; have ORD := n3_; clear n0_ n1_ n2_ n3_; clear hb hbox hg) | ((with_reducible refine gate_store (t := 56) (p := 9) rfl ?_); refine stw_event rfl rfl rfl (g := g2) (by first | rfl | (go_simp; done) | (go_simp; rfl)) (cs := cv2_) (by first | rfl | (go_simp; done) | (go_simp; rfl)) BK2.out (SZ2.out) (by rw [LN2.out]; rfl) (ONE2.out) ?_; intro wv4_ hbk ho; have n0_ := Aside0.mk (Other.below ho HB.out (by have := ORD.out; omega)); have n1_ := Aside0.mk (Other.blk ho BK1.out (by have := ORD.out; omega)); have n2_ := Aside0.mk (hbk); clear HB BK1 BK2; have HB := n0_; have BK1 := n1_; have BK2 := n2_; clear n0_ n1_ n2_; clear hbk ho) | ((with_reducible refine gate_dst (N := 27) rfl ?_); refine ldw_event rfl rfl (by first | rfl | (go_simp; done) | (go_simp; rfl)) Try.underlying56 ⟨_, rfl⟩ BK1.out (SZ1.out) ?_) | ((with_reducible refine gate_dst (N := 28) rfl ?_); refine ldw_event rfl rfl (by first | rfl | (go_simp; done) | (go_simp; rfl)) Try.underlying56 ⟨_, rfl⟩ BK2.out (SZ2.out) ?_) | (go_at_call 25; (with_reducible refine (EqOK.calls (HS.out _ HM1.out _ HM2.out) cv1_ cv2_ _ (Kd.K_below _ HB.out HK1.out) (Kd.K_below _ HB.out HK2.out)).mono ?_); rintro e wv5_ ⟨rfl, hb⟩; have n0_ := Aside0.mk (below_step HB.out hb); have n1_ := Aside0.mk (blk_below BK1.out hb); have n2_ := Aside0.mk (blk_below BK2.out hb); clear HB BK1 BK2; have HB := n0_; have BK1 := n1_; have BK2 := n2_; clear n0_ n1_ n2_; clear hb))
        go_ret
        exact ⟨by rw [← HX.out, HN.out, Bool.false_and]; rfl, HB.out⟩
    · have cb : decide (i_ < (l.length : Int)) = false := decide_eq_false c_
      have hsm : sm l m = true := by rw [← HX.out]; exact sm_end l m _ (by omega) (by have := HLEN.out; omega)
      clear c_
      go_wp2
      go_ret
      exact ⟨by rw [hsm]; rfl, HB.out⟩
end Go.Proofs.Ytkfbkjcdngipcaa.PTreeEquals
