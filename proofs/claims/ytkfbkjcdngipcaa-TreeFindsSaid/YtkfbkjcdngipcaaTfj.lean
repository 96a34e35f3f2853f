import Derived.Test.YtkfbkjcdngipcaaTfi
import Derived.Laws.ResultCell
section
namespace Go.Proofs.Ytkfbkjcdngipcaa.PTreeEquals
open Go.RowKit Go.Proofs.YtkfbkjcdngipcaaW.PrintWords Go.Proofs.YtkfbkjcdngipcaaW.PrintLast Go.Proofs.YtkfbkjcdngipcaaW.PrintMore
attribute [local go_sem] nil24 nil25 nil26 nil31 nil32 nnil24 nnil25 nnil26 nnil31 nnil32 max2_int min2_int max_two min_two max_three min_three max_four min_four
set_option linter.unusedVariables false
set_option linter.unusedSimpArgs false
theorem results_cell_row_tmp {P : Program} {fn : Func} {p u : Tmp} {ty : TypeId} (h : fn.results = #[.cell p ty, .tmp u]) (tmps : Array Value) (w : World) (g : Nat) (t : TypeId) (cs : Array Value) (fr : Nat × Nat) (d : TypeDesc)
    (hp : tmps.getD p undef = .pointer (some ⟨g, 0, none⟩)) (hg : w.heap[g]? = some (.cells cs t fr)) (hu : P.underlying ty = some d) (hd : (match d with | .struct _ | .array _ _ => true | _ => false) = true) (hi : (P.info? ty).map (·.size) = some cs.size) :
    (results fn tmps).run P w = .ok (.tuple #[.agg cs, tmps.getD u undef]) w := by
  rw [results_cell_tmp h]
  have hp' : tmps[p]?.getD undef = .pointer (some ⟨g, 0, none⟩) := by simpa using hp
  simp [hp', asAddr, run_loadVar_row w g t ty cs fr d hg hu hd hi, Result.andThen]
def atP (x : S34) : List Int → Option S34
  | [] => some x
  | n :: r => if n < (x.f7.length : Int) ∨ (x.f8.length : Int) ≤ n - x.f7.length then none else atP (x.f8.getD (n - x.f7.length).toNat z34) r
theorem atP_step (x : S34) (path : List Int) (i : Int) (h0 : 0 ≤ i) (h1 : i < path.length) : atP x (path.drop i.toNat) = if rd path i < (x.f7.length : Int) ∨ (x.f8.length : Int) ≤ rd path i - x.f7.length then none else atP (x.f8.getD (rd path i - x.f7.length).toNat z34) (path.drop (i + 1).toNat) := by
  have h : i.toNat < path.length := by omega
  rw [List.drop_eq_getElem_cons h, show (i + 1).toNat = i.toNat + 1 by omega]
  simp [atP, rd, h]
theorem atP_wf : ∀ (path : List Int) (x y : S34), x.wf → atP x path = some y → y.wf
  | [], x, y, hw, h => by simp only [atP, Option.some.injEq] at h; subst h; exact hw
  | n :: r, x, y, hw, h => by
    simp only [atP] at h
    split at h
    · cases h
    · rename_i hc
      refine atP_wf r _ y ?_ h
      have h1 : (n - x.f7.length).toNat < x.f8.length := by omega
      have h2 := ((S34.wf_eq x).1 hw).2.2.2
      rw [S34.wfs_iff] at h2
      exact h2 _ (by rw [List.getD_eq_getElem?_getD, List.getElem?_eq_getElem h1]; exact List.getElem_mem _)
def ErrAt (e : Ending) : Prop := e = .returned (.tuple #[.agg #[.int .i64 0, .string ⟨#[]⟩, .string ⟨#[]⟩, .string ⟨#[]⟩, .int .i64 0, .int .i64 0, .int .i64 0, .int .i64 0, .int .i64 0, .int .i64 0, .int .i64 0, .int .i64 0, .int .i64 0, .int .i64 0, .int .i64 0, .int .i64 0, .int .i64 0, .int .i64 0, .int .i64 0, .int .i64 0, .int .i64 0, .slice none 0 0, .slice none 0 0], .int .i64 2])
theorem k34_v7 {b : Nat} {w : World} {x : S34} {v7 v8 : Value} (h : Kd.Fr k34 b w x [.int .i64 x.f0, .string x.f1, .string x.f2, .string x.f3, .int .i64 x.f4, .int .i64 x.f5.f0, .int .i64 x.f5.f1, .int .i64 x.f5.f2, .int .i64 x.f6.f0, .int .i64 x.f6.f1, .int .i64 x.f6.f2, .int .i64 x.f6.f3, .int .i64 x.f6.f4.f0, .int .i64 x.f6.f4.f1, .int .i64 x.f6.f4.f2, .int .i64 x.f6.f5.f0, .int .i64 x.f6.f5.f1, .int .i64 x.f6.f5.f2, .int .i64 x.f6.f6.f0, .int .i64 x.f6.f6.f1, .int .i64 x.f6.f7, v7, v8]) : ∃ A c, v7 = .slice A x.f7.length c := by
  obtain ⟨A7, c7, A8, c8, e, _⟩ := k34_open (Kd.Fr.K h)
  simp only [List.cons.injEq, true_and, and_true] at e
  exact ⟨A7, c7, e.1⟩
theorem k34_v8 {b : Nat} {w : World} {x : S34} {v7 v8 : Value} (h : Kd.Fr k34 b w x [.int .i64 x.f0, .string x.f1, .string x.f2, .string x.f3, .int .i64 x.f4, .int .i64 x.f5.f0, .int .i64 x.f5.f1, .int .i64 x.f5.f2, .int .i64 x.f6.f0, .int .i64 x.f6.f1, .int .i64 x.f6.f2, .int .i64 x.f6.f3, .int .i64 x.f6.f4.f0, .int .i64 x.f6.f4.f1, .int .i64 x.f6.f4.f2, .int .i64 x.f6.f5.f0, .int .i64 x.f6.f5.f1, .int .i64 x.f6.f5.f2, .int .i64 x.f6.f6.f0, .int .i64 x.f6.f6.f1, .int .i64 x.f6.f7, v7, v8]) : ∃ A c, v8 = .slice A x.f8.length c := by
  obtain ⟨A7, c7, A8, c8, e, _⟩ := k34_open (Kd.Fr.K h)
  simp only [List.cons.injEq, true_and, and_true] at e
  exact ⟨A8, c8, e.2⟩
def refAt.Post (w w' : World) (e : Ending) : Option S34 → Prop
  | .none => ErrAt e
  | .some x => ∃ cs, e = .returned (.tuple #[.agg cs.toArray, .int .i64 0]) ∧ k34.K w' x cs
set_option maxHeartbeats 16000000 in
set_option maxRecDepth 100000 in
theorem refAt.calls (a : S36) (cs : List Value) (path : List Int) (P : Option Addr) (pc : Nat) (w : World) (hk : k36.K w a cs) (hpr : Kd.C (Kd.int .i64) w P path.length path) (hp : ∀ n ∈ path, n ≤ 9223372036854775807) :
    Calls Try.prog 10 #[.agg cs.toArray, .slice P path.length pc] w fun e w' => Below w.heap.size w w' ∧ refAt.Post w w' e (atP a.f5 path) := by
  obtain ⟨A2, A2c, A3, A3c, A4, A4c, A7, A7c, A8, A8c, rfl, l2, g2_, l3, g3_, l4, g4_, l7, g7, l8, g8⟩ := k36_open hk
  have hu34 := Try.underlying34
  have hu36 := Try.underlying36
  have HXX0 := Aside0.mk (show a.f5.f7.length ≤ A7c ∧ Kd.C k54 w A7 a.f5.f7.length a.f5.f7 ∧ a.f5.f8.length ≤ A8c ∧ Kd.C k34 w A8 a.f5.f8.length a.f5.f8 from ⟨l7, g7, l8, g8⟩)
  have HPR := Aside0.mk hpr
  have HP := Aside0.mk hp
  have hmx := Kd.C_max hpr
  clear hk l2 g2_ l3 g3_ l4 g4_ l7 g7 l8 g8 hpr hp
  have HB := Aside0.mk (Below.refl w.heap.size w)
  go_enter Try.func10, Try.ntmps10
  go_upto_region 2 with (first | ((with_reducible refine gate_dst (N := 2) rfl ?_); go_loud ((try (refine gate_guard (by rfl) ?_; dsimp only)); refine box_event ?hg (N := 2) ?hd (cs := #[.string a.f0, .int .i64 a.f1.f0, .int .i64 a.f1.f1, .int .i64 a.f1.f2, .slice A2 a.f2.length A2c, .slice A3 a.f3.length A3c, .slice A4 a.f4.length A4c, .int .i64 a.f5.f0, .string a.f5.f1, .string a.f5.f2, .string a.f5.f3, .int .i64 a.f5.f4, .int .i64 a.f5.f5.f0, .int .i64 a.f5.f5.f1, .int .i64 a.f5.f5.f2, .int .i64 a.f5.f6.f0, .int .i64 a.f5.f6.f1, .int .i64 a.f5.f6.f2, .int .i64 a.f5.f6.f3, .int .i64 a.f5.f6.f4.f0, .int .i64 a.f5.f6.f4.f1, .int .i64 a.f5.f6.f4.f2, .int .i64 a.f5.f6.f5.f0, .int .i64 a.f5.f6.f5.f1, .int .i64 a.f5.f6.f5.f2, .int .i64 a.f5.f6.f6.f0, .int .i64 a.f5.f6.f6.f1, .int .i64 a.f5.f6.f7, .slice A7 a.f5.f7.length A7c, .slice A8 a.f5.f8.length A8c]) (t := 36) ?hr ?_; (case hd => rfl); (case hg => rfl); (case hr => first | (go_simp; done) | (go_simp; rfl)); intro g1 hg wv1_ hbox hb; have n0_ := Aside0.mk (below_step HB.out hb); have n1_ := Aside0.mk (hbox); have n2_ := Aside0.mk ((show w.heap.size ≤ g1 by rw [hg]; exact below_size HB.out)); clear HB; have HB := n0_; have BK1 := n1_; have ORD := n2_; clear n0_ n1_ n2_; clear hb hbox hg)) | ((with_reducible refine gate_dst (N := 4) rfl ?_); go_loud ((try (refine gate_guard (by rfl) ?_; dsimp only)); refine box_event ?hg (N := 4) ?hd (cs := #[.int .i64 0, .string ⟨#[]⟩, .string ⟨#[]⟩, .string ⟨#[]⟩, .int .i64 0, .int .i64 0, .int .i64 0, .int .i64 0, .int .i64 0, .int .i64 0, .int .i64 0, .int .i64 0, .int .i64 0, .int .i64 0, .int .i64 0, .int .i64 0, .int .i64 0, .int .i64 0, .int .i64 0, .int .i64 0, .int .i64 0, .slice none 0 0, .slice none 0 0]) (t := 34) ?hr ?_; (case hd => rfl); (case hg => rfl); (case hr => first | (go_simp; done) | (go_simp; rfl)); intro g2 hg wv2_ hbox hb; have n0_ := Aside0.mk (below_step HB.out hb); have n1_ := Aside0.mk (blk_below BK1.out hb); have n2_ := Aside0.mk (hbox); have n3_ := Aside0.mk (And.intro ORD.out (show g1 < g2 by rw [hg]; exact blk_lt BK1.out)); clear HB BK1 ORD; have HB := n0_; have BK1 := n1_; have BK2 := n2_; have ORD := n3_; clear n0_ n1_ n2_ n3_; clear hb hbox hg)) | ((with_reducible refine gate_dst (N := 10) rfl ?_); go_loud ((try (refine gate_guard (by rfl) ?_; dsimp only)); refine ldb_event rfl rfl (by first | rfl | (go_simp; done) | (go_simp; rfl)) Try.underlying34 ⟨_, rfl⟩ BK1.out 23 size34 [.int .i64 a.f5.f0, .string a.f5.f1, .string a.f5.f2, .string a.f5.f3, .int .i64 a.f5.f4, .int .i64 a.f5.f5.f0, .int .i64 a.f5.f5.f1, .int .i64 a.f5.f5.f2, .int .i64 a.f5.f6.f0, .int .i64 a.f5.f6.f1, .int .i64 a.f5.f6.f2, .int .i64 a.f5.f6.f3, .int .i64 a.f5.f6.f4.f0, .int .i64 a.f5.f6.f4.f1, .int .i64 a.f5.f6.f4.f2, .int .i64 a.f5.f6.f5.f0, .int .i64 a.f5.f6.f5.f1, .int .i64 a.f5.f6.f5.f2, .int .i64 a.f5.f6.f6.f0, .int .i64 a.f5.f6.f6.f1, .int .i64 a.f5.f6.f7, .slice A7 a.f5.f7.length A7c, .slice A8 a.f5.f8.length A8c] rfl rfl ?_)) | ((with_reducible refine gate_dst (N := 6) rfl ?_); go_loud ((try (refine gate_guard (by rfl) ?_; dsimp only)); refine box_event ?hg (N := 6) ?hd (cs := #[.int .i64 0, .string ⟨#[]⟩, .string ⟨#[]⟩, .string ⟨#[]⟩, .int .i64 0, .int .i64 0, .int .i64 0, .int .i64 0, .int .i64 0, .int .i64 0, .int .i64 0, .int .i64 0, .int .i64 0, .int .i64 0, .int .i64 0, .int .i64 0, .int .i64 0, .int .i64 0, .int .i64 0, .int .i64 0, .int .i64 0, .slice none 0 0, .slice none 0 0]) (t := 34) ?hr ?_; (case hd => rfl); (case hg => rfl); (case hr => first | (go_simp; done) | (go_simp; rfl)); intro g3 hg wv3_ hbox hb; have n0_ := Aside0.mk (below_step HB.out hb); have n1_ := Aside0.mk (blk_below BK1.out hb); have n2_ := Aside0.mk (blk_below BK2.out hb); have n3_ := Aside0.mk (hbox); have n4_ := Aside0.mk (And.intro ORD.out (show g2 < g3 by rw [hg]; exact blk_lt BK2.out)); clear HB BK1 BK2 ORD; have HB := n0_; have BK1 := n1_; have BK2 := n2_; have BK3 := n3_; have ORD := n4_; clear n0_ n1_ n2_ n3_ n4_; clear hb hbox hg)) | ((with_reducible refine gate_store (t := 34) (p := 6) rfl ?_); go_loud (refine st_event rfl rfl rfl (g := g3) (j := 0) (by first | rfl | (go_simp; done) | (go_simp; rfl)) (u := .agg #[.int .i64 a.f5.f0, .string a.f5.f1, .string a.f5.f2, .string a.f5.f3, .int .i64 a.f5.f4, .int .i64 a.f5.f5.f0, .int .i64 a.f5.f5.f1, .int .i64 a.f5.f5.f2, .int .i64 a.f5.f6.f0, .int .i64 a.f5.f6.f1, .int .i64 a.f5.f6.f2, .int .i64 a.f5.f6.f3, .int .i64 a.f5.f6.f4.f0, .int .i64 a.f5.f6.f4.f1, .int .i64 a.f5.f6.f4.f2, .int .i64 a.f5.f6.f5.f0, .int .i64 a.f5.f6.f5.f1, .int .i64 a.f5.f6.f5.f2, .int .i64 a.f5.f6.f6.f0, .int .i64 a.f5.f6.f6.f1, .int .i64 a.f5.f6.f7, .slice A7 a.f5.f7.length A7c, .slice A8 a.f5.f8.length A8c]) (by first | rfl | (go_simp; done) | (go_simp; rfl)) BK3.out 23 size34 rfl (by simp) (by intro x hx; simp [Value.cells] at hx; rcases hx with rfl | rfl | rfl | rfl | rfl | rfl | rfl | rfl | rfl | rfl | rfl | rfl | rfl | rfl | rfl | rfl | rfl | rfl | rfl | rfl | rfl | rfl | rfl <;> rfl) #[.int .i64 a.f5.f0, .string a.f5.f1, .string a.f5.f2, .string a.f5.f3, .int .i64 a.f5.f4, .int .i64 a.f5.f5.f0, .int .i64 a.f5.f5.f1, .int .i64 a.f5.f5.f2, .int .i64 a.f5.f6.f0, .int .i64 a.f5.f6.f1, .int .i64 a.f5.f6.f2, .int .i64 a.f5.f6.f3, .int .i64 a.f5.f6.f4.f0, .int .i64 a.f5.f6.f4.f1, .int .i64 a.f5.f6.f4.f2, .int .i64 a.f5.f6.f5.f0, .int .i64 a.f5.f6.f5.f1, .int .i64 a.f5.f6.f5.f2, .int .i64 a.f5.f6.f6.f0, .int .i64 a.f5.f6.f6.f1, .int .i64 a.f5.f6.f7, .slice A7 a.f5.f7.length A7c, .slice A8 a.f5.f8.length A8c] rfl ?_; intro wv4_ hbk ho; have n0_ := Aside0.mk (Other.below ho HB.out (by have := ORD.out; omega)); have n1_ := Aside0.mk (Other.blk ho BK1.out (by have := ORD.out; omega)); have n2_ := Aside0.mk (Other.blk ho BK2.out (by have := ORD.out; omega)); have n3_ := Aside0.mk (hbk); clear HB BK1 BK2 BK3; have HB := n0_; have BK1 := n1_; have BK2 := n2_; have BK3 := n3_; clear n0_ n1_ n2_ n3_; clear hbk ho)))
  go_wp2
  go_loopg [7] path.length (fun kq v7 w' => ∃ (i_ : Int) (x_ : S34) (X7 : Option Addr) (X7c : Nat) (X8 : Option Addr) (X8c : Nat), v7 = .int .i64 i_ ∧ Aside0 (0 ≤ i_ ∧ i_ + (kq : Int) = (path.length : Int)) ∧ Aside0 (atP x_ (path.drop i_.toNat) = atP a.f5 path) ∧ Aside0 (x_.f7.length ≤ X7c ∧ Kd.C k54 w X7 x_.f7.length x_.f7 ∧ x_.f8.length ≤ X8c ∧ Kd.C k34 w X8 x_.f8.length x_.f8) ∧ Aside0 (w'.heap[g1]? = some (.cells #[.string a.f0, .int .i64 a.f1.f0, .int .i64 a.f1.f1, .int .i64 a.f1.f2, .slice A2 a.f2.length A2c, .slice A3 a.f3.length A3c, .slice A4 a.f4.length A4c, .int .i64 a.f5.f0, .string a.f5.f1, .string a.f5.f2, .string a.f5.f3, .int .i64 a.f5.f4, .int .i64 a.f5.f5.f0, .int .i64 a.f5.f5.f1, .int .i64 a.f5.f5.f2, .int .i64 a.f5.f6.f0, .int .i64 a.f5.f6.f1, .int .i64 a.f5.f6.f2, .int .i64 a.f5.f6.f3, .int .i64 a.f5.f6.f4.f0, .int .i64 a.f5.f6.f4.f1, .int .i64 a.f5.f6.f4.f2, .int .i64 a.f5.f6.f5.f0, .int .i64 a.f5.f6.f5.f1, .int .i64 a.f5.f6.f5.f2, .int .i64 a.f5.f6.f6.f0, .int .i64 a.f5.f6.f6.f1, .int .i64 a.f5.f6.f7, .slice A7 a.f5.f7.length A7c, .slice A8 a.f5.f8.length A8c] 36 (0, 0))) ∧ Aside0 (w'.heap[g2]? = some (.cells #[.int .i64 0, .string ⟨#[]⟩, .string ⟨#[]⟩, .string ⟨#[]⟩, .int .i64 0, .int .i64 0, .int .i64 0, .int .i64 0, .int .i64 0, .int .i64 0, .int .i64 0, .int .i64 0, .int .i64 0, .int .i64 0, .int .i64 0, .int .i64 0, .int .i64 0, .int .i64 0, .int .i64 0, .int .i64 0, .int .i64 0, .slice none 0 0, .slice none 0 0] 34 (0, 0))) ∧ Aside0 (w'.heap[g3]? = some (.cells #[.int .i64 x_.f0, .string x_.f1, .string x_.f2, .string x_.f3, .int .i64 x_.f4, .int .i64 x_.f5.f0, .int .i64 x_.f5.f1, .int .i64 x_.f5.f2, .int .i64 x_.f6.f0, .int .i64 x_.f6.f1, .int .i64 x_.f6.f2, .int .i64 x_.f6.f3, .int .i64 x_.f6.f4.f0, .int .i64 x_.f6.f4.f1, .int .i64 x_.f6.f4.f2, .int .i64 x_.f6.f5.f0, .int .i64 x_.f6.f5.f1, .int .i64 x_.f6.f5.f2, .int .i64 x_.f6.f6.f0, .int .i64 x_.f6.f6.f1, .int .i64 x_.f6.f7, .slice X7 x_.f7.length X7c, .slice X8 x_.f8.length X8c] 34 (0, 0))) ∧ Aside0 (Below w.heap.size w w'))
  case atStart => exact ⟨0, a.f5, A7, A7c, A8, A8c, rfl, ⟨by omega, by omega⟩, ⟨rfl⟩, HXX0, BK1, BK2, BK3, HB⟩
  case round =>
    clear HB BK1 BK2 BK3
    obtain ⟨i_, x_, X7, X7c, X8, X8c, rfl, HQ, HX, HXX, BK1, BK2, BK3, HB⟩ := hrel
    by_cases c_ : i_ < (path.length : Int)
    · have cb : decide (i_ < (path.length : Int)) = true := decide_eq_true c_
      have p_ : 0 ≤ i_ := HQ.out.1
      have hst := atP_step x_ path i_ p_ c_
      obtain ⟨pd, e_, hcp⟩ := Kd.at_int HPR.out i_ p_ c_
      obtain rfl := e_
      have hnm : rd path i_ ≤ 9223372036854775807 := HP.out _ (by unfold rd; rw [List.getD_eq_getElem?_getD, List.getElem?_eq_getElem (show i_.toNat < path.length by omega)]; exact List.getElem_mem _)
      obtain ⟨n_, hn_⟩ : ∃ q, q = rd path i_ := ⟨_, rfl⟩
      rw [← hn_] at hst hcp hnm
      clear hn_
      have HST := Aside0.mk hst
      have HCP := Aside0.mk hcp
      have hm7 := Kd.C_max HXX.out.2.1
      have hm8 := Kd.C_max HXX.out.2.2.2
      have HNM := Aside0.mk (show n_ ≤ 9223372036854775807 ∧ (x_.f7.length : Int) ≤ 9223372036854775807 from ⟨hnm, by omega⟩)
      clear hst hcp hnm hm7 hm8
      have HC_ := Aside0.mk c_
      replace p_ := eq_true p_
      replace c_ := eq_true c_
      by_cases h1 : n_ < (x_.f7.length : Int)
      · have hd1 : decide (n_ < (x_.f7.length : Int)) = true := decide_eq_true h1
        go_wp2_with (first | ((with_reducible refine gate_dst (N := 20) rfl ?_); go_loud (refine ld_event rfl rfl (by first | rfl | (go_simp; done) | (go_simp; rfl)) Try.underlying3 trivial (.int .i64 n_) ((HB.out.cell (World.block_lt_of_cell? _ _ HCP.out)).trans HCP.out) ?_)) | ((with_reducible refine gate_dst (N := 23) rfl ?_); go_loud ((try (refine gate_guard (by rfl) ?_; dsimp only)); refine ld_event rfl rfl (by first | rfl | (go_simp; done) | (go_simp; rfl)) Try.underlying31 trivial (.slice X7 x_.f7.length X7c) ((blk_cell BK3.out 21).trans rfl) ?_)) | ((with_reducible refine gate_dst (N := 29) rfl ?_); go_loud ((try (refine gate_guard (by rfl) ?_; dsimp only)); refine ld_event rfl rfl (by first | rfl | (go_simp; done) | (go_simp; rfl)) Try.underlying31 trivial (.slice X7 x_.f7.length X7c) ((blk_cell BK3.out 21).trans rfl) ?_)) | ((with_reducible refine gate_dst (N := 33) rfl ?_); go_loud ((try (refine gate_guard (by rfl) ?_; dsimp only)); refine ld_event rfl rfl (by first | rfl | (go_simp; done) | (go_simp; rfl)) Try.underlying32 trivial (.slice X8 x_.f8.length X8c) ((blk_cell BK3.out 22).trans rfl) ?_)) | ((with_reducible refine gate_store (t := 34) (p := 4) rfl ?_); go_loud (refine st_event rfl rfl rfl (g := g2) (j := 0) (by first | rfl | (go_simp; done) | (go_simp; rfl)) (u := .agg #[.int .i64 0, .string ⟨#[]⟩, .string ⟨#[]⟩, .string ⟨#[]⟩, .int .i64 0, .int .i64 0, .int .i64 0, .int .i64 0, .int .i64 0, .int .i64 0, .int .i64 0, .int .i64 0, .int .i64 0, .int .i64 0, .int .i64 0, .int .i64 0, .int .i64 0, .int .i64 0, .int .i64 0, .int .i64 0, .int .i64 0, .slice none 0 0, .slice none 0 0]) (by first | rfl | (go_simp; done) | (go_simp; rfl)) BK2.out 23 size34 rfl (by simp) (by intro x hx; simp [Value.cells] at hx; rcases hx with rfl | rfl | rfl | rfl | rfl | rfl | rfl | rfl | rfl | rfl | rfl | rfl | rfl | rfl | rfl | rfl | rfl | rfl | rfl | rfl | rfl | rfl | rfl <;> rfl) #[.int .i64 0, .string ⟨#[]⟩, .string ⟨#[]⟩, .string ⟨#[]⟩, .int .i64 0, .int .i64 0, .int .i64 0, .int .i64 0, .int .i64 0, .int .i64 0, .int .i64 0, .int .i64 0, .int .i64 0, .int .i64 0, .int .i64 0, .int .i64 0, .int .i64 0, .int .i64 0, .int .i64 0, .int .i64 0, .int .i64 0, .slice none 0 0, .slice none 0 0] rfl ?_; intro wv5_ hbk ho; have n0_ := Aside0.mk (Other.below ho HB.out (by have := ORD.out; omega)); have n1_ := Aside0.mk (Other.blk ho BK1.out (by have := ORD.out; omega)); have n2_ := Aside0.mk (hbk); have n3_ := Aside0.mk (Other.blk ho BK3.out (by have := ORD.out; omega)); clear HB BK1 BK2 BK3; have HB := n0_; have BK1 := n1_; have BK2 := n2_; have BK3 := n3_; clear n0_ n1_ n2_ n3_; clear hbk ho)))
        (try simp only [Exit.inBlock, Exit.then])
        refine bodyPost_ret (results_cell_row_tmp rfl _ _ g2 34 #[.int .i64 0, .string ⟨#[]⟩, .string ⟨#[]⟩, .string ⟨#[]⟩, .int .i64 0, .int .i64 0, .int .i64 0, .int .i64 0, .int .i64 0, .int .i64 0, .int .i64 0, .int .i64 0, .int .i64 0, .int .i64 0, .int .i64 0, .int .i64 0, .int .i64 0, .int .i64 0, .int .i64 0, .int .i64 0, .int .i64 0, .slice none 0 0, .slice none 0 0] (0, 0) _ rfl BK2.out Try.underlying34 rfl size34) rfl ?_
        have hat : atP a.f5 path = none := by rw [← HX.out, HST.out, if_pos (by left; omega)]
        rw [hat]
        exact ⟨HB.out, rfl⟩
      by_cases h2 : (x_.f8.length : Int) ≤ n_ - (x_.f7.length : Int)
      · have hd1 : decide (n_ < (x_.f7.length : Int)) = false := decide_eq_false h1
        have hd2 : decide ((x_.f8.length : Int) ≤ n_ - (x_.f7.length : Int)) = true := decide_eq_true h2
        have hd3 : decide (n_ - (x_.f7.length : Int) < 0) = false := decide_eq_false (by omega)
        have hk0 : wrap64 (n_ - (x_.f7.length : Int)) = n_ - (x_.f7.length : Int) := by have := HNM.out; unfold wrap64; omega
        go_wp2_with (first | ((with_reducible refine gate_dst (N := 20) rfl ?_); go_loud (refine ld_event rfl rfl (by first | rfl | (go_simp; done) | (go_simp; rfl)) Try.underlying3 trivial (.int .i64 n_) ((HB.out.cell (World.block_lt_of_cell? _ _ HCP.out)).trans HCP.out) ?_)) | ((with_reducible refine gate_dst (N := 23) rfl ?_); go_loud ((try (refine gate_guard (by rfl) ?_; dsimp only)); refine ld_event rfl rfl (by first | rfl | (go_simp; done) | (go_simp; rfl)) Try.underlying31 trivial (.slice X7 x_.f7.length X7c) ((blk_cell BK3.out 21).trans rfl) ?_)) | ((with_reducible refine gate_dst (N := 29) rfl ?_); go_loud ((try (refine gate_guard (by rfl) ?_; dsimp only)); refine ld_event rfl rfl (by first | rfl | (go_simp; done) | (go_simp; rfl)) Try.underlying31 trivial (.slice X7 x_.f7.length X7c) ((blk_cell BK3.out 21).trans rfl) ?_)) | ((with_reducible refine gate_dst (N := 33) rfl ?_); go_loud ((try (refine gate_guard (by rfl) ?_; dsimp only)); refine ld_event rfl rfl (by first | rfl | (go_simp; done) | (go_simp; rfl)) Try.underlying32 trivial (.slice X8 x_.f8.length X8c) ((blk_cell BK3.out 22).trans rfl) ?_)) | ((with_reducible refine gate_store (t := 34) (p := 4) rfl ?_); go_loud (refine st_event rfl rfl rfl (g := g2) (j := 0) (by first | rfl | (go_simp; done) | (go_simp; rfl)) (u := .agg #[.int .i64 0, .string ⟨#[]⟩, .string ⟨#[]⟩, .string ⟨#[]⟩, .int .i64 0, .int .i64 0, .int .i64 0, .int .i64 0, .int .i64 0, .int .i64 0, .int .i64 0, .int .i64 0, .int .i64 0, .int .i64 0, .int .i64 0, .int .i64 0, .int .i64 0, .int .i64 0, .int .i64 0, .int .i64 0, .int .i64 0, .slice none 0 0, .slice none 0 0]) (by first | rfl | (go_simp; done) | (go_simp; rfl)) BK2.out 23 size34 rfl (by simp) (by intro x hx; simp [Value.cells] at hx; rcases hx with rfl | rfl | rfl | rfl | rfl | rfl | rfl | rfl | rfl | rfl | rfl | rfl | rfl | rfl | rfl | rfl | rfl | rfl | rfl | rfl | rfl | rfl | rfl <;> rfl) #[.int .i64 0, .string ⟨#[]⟩, .string ⟨#[]⟩, .string ⟨#[]⟩, .int .i64 0, .int .i64 0, .int .i64 0, .int .i64 0, .int .i64 0, .int .i64 0, .int .i64 0, .int .i64 0, .int .i64 0, .int .i64 0, .int .i64 0, .int .i64 0, .int .i64 0, .int .i64 0, .int .i64 0, .int .i64 0, .int .i64 0, .slice none 0 0, .slice none 0 0] rfl ?_; intro wv5_ hbk ho; have n0_ := Aside0.mk (Other.below ho HB.out (by have := ORD.out; omega)); have n1_ := Aside0.mk (Other.blk ho BK1.out (by have := ORD.out; omega)); have n2_ := Aside0.mk (hbk); have n3_ := Aside0.mk (Other.blk ho BK3.out (by have := ORD.out; omega)); clear HB BK1 BK2 BK3; have HB := n0_; have BK1 := n1_; have BK2 := n2_; have BK3 := n3_; clear n0_ n1_ n2_ n3_; clear hbk ho)))
        (try simp only [Exit.inBlock, Exit.then])
        refine bodyPost_ret (results_cell_row_tmp rfl _ _ g2 34 #[.int .i64 0, .string ⟨#[]⟩, .string ⟨#[]⟩, .string ⟨#[]⟩, .int .i64 0, .int .i64 0, .int .i64 0, .int .i64 0, .int .i64 0, .int .i64 0, .int .i64 0, .int .i64 0, .int .i64 0, .int .i64 0, .int .i64 0, .int .i64 0, .int .i64 0, .int .i64 0, .int .i64 0, .int .i64 0, .int .i64 0, .slice none 0 0, .slice none 0 0] (0, 0) _ rfl BK2.out Try.underlying34 rfl size34) rfl ?_
        have hat : atP a.f5 path = none := by rw [← HX.out, HST.out, if_pos (by right; omega)]
        rw [hat]
        exact ⟨HB.out, rfl⟩
      obtain ⟨m_, hm_⟩ : ∃ m, m = n_ - (x_.f7.length : Int) := ⟨_, rfl⟩
      have HME := Aside0.mk hm_
      have hk0 : wrap64 (n_ - (x_.f7.length : Int)) = m_ := by have := HNM.out; unfold wrap64; omega
      have hd1 : decide (n_ < (x_.f7.length : Int)) = false := decide_eq_false h1
      have hd2 : decide ((x_.f8.length : Int) ≤ m_) = false := decide_eq_false (by omega)
      have hd3 : decide (m_ < 0) = false := decide_eq_false (by omega)
      have hd4 : decide (n_ < 0) = false := decide_eq_false (by omega)
      have p2_ : 0 ≤ m_ := by omega
      have c2_ : m_ < (x_.f8.length : Int) := by omega
      obtain ⟨xd, cv_, e_, _, hK_, hc_⟩ := Kd.C_get HXX.out.2.2.2 z34 m_ p2_ c2_
      obtain rfl := e_
      have hst := HST.out
      rw [← HME.out] at hst
      obtain ⟨y_, hy_⟩ : ∃ q, q = x_.f8.getD m_.toNat z34 := ⟨_, rfl⟩
      rw [← hy_] at hK_ hst
      clear hy_
      obtain ⟨E7, E7c, E8, E8c, rfl, e7l, e7g, e8l, e8g⟩ := k34_open hK_
      have HCS := Aside0.mk (show CSat w (xd.add (m_.toNat * 23)) [.int .i64 y_.f0, .string y_.f1, .string y_.f2, .string y_.f3, .int .i64 y_.f4, .int .i64 y_.f5.f0, .int .i64 y_.f5.f1, .int .i64 y_.f5.f2, .int .i64 y_.f6.f0, .int .i64 y_.f6.f1, .int .i64 y_.f6.f2, .int .i64 y_.f6.f3, .int .i64 y_.f6.f4.f0, .int .i64 y_.f6.f4.f1, .int .i64 y_.f6.f4.f2, .int .i64 y_.f6.f5.f0, .int .i64 y_.f6.f5.f1, .int .i64 y_.f6.f5.f2, .int .i64 y_.f6.f6.f0, .int .i64 y_.f6.f6.f1, .int .i64 y_.f6.f7, .slice E7 y_.f7.length E7c, .slice E8 y_.f8.length E8c] from fun j v hj => by rw [World_add_add]; exact hc_ j v hj)
      have HYY := Aside0.mk (show y_.f7.length ≤ E7c ∧ Kd.C k54 w E7 y_.f7.length y_.f7 ∧ y_.f8.length ≤ E8c ∧ Kd.C k34 w E8 y_.f8.length y_.f8 from ⟨e7l, e7g, e8l, e8g⟩)
      have HS2 := Aside0.mk (show atP y_ (path.drop (i_ + 1).toNat) = atP a.f5 path by rw [← HX.out, hst, if_neg (by omega)])
      have k0_ : (0 ≤ m_) = True := eq_true p2_
      have k1_ : (m_ < (x_.f8.length : Int)) = True := eq_true c2_
      clear hK_ hc_ e7l e7g e8l e8g h1 h2 hm_ hst p2_ c2_
      go_wp2_with (first | ((with_reducible refine gate_dst (N := 20) rfl ?_); go_loud (refine ld_event rfl rfl (by first | rfl | (go_simp; done) | (go_simp; rfl)) Try.underlying3 trivial (.int .i64 n_) ((HB.out.cell (World.block_lt_of_cell? _ _ HCP.out)).trans HCP.out) ?_)) | ((with_reducible refine gate_dst (N := 23) rfl ?_); go_loud ((try (refine gate_guard (by rfl) ?_; dsimp only)); refine ld_event rfl rfl (by first | rfl | (go_simp; done) | (go_simp; rfl)) Try.underlying31 trivial (.slice X7 x_.f7.length X7c) ((blk_cell BK3.out 21).trans rfl) ?_)) | ((with_reducible refine gate_dst (N := 29) rfl ?_); go_loud ((try (refine gate_guard (by rfl) ?_; dsimp only)); refine ld_event rfl rfl (by first | rfl | (go_simp; done) | (go_simp; rfl)) Try.underlying31 trivial (.slice X7 x_.f7.length X7c) ((blk_cell BK3.out 21).trans rfl) ?_)) | ((with_reducible refine gate_dst (N := 33) rfl ?_); go_loud ((try (refine gate_guard (by rfl) ?_; dsimp only)); refine ld_event rfl rfl (by first | rfl | (go_simp; done) | (go_simp; rfl)) Try.underlying32 trivial (.slice (some xd) x_.f8.length X8c) ((blk_cell BK3.out 22).trans rfl) ?_)) | ((with_reducible refine gate_dst (N := 39) rfl ?_); go_loud ((try (refine gate_guard (by rfl) ?_; dsimp only)); refine ld_event rfl rfl (by first | rfl | (go_simp; done) | (go_simp; rfl)) Try.underlying32 trivial (.slice (some xd) x_.f8.length X8c) ((blk_cell BK3.out 22).trans rfl) ?_)) | ((with_reducible refine gate_dst (N := 42) rfl ?_); go_loud ((try (refine gate_guard (by rfl) ?_; dsimp only)); refine ld_event rfl rfl (by first | rfl | (go_simp; done) | (go_simp; rfl)) Try.underlying31 trivial (.slice X7 x_.f7.length X7c) ((blk_cell BK3.out 21).trans rfl) ?_)) | ((with_reducible refine gate_dst (N := 46) rfl ?_); go_loud (refine load_event (t := 34) (p := .tmp 45) (ad := xd.add (m_.toNat * 23)) rfl rfl (by first | rfl | (go_simp; done) | (go_simp; rfl)) Try.underlying34 ⟨_, rfl⟩ [.int .i64 y_.f0, .string y_.f1, .string y_.f2, .string y_.f3, .int .i64 y_.f4, .int .i64 y_.f5.f0, .int .i64 y_.f5.f1, .int .i64 y_.f5.f2, .int .i64 y_.f6.f0, .int .i64 y_.f6.f1, .int .i64 y_.f6.f2, .int .i64 y_.f6.f3, .int .i64 y_.f6.f4.f0, .int .i64 y_.f6.f4.f1, .int .i64 y_.f6.f4.f2, .int .i64 y_.f6.f5.f0, .int .i64 y_.f6.f5.f1, .int .i64 y_.f6.f5.f2, .int .i64 y_.f6.f6.f0, .int .i64 y_.f6.f6.f1, .int .i64 y_.f6.f7, .slice E7 y_.f7.length E7c, .slice E8 y_.f8.length E8c] (size34) (CSat.below HCS.out HB.out) ?_)) | ((with_reducible refine gate_store (t := 34) (p := 6) rfl ?_); go_loud (refine st_event rfl rfl rfl (g := g3) (j := 0) (by first | rfl | (go_simp; done) | (go_simp; rfl)) (u := .agg #[.int .i64 y_.f0, .string y_.f1, .string y_.f2, .string y_.f3, .int .i64 y_.f4, .int .i64 y_.f5.f0, .int .i64 y_.f5.f1, .int .i64 y_.f5.f2, .int .i64 y_.f6.f0, .int .i64 y_.f6.f1, .int .i64 y_.f6.f2, .int .i64 y_.f6.f3, .int .i64 y_.f6.f4.f0, .int .i64 y_.f6.f4.f1, .int .i64 y_.f6.f4.f2, .int .i64 y_.f6.f5.f0, .int .i64 y_.f6.f5.f1, .int .i64 y_.f6.f5.f2, .int .i64 y_.f6.f6.f0, .int .i64 y_.f6.f6.f1, .int .i64 y_.f6.f7, .slice E7 y_.f7.length E7c, .slice E8 y_.f8.length E8c]) (by first | rfl | (go_simp; done) | (go_simp; rfl)) BK3.out 23 size34 rfl (by simp) (by intro x hx; simp [Value.cells] at hx; rcases hx with rfl | rfl | rfl | rfl | rfl | rfl | rfl | rfl | rfl | rfl | rfl | rfl | rfl | rfl | rfl | rfl | rfl | rfl | rfl | rfl | rfl | rfl | rfl <;> rfl) #[.int .i64 y_.f0, .string y_.f1, .string y_.f2, .string y_.f3, .int .i64 y_.f4, .int .i64 y_.f5.f0, .int .i64 y_.f5.f1, .int .i64 y_.f5.f2, .int .i64 y_.f6.f0, .int .i64 y_.f6.f1, .int .i64 y_.f6.f2, .int .i64 y_.f6.f3, .int .i64 y_.f6.f4.f0, .int .i64 y_.f6.f4.f1, .int .i64 y_.f6.f4.f2, .int .i64 y_.f6.f5.f0, .int .i64 y_.f6.f5.f1, .int .i64 y_.f6.f5.f2, .int .i64 y_.f6.f6.f0, .int .i64 y_.f6.f6.f1, .int .i64 y_.f6.f7, .slice E7 y_.f7.length E7c, .slice E8 y_.f8.length E8c] rfl ?_; intro wv5_ hbk ho; have n0_ := Aside0.mk (Other.below ho HB.out (by have := ORD.out; omega)); have n1_ := Aside0.mk (Other.blk ho BK1.out (by have := ORD.out; omega)); have n2_ := Aside0.mk (Other.blk ho BK2.out (by have := ORD.out; omega)); have n3_ := Aside0.mk (hbk); clear HB BK1 BK2 BK3; have HB := n0_; have BK1 := n1_; have BK2 := n2_; have BK3 := n3_; clear n0_ n1_ n2_ n3_; clear hbk ho)))
      go_roundg (gk - 1)
      case measure => have := HQ.out; have := HC_.out; omega
      case rel => exact ⟨i_ + 1, y_, E7, E7c, E8, E8c, by rw [show wrap64 (i_ + 1) = i_ + 1 from by have := HQ.out; have := HC_.out; unfold wrap64; omega], ⟨by have := HQ.out; have := HC_.out; omega⟩, HS2, HYY, BK1, BK2, BK3, HB⟩
    · have cb : decide (i_ < (path.length : Int)) = false := decide_eq_false c_
      have hat : atP a.f5 path = some x_ := by rw [← HX.out, List.drop_of_length_le (by have := HQ.out; omega)]; rfl
      have HAT := Aside0.mk hat
      clear c_ HQ HX hat
      go_wp2_with (first | ((with_reducible refine gate_dst (N := 47) rfl ?_); go_loud ((try (refine gate_guard (by rfl) ?_; dsimp only)); refine ldb_event rfl rfl (by first | rfl | (go_simp; done) | (go_simp; rfl)) Try.underlying34 ⟨_, rfl⟩ BK3.out 23 size34 [.int .i64 x_.f0, .string x_.f1, .string x_.f2, .string x_.f3, .int .i64 x_.f4, .int .i64 x_.f5.f0, .int .i64 x_.f5.f1, .int .i64 x_.f5.f2, .int .i64 x_.f6.f0, .int .i64 x_.f6.f1, .int .i64 x_.f6.f2, .int .i64 x_.f6.f3, .int .i64 x_.f6.f4.f0, .int .i64 x_.f6.f4.f1, .int .i64 x_.f6.f4.f2, .int .i64 x_.f6.f5.f0, .int .i64 x_.f6.f5.f1, .int .i64 x_.f6.f5.f2, .int .i64 x_.f6.f6.f0, .int .i64 x_.f6.f6.f1, .int .i64 x_.f6.f7, .slice X7 x_.f7.length X7c, .slice X8 x_.f8.length X8c] rfl rfl ?_)) | ((with_reducible refine gate_store (t := 34) (p := 4) rfl ?_); go_loud (refine st_event rfl rfl rfl (g := g2) (j := 0) (by first | rfl | (go_simp; done) | (go_simp; rfl)) (u := .agg #[.int .i64 x_.f0, .string x_.f1, .string x_.f2, .string x_.f3, .int .i64 x_.f4, .int .i64 x_.f5.f0, .int .i64 x_.f5.f1, .int .i64 x_.f5.f2, .int .i64 x_.f6.f0, .int .i64 x_.f6.f1, .int .i64 x_.f6.f2, .int .i64 x_.f6.f3, .int .i64 x_.f6.f4.f0, .int .i64 x_.f6.f4.f1, .int .i64 x_.f6.f4.f2, .int .i64 x_.f6.f5.f0, .int .i64 x_.f6.f5.f1, .int .i64 x_.f6.f5.f2, .int .i64 x_.f6.f6.f0, .int .i64 x_.f6.f6.f1, .int .i64 x_.f6.f7, .slice X7 x_.f7.length X7c, .slice X8 x_.f8.length X8c]) (by first | rfl | (go_simp; done) | (go_simp; rfl)) BK2.out 23 size34 rfl (by simp) (by intro x hx; simp [Value.cells] at hx; rcases hx with rfl | rfl | rfl | rfl | rfl | rfl | rfl | rfl | rfl | rfl | rfl | rfl | rfl | rfl | rfl | rfl | rfl | rfl | rfl | rfl | rfl | rfl | rfl <;> rfl) #[.int .i64 x_.f0, .string x_.f1, .string x_.f2, .string x_.f3, .int .i64 x_.f4, .int .i64 x_.f5.f0, .int .i64 x_.f5.f1, .int .i64 x_.f5.f2, .int .i64 x_.f6.f0, .int .i64 x_.f6.f1, .int .i64 x_.f6.f2, .int .i64 x_.f6.f3, .int .i64 x_.f6.f4.f0, .int .i64 x_.f6.f4.f1, .int .i64 x_.f6.f4.f2, .int .i64 x_.f6.f5.f0, .int .i64 x_.f6.f5.f1, .int .i64 x_.f6.f5.f2, .int .i64 x_.f6.f6.f0, .int .i64 x_.f6.f6.f1, .int .i64 x_.f6.f7, .slice X7 x_.f7.length X7c, .slice X8 x_.f8.length X8c] rfl ?_; intro wv5_ hbk ho; have n0_ := Aside0.mk (Other.below ho HB.out (by have := ORD.out; omega)); have n1_ := Aside0.mk (Other.blk ho BK1.out (by have := ORD.out; omega)); have n2_ := Aside0.mk (hbk); have n3_ := Aside0.mk (Other.blk ho BK3.out (by have := ORD.out; omega)); clear HB BK1 BK2 BK3; have HB := n0_; have BK1 := n1_; have BK2 := n2_; have BK3 := n3_; clear n0_ n1_ n2_ n3_; clear hbk ho)))
      (try simp only [Exit.inBlock, Exit.then])
      refine bodyPost_ret (results_cell_row_tmp rfl _ _ g2 34 #[.int .i64 x_.f0, .string x_.f1, .string x_.f2, .string x_.f3, .int .i64 x_.f4, .int .i64 x_.f5.f0, .int .i64 x_.f5.f1, .int .i64 x_.f5.f2, .int .i64 x_.f6.f0, .int .i64 x_.f6.f1, .int .i64 x_.f6.f2, .int .i64 x_.f6.f3, .int .i64 x_.f6.f4.f0, .int .i64 x_.f6.f4.f1, .int .i64 x_.f6.f4.f2, .int .i64 x_.f6.f5.f0, .int .i64 x_.f6.f5.f1, .int .i64 x_.f6.f5.f2, .int .i64 x_.f6.f6.f0, .int .i64 x_.f6.f6.f1, .int .i64 x_.f6.f7, .slice X7 x_.f7.length X7c, .slice X8 x_.f8.length X8c] (0, 0) _ rfl BK2.out Try.underlying34 rfl size34) rfl ?_
      rw [HAT.out]
      exact ⟨HB.out, _, rfl, k34_mk _ x_ HXX.out.1 (Kd.C_below HXX.out.2.1 HB.out) HXX.out.2.2.1 (Kd.C_below HXX.out.2.2.2 HB.out)⟩
def treeAt.Post (w w' : World) (e : Ending) : Option S34 → Prop
  | .none => ErrAt e
  | .some x => ∃ C7 C7c C8 C8c, e = .returned (.tuple #[.agg #[.int .i64 x.f0, .string x.f1, .string x.f2, .string x.f3, .int .i64 x.f4, .int .i64 x.f5.f0, .int .i64 x.f5.f1, .int .i64 x.f5.f2, .int .i64 x.f6.f0, .int .i64 x.f6.f1, .int .i64 x.f6.f2, .int .i64 x.f6.f3, .int .i64 x.f6.f4.f0, .int .i64 x.f6.f4.f1, .int .i64 x.f6.f4.f2, .int .i64 x.f6.f5.f0, .int .i64 x.f6.f5.f1, .int .i64 x.f6.f5.f2, .int .i64 x.f6.f6.f0, .int .i64 x.f6.f6.f1, .int .i64 x.f6.f7, .slice C7 x.f7.length C7c, .slice C8 x.f8.length C8c], .int .i64 0]) ∧ Kd.Fr k34 w.heap.size w' x [.int .i64 x.f0, .string x.f1, .string x.f2, .string x.f3, .int .i64 x.f4, .int .i64 x.f5.f0, .int .i64 x.f5.f1, .int .i64 x.f5.f2, .int .i64 x.f6.f0, .int .i64 x.f6.f1, .int .i64 x.f6.f2, .int .i64 x.f6.f3, .int .i64 x.f6.f4.f0, .int .i64 x.f6.f4.f1, .int .i64 x.f6.f4.f2, .int .i64 x.f6.f5.f0, .int .i64 x.f6.f5.f1, .int .i64 x.f6.f5.f2, .int .i64 x.f6.f6.f0, .int .i64 x.f6.f6.f1, .int .i64 x.f6.f7, .slice C7 x.f7.length C7c, .slice C8 x.f8.length C8c]
set_option maxHeartbeats 16000000 in
set_option maxRecDepth 100000 in
theorem treeAt.calls (a : S36) (cs : List Value) (path : List Int) (P : Option Addr) (pc : Nat) (w : World) (hk : k36.K w a cs) (hpr : Kd.C (Kd.int .i64) w P path.length path) (hp : ∀ n ∈ path, n ≤ 9223372036854775807) (hw : a.f5.wf) :
    Calls Try.prog 11 #[.agg cs.toArray, .slice P path.length pc] w fun e w' => Below w.heap.size w w' ∧ treeAt.Post w w' e (atP a.f5 path) := by
  obtain ⟨A2, A2c, A3, A3c, A4, A4c, A7, A7c, A8, A8c, rfl, l2, g2_, l3, g3_, l4, g4_, l7, g7, l8, g8⟩ := k36_open hk
  have hu34 := Try.underlying34
  have hu36 := Try.underlying36
  have HXX0 := Aside0.mk (show a.f5.f7.length ≤ A7c ∧ Kd.C k54 w A7 a.f5.f7.length a.f5.f7 ∧ a.f5.f8.length ≤ A8c ∧ Kd.C k34 w A8 a.f5.f8.length a.f5.f8 from ⟨l7, g7, l8, g8⟩)
  have HPR := Aside0.mk hpr
  have HP := Aside0.mk hp
  have HW := Aside0.mk hw
  clear hw
  have hmx := Kd.C_max hpr
  clear hk l2 g2_ l3 g3_ l4 g4_ l7 g7 l8 g8 hpr hp
  have HB := Aside0.mk (Below.refl w.heap.size w)
  go_enter Try.func11, Try.ntmps11
  go_upto_region 2 with (first | ((with_reducible refine gate_dst (N := 2) rfl ?_); go_loud ((try (refine gate_guard (by rfl) ?_; dsimp only)); refine box_event ?hg (N := 2) ?hd (cs := #[.string a.f0, .int .i64 a.f1.f0, .int .i64 a.f1.f1, .int .i64 a.f1.f2, .slice A2 a.f2.length A2c, .slice A3 a.f3.length A3c, .slice A4 a.f4.length A4c, .int .i64 a.f5.f0, .string a.f5.f1, .string a.f5.f2, .string a.f5.f3, .int .i64 a.f5.f4, .int .i64 a.f5.f5.f0, .int .i64 a.f5.f5.f1, .int .i64 a.f5.f5.f2, .int .i64 a.f5.f6.f0, .int .i64 a.f5.f6.f1, .int .i64 a.f5.f6.f2, .int .i64 a.f5.f6.f3, .int .i64 a.f5.f6.f4.f0, .int .i64 a.f5.f6.f4.f1, .int .i64 a.f5.f6.f4.f2, .int .i64 a.f5.f6.f5.f0, .int .i64 a.f5.f6.f5.f1, .int .i64 a.f5.f6.f5.f2, .int .i64 a.f5.f6.f6.f0, .int .i64 a.f5.f6.f6.f1, .int .i64 a.f5.f6.f7, .slice A7 a.f5.f7.length A7c, .slice A8 a.f5.f8.length A8c]) (t := 36) ?hr ?_; (case hd => rfl); (case hg => rfl); (case hr => first | (go_simp; done) | (go_simp; rfl)); intro g1 hg wv1_ hbox hb; have n0_ := Aside0.mk (below_step HB.out hb); have n1_ := Aside0.mk (hbox); have n2_ := Aside0.mk ((show w.heap.size ≤ g1 by rw [hg]; exact below_size HB.out)); clear HB; have HB := n0_; have BK1 := n1_; have ORD := n2_; clear n0_ n1_ n2_; clear hb hbox hg)) | ((with_reducible refine gate_dst (N := 4) rfl ?_); go_loud ((try (refine gate_guard (by rfl) ?_; dsimp only)); refine box_event ?hg (N := 4) ?hd (cs := #[.int .i64 0, .string ⟨#[]⟩, .string ⟨#[]⟩, .string ⟨#[]⟩, .int .i64 0, .int .i64 0, .int .i64 0, .int .i64 0, .int .i64 0, .int .i64 0, .int .i64 0, .int .i64 0, .int .i64 0, .int .i64 0, .int .i64 0, .int .i64 0, .int .i64 0, .int .i64 0, .int .i64 0, .int .i64 0, .int .i64 0, .slice none 0 0, .slice none 0 0]) (t := 34) ?hr ?_; (case hd => rfl); (case hg => rfl); (case hr => first | (go_simp; done) | (go_simp; rfl)); intro g2 hg wv2_ hbox hb; have n0_ := Aside0.mk (below_step HB.out hb); have n1_ := Aside0.mk (blk_below BK1.out hb); have n2_ := Aside0.mk (hbox); have n3_ := Aside0.mk (And.intro ORD.out (show g1 < g2 by rw [hg]; exact blk_lt BK1.out)); clear HB BK1 ORD; have HB := n0_; have BK1 := n1_; have BK2 := n2_; have ORD := n3_; clear n0_ n1_ n2_ n3_; clear hb hbox hg)) | ((with_reducible refine gate_dst (N := 11) rfl ?_); go_loud ((try (refine gate_guard (by rfl) ?_; dsimp only)); refine ldb_event rfl rfl (by first | rfl | (go_simp; done) | (go_simp; rfl)) Try.underlying34 ⟨_, rfl⟩ BK1.out 23 size34 [.int .i64 a.f5.f0, .string a.f5.f1, .string a.f5.f2, .string a.f5.f3, .int .i64 a.f5.f4, .int .i64 a.f5.f5.f0, .int .i64 a.f5.f5.f1, .int .i64 a.f5.f5.f2, .int .i64 a.f5.f6.f0, .int .i64 a.f5.f6.f1, .int .i64 a.f5.f6.f2, .int .i64 a.f5.f6.f3, .int .i64 a.f5.f6.f4.f0, .int .i64 a.f5.f6.f4.f1, .int .i64 a.f5.f6.f4.f2, .int .i64 a.f5.f6.f5.f0, .int .i64 a.f5.f6.f5.f1, .int .i64 a.f5.f6.f5.f2, .int .i64 a.f5.f6.f6.f0, .int .i64 a.f5.f6.f6.f1, .int .i64 a.f5.f6.f7, .slice A7 a.f5.f7.length A7c, .slice A8 a.f5.f8.length A8c] rfl rfl ?_)) | ((with_reducible refine gate_dst (N := 6) rfl ?_); go_loud ((try (refine gate_guard (by rfl) ?_; dsimp only)); refine box_event ?hg (N := 6) ?hd (cs := #[.int .i64 0, .string ⟨#[]⟩, .string ⟨#[]⟩, .string ⟨#[]⟩, .int .i64 0, .int .i64 0, .int .i64 0, .int .i64 0, .int .i64 0, .int .i64 0, .int .i64 0, .int .i64 0, .int .i64 0, .int .i64 0, .int .i64 0, .int .i64 0, .int .i64 0, .int .i64 0, .int .i64 0, .int .i64 0, .int .i64 0, .slice none 0 0, .slice none 0 0]) (t := 34) ?hr ?_; (case hd => rfl); (case hg => rfl); (case hr => first | (go_simp; done) | (go_simp; rfl)); intro g3 hg wv3_ hbox hb; have n0_ := Aside0.mk (below_step HB.out hb); have n1_ := Aside0.mk (blk_below BK1.out hb); have n2_ := Aside0.mk (blk_below BK2.out hb); have n3_ := Aside0.mk (hbox); have n4_ := Aside0.mk (And.intro ORD.out (show g2 < g3 by rw [hg]; exact blk_lt BK2.out)); clear HB BK1 BK2 ORD; have HB := n0_; have BK1 := n1_; have BK2 := n2_; have BK3 := n3_; have ORD := n4_; clear n0_ n1_ n2_ n3_ n4_; clear hb hbox hg)) | ((with_reducible refine gate_store (t := 34) (p := 6) rfl ?_); go_loud (refine st_event rfl rfl rfl (g := g3) (j := 0) (by first | rfl | (go_simp; done) | (go_simp; rfl)) (u := .agg #[.int .i64 a.f5.f0, .string a.f5.f1, .string a.f5.f2, .string a.f5.f3, .int .i64 a.f5.f4, .int .i64 a.f5.f5.f0, .int .i64 a.f5.f5.f1, .int .i64 a.f5.f5.f2, .int .i64 a.f5.f6.f0, .int .i64 a.f5.f6.f1, .int .i64 a.f5.f6.f2, .int .i64 a.f5.f6.f3, .int .i64 a.f5.f6.f4.f0, .int .i64 a.f5.f6.f4.f1, .int .i64 a.f5.f6.f4.f2, .int .i64 a.f5.f6.f5.f0, .int .i64 a.f5.f6.f5.f1, .int .i64 a.f5.f6.f5.f2, .int .i64 a.f5.f6.f6.f0, .int .i64 a.f5.f6.f6.f1, .int .i64 a.f5.f6.f7, .slice A7 a.f5.f7.length A7c, .slice A8 a.f5.f8.length A8c]) (by first | rfl | (go_simp; done) | (go_simp; rfl)) BK3.out 23 size34 rfl (by simp) (by intro x hx; simp [Value.cells] at hx; rcases hx with rfl | rfl | rfl | rfl | rfl | rfl | rfl | rfl | rfl | rfl | rfl | rfl | rfl | rfl | rfl | rfl | rfl | rfl | rfl | rfl | rfl | rfl | rfl <;> rfl) #[.int .i64 a.f5.f0, .string a.f5.f1, .string a.f5.f2, .string a.f5.f3, .int .i64 a.f5.f4, .int .i64 a.f5.f5.f0, .int .i64 a.f5.f5.f1, .int .i64 a.f5.f5.f2, .int .i64 a.f5.f6.f0, .int .i64 a.f5.f6.f1, .int .i64 a.f5.f6.f2, .int .i64 a.f5.f6.f3, .int .i64 a.f5.f6.f4.f0, .int .i64 a.f5.f6.f4.f1, .int .i64 a.f5.f6.f4.f2, .int .i64 a.f5.f6.f5.f0, .int .i64 a.f5.f6.f5.f1, .int .i64 a.f5.f6.f5.f2, .int .i64 a.f5.f6.f6.f0, .int .i64 a.f5.f6.f6.f1, .int .i64 a.f5.f6.f7, .slice A7 a.f5.f7.length A7c, .slice A8 a.f5.f8.length A8c] rfl ?_; intro wv4_ hbk ho; have n0_ := Aside0.mk (Other.below ho HB.out (by have := ORD.out; omega)); have n1_ := Aside0.mk (Other.blk ho BK1.out (by have := ORD.out; omega)); have n2_ := Aside0.mk (Other.blk ho BK2.out (by have := ORD.out; omega)); have n3_ := Aside0.mk (hbk); clear HB BK1 BK2 BK3; have HB := n0_; have BK1 := n1_; have BK2 := n2_; have BK3 := n3_; clear n0_ n1_ n2_ n3_; clear hbk ho)))
  go_wp2
  go_loopg [14] path.length (fun kq v14 w' => ∃ (i_ : Int) (x_ : S34) (X7 : Option Addr) (X7c : Nat) (X8 : Option Addr) (X8c : Nat), v14 = .int .i64 i_ ∧ Aside0 (0 ≤ i_ ∧ i_ + (kq : Int) = (path.length : Int)) ∧ Aside0 (atP x_ (path.drop i_.toNat) = atP a.f5 path) ∧ Aside0 (x_.f7.length ≤ X7c ∧ Kd.C k54 w X7 x_.f7.length x_.f7 ∧ x_.f8.length ≤ X8c ∧ Kd.C k34 w X8 x_.f8.length x_.f8) ∧ Aside0 (w'.heap[g1]? = some (.cells #[.string a.f0, .int .i64 a.f1.f0, .int .i64 a.f1.f1, .int .i64 a.f1.f2, .slice A2 a.f2.length A2c, .slice A3 a.f3.length A3c, .slice A4 a.f4.length A4c, .int .i64 a.f5.f0, .string a.f5.f1, .string a.f5.f2, .string a.f5.f3, .int .i64 a.f5.f4, .int .i64 a.f5.f5.f0, .int .i64 a.f5.f5.f1, .int .i64 a.f5.f5.f2, .int .i64 a.f5.f6.f0, .int .i64 a.f5.f6.f1, .int .i64 a.f5.f6.f2, .int .i64 a.f5.f6.f3, .int .i64 a.f5.f6.f4.f0, .int .i64 a.f5.f6.f4.f1, .int .i64 a.f5.f6.f4.f2, .int .i64 a.f5.f6.f5.f0, .int .i64 a.f5.f6.f5.f1, .int .i64 a.f5.f6.f5.f2, .int .i64 a.f5.f6.f6.f0, .int .i64 a.f5.f6.f6.f1, .int .i64 a.f5.f6.f7, .slice A7 a.f5.f7.length A7c, .slice A8 a.f5.f8.length A8c] 36 (0, 0))) ∧ Aside0 (w'.heap[g2]? = some (.cells #[.int .i64 0, .string ⟨#[]⟩, .string ⟨#[]⟩, .string ⟨#[]⟩, .int .i64 0, .int .i64 0, .int .i64 0, .int .i64 0, .int .i64 0, .int .i64 0, .int .i64 0, .int .i64 0, .int .i64 0, .int .i64 0, .int .i64 0, .int .i64 0, .int .i64 0, .int .i64 0, .int .i64 0, .int .i64 0, .int .i64 0, .slice none 0 0, .slice none 0 0] 34 (0, 0))) ∧ Aside0 (w'.heap[g3]? = some (.cells #[.int .i64 x_.f0, .string x_.f1, .string x_.f2, .string x_.f3, .int .i64 x_.f4, .int .i64 x_.f5.f0, .int .i64 x_.f5.f1, .int .i64 x_.f5.f2, .int .i64 x_.f6.f0, .int .i64 x_.f6.f1, .int .i64 x_.f6.f2, .int .i64 x_.f6.f3, .int .i64 x_.f6.f4.f0, .int .i64 x_.f6.f4.f1, .int .i64 x_.f6.f4.f2, .int .i64 x_.f6.f5.f0, .int .i64 x_.f6.f5.f1, .int .i64 x_.f6.f5.f2, .int .i64 x_.f6.f6.f0, .int .i64 x_.f6.f6.f1, .int .i64 x_.f6.f7, .slice X7 x_.f7.length X7c, .slice X8 x_.f8.length X8c] 34 (0, 0))) ∧ Aside0 (Below w.heap.size w w'))
  case atStart => exact ⟨0, a.f5, A7, A7c, A8, A8c, rfl, ⟨by omega, by omega⟩, ⟨rfl⟩, HXX0, BK1, BK2, BK3, HB⟩
  case round =>
    clear HB BK1 BK2 BK3
    obtain ⟨i_, x_, X7, X7c, X8, X8c, rfl, HQ, HX, HXX, BK1, BK2, BK3, HB⟩ := hrel
    by_cases c_ : i_ < (path.length : Int)
    · have cb : decide (i_ < (path.length : Int)) = true := decide_eq_true c_
      have p_ : 0 ≤ i_ := HQ.out.1
      have hst := atP_step x_ path i_ p_ c_
      obtain ⟨pd, e_, hcp⟩ := Kd.at_int HPR.out i_ p_ c_
      obtain rfl := e_
      have hnm : rd path i_ ≤ 9223372036854775807 := HP.out _ (by unfold rd; rw [List.getD_eq_getElem?_getD, List.getElem?_eq_getElem (show i_.toNat < path.length by omega)]; exact List.getElem_mem _)
      obtain ⟨n_, hn_⟩ : ∃ q, q = rd path i_ := ⟨_, rfl⟩
      rw [← hn_] at hst hcp hnm
      clear hn_
      have HST := Aside0.mk hst
      have HCP := Aside0.mk hcp
      have hm7 := Kd.C_max HXX.out.2.1
      have hm8 := Kd.C_max HXX.out.2.2.2
      have HNM := Aside0.mk (show n_ ≤ 9223372036854775807 ∧ (x_.f7.length : Int) ≤ 9223372036854775807 from ⟨hnm, by omega⟩)
      clear hst hcp hnm hm7 hm8
      have HC_ := Aside0.mk c_
      replace p_ := eq_true p_
      replace c_ := eq_true c_
      by_cases h0 : n_ < 0
      · have hd4 : decide (n_ < 0) = true := decide_eq_true h0
        go_wp2_with (first | ((with_reducible refine gate_dst (N := 17) rfl ?_); go_loud (refine ld_event rfl rfl (by first | rfl | (go_simp; done) | (go_simp; rfl)) Try.underlying3 trivial (.int .i64 n_) ((HB.out.cell (World.block_lt_of_cell? _ _ HCP.out)).trans HCP.out) ?_)) | ((with_reducible refine gate_dst (N := 20) rfl ?_); go_loud ((try (refine gate_guard (by rfl) ?_; dsimp only)); refine ld_event rfl rfl (by first | rfl | (go_simp; done) | (go_simp; rfl)) Try.underlying31 trivial (.slice X7 x_.f7.length X7c) ((blk_cell BK3.out 21).trans rfl) ?_)) | ((with_reducible refine gate_dst (N := 32) rfl ?_); go_loud ((try (refine gate_guard (by rfl) ?_; dsimp only)); refine ld_event rfl rfl (by first | rfl | (go_simp; done) | (go_simp; rfl)) Try.underlying32 trivial (.slice X8 x_.f8.length X8c) ((blk_cell BK3.out 22).trans rfl) ?_)) | ((with_reducible refine gate_store (t := 34) (p := 4) rfl ?_); go_loud (refine st_event rfl rfl rfl (g := g2) (j := 0) (by first | rfl | (go_simp; done) | (go_simp; rfl)) (u := .agg #[.int .i64 0, .string ⟨#[]⟩, .string ⟨#[]⟩, .string ⟨#[]⟩, .int .i64 0, .int .i64 0, .int .i64 0, .int .i64 0, .int .i64 0, .int .i64 0, .int .i64 0, .int .i64 0, .int .i64 0, .int .i64 0, .int .i64 0, .int .i64 0, .int .i64 0, .int .i64 0, .int .i64 0, .int .i64 0, .int .i64 0, .slice none 0 0, .slice none 0 0]) (by first | rfl | (go_simp; done) | (go_simp; rfl)) BK2.out 23 size34 rfl (by simp) (by intro x hx; simp [Value.cells] at hx; rcases hx with rfl | rfl | rfl | rfl | rfl | rfl | rfl | rfl | rfl | rfl | rfl | rfl | rfl | rfl | rfl | rfl | rfl | rfl | rfl | rfl | rfl | rfl | rfl <;> rfl) #[.int .i64 0, .string ⟨#[]⟩, .string ⟨#[]⟩, .string ⟨#[]⟩, .int .i64 0, .int .i64 0, .int .i64 0, .int .i64 0, .int .i64 0, .int .i64 0, .int .i64 0, .int .i64 0, .int .i64 0, .int .i64 0, .int .i64 0, .int .i64 0, .int .i64 0, .int .i64 0, .int .i64 0, .int .i64 0, .int .i64 0, .slice none 0 0, .slice none 0 0] rfl ?_; intro wv5_ hbk ho; have n0_ := Aside0.mk (Other.below ho HB.out (by have := ORD.out; omega)); have n1_ := Aside0.mk (Other.blk ho BK1.out (by have := ORD.out; omega)); have n2_ := Aside0.mk (hbk); have n3_ := Aside0.mk (Other.blk ho BK3.out (by have := ORD.out; omega)); clear HB BK1 BK2 BK3; have HB := n0_; have BK1 := n1_; have BK2 := n2_; have BK3 := n3_; clear n0_ n1_ n2_ n3_; clear hbk ho)))
        (try simp only [Exit.inBlock, Exit.then])
        refine bodyPost_ret (results_cell_row_tmp rfl _ _ g2 34 #[.int .i64 0, .string ⟨#[]⟩, .string ⟨#[]⟩, .string ⟨#[]⟩, .int .i64 0, .int .i64 0, .int .i64 0, .int .i64 0, .int .i64 0, .int .i64 0, .int .i64 0, .int .i64 0, .int .i64 0, .int .i64 0, .int .i64 0, .int .i64 0, .int .i64 0, .int .i64 0, .int .i64 0, .int .i64 0, .int .i64 0, .slice none 0 0, .slice none 0 0] (0, 0) _ rfl BK2.out Try.underlying34 rfl size34) rfl ?_
        have hat : atP a.f5 path = none := by rw [← HX.out, HST.out, if_pos (by left; omega)]
        rw [hat]
        exact ⟨HB.out, rfl⟩
      have hd4_ : decide (n_ < 0) = false := decide_eq_false h0
      by_cases h1 : n_ < (x_.f7.length : Int)
      · have hd1 : decide (n_ < (x_.f7.length : Int)) = true := decide_eq_true h1
        have hk0 : wrap64 (n_ - (x_.f7.length : Int)) = n_ - (x_.f7.length : Int) := by have := HNM.out; unfold wrap64; omega
        have hd3 : decide (n_ - (x_.f7.length : Int) < 0) = true := decide_eq_true (by omega)
        go_wp2_with (first | ((with_reducible refine gate_dst (N := 17) rfl ?_); go_loud (refine ld_event rfl rfl (by first | rfl | (go_simp; done) | (go_simp; rfl)) Try.underlying3 trivial (.int .i64 n_) ((HB.out.cell (World.block_lt_of_cell? _ _ HCP.out)).trans HCP.out) ?_)) | ((with_reducible refine gate_dst (N := 20) rfl ?_); go_loud ((try (refine gate_guard (by rfl) ?_; dsimp only)); refine ld_event rfl rfl (by first | rfl | (go_simp; done) | (go_simp; rfl)) Try.underlying31 trivial (.slice X7 x_.f7.length X7c) ((blk_cell BK3.out 21).trans rfl) ?_)) | ((with_reducible refine gate_dst (N := 32) rfl ?_); go_loud ((try (refine gate_guard (by rfl) ?_; dsimp only)); refine ld_event rfl rfl (by first | rfl | (go_simp; done) | (go_simp; rfl)) Try.underlying32 trivial (.slice X8 x_.f8.length X8c) ((blk_cell BK3.out 22).trans rfl) ?_)) | ((with_reducible refine gate_store (t := 34) (p := 4) rfl ?_); go_loud (refine st_event rfl rfl rfl (g := g2) (j := 0) (by first | rfl | (go_simp; done) | (go_simp; rfl)) (u := .agg #[.int .i64 0, .string ⟨#[]⟩, .string ⟨#[]⟩, .string ⟨#[]⟩, .int .i64 0, .int .i64 0, .int .i64 0, .int .i64 0, .int .i64 0, .int .i64 0, .int .i64 0, .int .i64 0, .int .i64 0, .int .i64 0, .int .i64 0, .int .i64 0, .int .i64 0, .int .i64 0, .int .i64 0, .int .i64 0, .int .i64 0, .slice none 0 0, .slice none 0 0]) (by first | rfl | (go_simp; done) | (go_simp; rfl)) BK2.out 23 size34 rfl (by simp) (by intro x hx; simp [Value.cells] at hx; rcases hx with rfl | rfl | rfl | rfl | rfl | rfl | rfl | rfl | rfl | rfl | rfl | rfl | rfl | rfl | rfl | rfl | rfl | rfl | rfl | rfl | rfl | rfl | rfl <;> rfl) #[.int .i64 0, .string ⟨#[]⟩, .string ⟨#[]⟩, .string ⟨#[]⟩, .int .i64 0, .int .i64 0, .int .i64 0, .int .i64 0, .int .i64 0, .int .i64 0, .int .i64 0, .int .i64 0, .int .i64 0, .int .i64 0, .int .i64 0, .int .i64 0, .int .i64 0, .int .i64 0, .int .i64 0, .int .i64 0, .int .i64 0, .slice none 0 0, .slice none 0 0] rfl ?_; intro wv5_ hbk ho; have n0_ := Aside0.mk (Other.below ho HB.out (by have := ORD.out; omega)); have n1_ := Aside0.mk (Other.blk ho BK1.out (by have := ORD.out; omega)); have n2_ := Aside0.mk (hbk); have n3_ := Aside0.mk (Other.blk ho BK3.out (by have := ORD.out; omega)); clear HB BK1 BK2 BK3; have HB := n0_; have BK1 := n1_; have BK2 := n2_; have BK3 := n3_; clear n0_ n1_ n2_ n3_; clear hbk ho)))
        (try simp only [Exit.inBlock, Exit.then])
        refine bodyPost_ret (results_cell_row_tmp rfl _ _ g2 34 #[.int .i64 0, .string ⟨#[]⟩, .string ⟨#[]⟩, .string ⟨#[]⟩, .int .i64 0, .int .i64 0, .int .i64 0, .int .i64 0, .int .i64 0, .int .i64 0, .int .i64 0, .int .i64 0, .int .i64 0, .int .i64 0, .int .i64 0, .int .i64 0, .int .i64 0, .int .i64 0, .int .i64 0, .int .i64 0, .int .i64 0, .slice none 0 0, .slice none 0 0] (0, 0) _ rfl BK2.out Try.underlying34 rfl size34) rfl ?_
        have hat : atP a.f5 path = none := by rw [← HX.out, HST.out, if_pos (by left; omega)]
        rw [hat]
        exact ⟨HB.out, rfl⟩
      by_cases h2 : (x_.f8.length : Int) ≤ n_ - (x_.f7.length : Int)
      · have hd1 : decide (n_ < (x_.f7.length : Int)) = false := decide_eq_false h1
        have hd2 : decide ((x_.f8.length : Int) ≤ n_ - (x_.f7.length : Int)) = true := decide_eq_true h2
        have hd3 : decide (n_ - (x_.f7.length : Int) < 0) = false := decide_eq_false (by omega)
        have hk0 : wrap64 (n_ - (x_.f7.length : Int)) = n_ - (x_.f7.length : Int) := by have := HNM.out; unfold wrap64; omega
        go_wp2_with (first | ((with_reducible refine gate_dst (N := 17) rfl ?_); go_loud (refine ld_event rfl rfl (by first | rfl | (go_simp; done) | (go_simp; rfl)) Try.underlying3 trivial (.int .i64 n_) ((HB.out.cell (World.block_lt_of_cell? _ _ HCP.out)).trans HCP.out) ?_)) | ((with_reducible refine gate_dst (N := 20) rfl ?_); go_loud ((try (refine gate_guard (by rfl) ?_; dsimp only)); refine ld_event rfl rfl (by first | rfl | (go_simp; done) | (go_simp; rfl)) Try.underlying31 trivial (.slice X7 x_.f7.length X7c) ((blk_cell BK3.out 21).trans rfl) ?_)) | ((with_reducible refine gate_dst (N := 32) rfl ?_); go_loud ((try (refine gate_guard (by rfl) ?_; dsimp only)); refine ld_event rfl rfl (by first | rfl | (go_simp; done) | (go_simp; rfl)) Try.underlying32 trivial (.slice X8 x_.f8.length X8c) ((blk_cell BK3.out 22).trans rfl) ?_)) | ((with_reducible refine gate_store (t := 34) (p := 4) rfl ?_); go_loud (refine st_event rfl rfl rfl (g := g2) (j := 0) (by first | rfl | (go_simp; done) | (go_simp; rfl)) (u := .agg #[.int .i64 0, .string ⟨#[]⟩, .string ⟨#[]⟩, .string ⟨#[]⟩, .int .i64 0, .int .i64 0, .int .i64 0, .int .i64 0, .int .i64 0, .int .i64 0, .int .i64 0, .int .i64 0, .int .i64 0, .int .i64 0, .int .i64 0, .int .i64 0, .int .i64 0, .int .i64 0, .int .i64 0, .int .i64 0, .int .i64 0, .slice none 0 0, .slice none 0 0]) (by first | rfl | (go_simp; done) | (go_simp; rfl)) BK2.out 23 size34 rfl (by simp) (by intro x hx; simp [Value.cells] at hx; rcases hx with rfl | rfl | rfl | rfl | rfl | rfl | rfl | rfl | rfl | rfl | rfl | rfl | rfl | rfl | rfl | rfl | rfl | rfl | rfl | rfl | rfl | rfl | rfl <;> rfl) #[.int .i64 0, .string ⟨#[]⟩, .string ⟨#[]⟩, .string ⟨#[]⟩, .int .i64 0, .int .i64 0, .int .i64 0, .int .i64 0, .int .i64 0, .int .i64 0, .int .i64 0, .int .i64 0, .int .i64 0, .int .i64 0, .int .i64 0, .int .i64 0, .int .i64 0, .int .i64 0, .int .i64 0, .int .i64 0, .int .i64 0, .slice none 0 0, .slice none 0 0] rfl ?_; intro wv5_ hbk ho; have n0_ := Aside0.mk (Other.below ho HB.out (by have := ORD.out; omega)); have n1_ := Aside0.mk (Other.blk ho BK1.out (by have := ORD.out; omega)); have n2_ := Aside0.mk (hbk); have n3_ := Aside0.mk (Other.blk ho BK3.out (by have := ORD.out; omega)); clear HB BK1 BK2 BK3; have HB := n0_; have BK1 := n1_; have BK2 := n2_; have BK3 := n3_; clear n0_ n1_ n2_ n3_; clear hbk ho)))
        (try simp only [Exit.inBlock, Exit.then])
        refine bodyPost_ret (results_cell_row_tmp rfl _ _ g2 34 #[.int .i64 0, .string ⟨#[]⟩, .string ⟨#[]⟩, .string ⟨#[]⟩, .int .i64 0, .int .i64 0, .int .i64 0, .int .i64 0, .int .i64 0, .int .i64 0, .int .i64 0, .int .i64 0, .int .i64 0, .int .i64 0, .int .i64 0, .int .i64 0, .int .i64 0, .int .i64 0, .int .i64 0, .int .i64 0, .int .i64 0, .slice none 0 0, .slice none 0 0] (0, 0) _ rfl BK2.out Try.underlying34 rfl size34) rfl ?_
        have hat : atP a.f5 path = none := by rw [← HX.out, HST.out, if_pos (by right; omega)]
        rw [hat]
        exact ⟨HB.out, rfl⟩
      obtain ⟨m_, hm_⟩ : ∃ m, m = n_ - (x_.f7.length : Int) := ⟨_, rfl⟩
      have HME := Aside0.mk hm_
      have hk0 : wrap64 (n_ - (x_.f7.length : Int)) = m_ := by have := HNM.out; unfold wrap64; omega
      have hd1 : decide (n_ < (x_.f7.length : Int)) = false := decide_eq_false h1
      have hd2 : decide ((x_.f8.length : Int) ≤ m_) = false := decide_eq_false (by omega)
      have hd3 : decide (m_ < 0) = false := decide_eq_false (by omega)
      have hd4 : decide (n_ < 0) = false := decide_eq_false (by omega)
      have p2_ : 0 ≤ m_ := by omega
      have c2_ : m_ < (x_.f8.length : Int) := by omega
      obtain ⟨xd, cv_, e_, _, hK_, hc_⟩ := Kd.C_get HXX.out.2.2.2 z34 m_ p2_ c2_
      obtain rfl := e_
      have hst := HST.out
      rw [← HME.out] at hst
      obtain ⟨y_, hy_⟩ : ∃ q, q = x_.f8.getD m_.toNat z34 := ⟨_, rfl⟩
      rw [← hy_] at hK_ hst
      clear hy_
      obtain ⟨E7, E7c, E8, E8c, rfl, e7l, e7g, e8l, e8g⟩ := k34_open hK_
      have HCS := Aside0.mk (show CSat w (xd.add (m_.toNat * 23)) [.int .i64 y_.f0, .string y_.f1, .string y_.f2, .string y_.f3, .int .i64 y_.f4, .int .i64 y_.f5.f0, .int .i64 y_.f5.f1, .int .i64 y_.f5.f2, .int .i64 y_.f6.f0, .int .i64 y_.f6.f1, .int .i64 y_.f6.f2, .int .i64 y_.f6.f3, .int .i64 y_.f6.f4.f0, .int .i64 y_.f6.f4.f1, .int .i64 y_.f6.f4.f2, .int .i64 y_.f6.f5.f0, .int .i64 y_.f6.f5.f1, .int .i64 y_.f6.f5.f2, .int .i64 y_.f6.f6.f0, .int .i64 y_.f6.f6.f1, .int .i64 y_.f6.f7, .slice E7 y_.f7.length E7c, .slice E8 y_.f8.length E8c] from fun j v hj => by rw [World_add_add]; exact hc_ j v hj)
      have HYY := Aside0.mk (show y_.f7.length ≤ E7c ∧ Kd.C k54 w E7 y_.f7.length y_.f7 ∧ y_.f8.length ≤ E8c ∧ Kd.C k34 w E8 y_.f8.length y_.f8 from ⟨e7l, e7g, e8l, e8g⟩)
      have HS2 := Aside0.mk (show atP y_ (path.drop (i_ + 1).toNat) = atP a.f5 path by rw [← HX.out, hst, if_neg (by omega)])
      have k0_ : (0 ≤ m_) = True := eq_true p2_
      have k1_ : (m_ < (x_.f8.length : Int)) = True := eq_true c2_
      clear hK_ hc_ e7l e7g e8l e8g h1 h2 hm_ hst p2_ c2_
      go_wp2_with (first | ((with_reducible refine gate_dst (N := 17) rfl ?_); go_loud (refine ld_event rfl rfl (by first | rfl | (go_simp; done) | (go_simp; rfl)) Try.underlying3 trivial (.int .i64 n_) ((HB.out.cell (World.block_lt_of_cell? _ _ HCP.out)).trans HCP.out) ?_)) | ((with_reducible refine gate_dst (N := 20) rfl ?_); go_loud ((try (refine gate_guard (by rfl) ?_; dsimp only)); refine ld_event rfl rfl (by first | rfl | (go_simp; done) | (go_simp; rfl)) Try.underlying31 trivial (.slice X7 x_.f7.length X7c) ((blk_cell BK3.out 21).trans rfl) ?_)) | ((with_reducible refine gate_dst (N := 32) rfl ?_); go_loud ((try (refine gate_guard (by rfl) ?_; dsimp only)); refine ld_event rfl rfl (by first | rfl | (go_simp; done) | (go_simp; rfl)) Try.underlying32 trivial (.slice (some xd) x_.f8.length X8c) ((blk_cell BK3.out 22).trans rfl) ?_)) | ((with_reducible refine gate_dst (N := 38) rfl ?_); go_loud ((try (refine gate_guard (by rfl) ?_; dsimp only)); refine ld_event rfl rfl (by first | rfl | (go_simp; done) | (go_simp; rfl)) Try.underlying32 trivial (.slice (some xd) x_.f8.length X8c) ((blk_cell BK3.out 22).trans rfl) ?_)) | ((with_reducible refine gate_dst (N := 41) rfl ?_); go_loud (refine load_event (t := 34) (p := .tmp 40) (ad := xd.add (m_.toNat * 23)) rfl rfl (by first | rfl | (go_simp; done) | (go_simp; rfl)) Try.underlying34 ⟨_, rfl⟩ [.int .i64 y_.f0, .string y_.f1, .string y_.f2, .string y_.f3, .int .i64 y_.f4, .int .i64 y_.f5.f0, .int .i64 y_.f5.f1, .int .i64 y_.f5.f2, .int .i64 y_.f6.f0, .int .i64 y_.f6.f1, .int .i64 y_.f6.f2, .int .i64 y_.f6.f3, .int .i64 y_.f6.f4.f0, .int .i64 y_.f6.f4.f1, .int .i64 y_.f6.f4.f2, .int .i64 y_.f6.f5.f0, .int .i64 y_.f6.f5.f1, .int .i64 y_.f6.f5.f2, .int .i64 y_.f6.f6.f0, .int .i64 y_.f6.f6.f1, .int .i64 y_.f6.f7, .slice E7 y_.f7.length E7c, .slice E8 y_.f8.length E8c] (size34) (CSat.below HCS.out HB.out) ?_)) | ((with_reducible refine gate_store (t := 34) (p := 6) rfl ?_); go_loud (refine st_event rfl rfl rfl (g := g3) (j := 0) (by first | rfl | (go_simp; done) | (go_simp; rfl)) (u := .agg #[.int .i64 y_.f0, .string y_.f1, .string y_.f2, .string y_.f3, .int .i64 y_.f4, .int .i64 y_.f5.f0, .int .i64 y_.f5.f1, .int .i64 y_.f5.f2, .int .i64 y_.f6.f0, .int .i64 y_.f6.f1, .int .i64 y_.f6.f2, .int .i64 y_.f6.f3, .int .i64 y_.f6.f4.f0, .int .i64 y_.f6.f4.f1, .int .i64 y_.f6.f4.f2, .int .i64 y_.f6.f5.f0, .int .i64 y_.f6.f5.f1, .int .i64 y_.f6.f5.f2, .int .i64 y_.f6.f6.f0, .int .i64 y_.f6.f6.f1, .int .i64 y_.f6.f7, .slice E7 y_.f7.length E7c, .slice E8 y_.f8.length E8c]) (by first | rfl | (go_simp; done) | (go_simp; rfl)) BK3.out 23 size34 rfl (by simp) (by intro x hx; simp [Value.cells] at hx; rcases hx with rfl | rfl | rfl | rfl | rfl | rfl | rfl | rfl | rfl | rfl | rfl | rfl | rfl | rfl | rfl | rfl | rfl | rfl | rfl | rfl | rfl | rfl | rfl <;> rfl) #[.int .i64 y_.f0, .string y_.f1, .string y_.f2, .string y_.f3, .int .i64 y_.f4, .int .i64 y_.f5.f0, .int .i64 y_.f5.f1, .int .i64 y_.f5.f2, .int .i64 y_.f6.f0, .int .i64 y_.f6.f1, .int .i64 y_.f6.f2, .int .i64 y_.f6.f3, .int .i64 y_.f6.f4.f0, .int .i64 y_.f6.f4.f1, .int .i64 y_.f6.f4.f2, .int .i64 y_.f6.f5.f0, .int .i64 y_.f6.f5.f1, .int .i64 y_.f6.f5.f2, .int .i64 y_.f6.f6.f0, .int .i64 y_.f6.f6.f1, .int .i64 y_.f6.f7, .slice E7 y_.f7.length E7c, .slice E8 y_.f8.length E8c] rfl ?_; intro wv5_ hbk ho; have n0_ := Aside0.mk (Other.below ho HB.out (by have := ORD.out; omega)); have n1_ := Aside0.mk (Other.blk ho BK1.out (by have := ORD.out; omega)); have n2_ := Aside0.mk (Other.blk ho BK2.out (by have := ORD.out; omega)); have n3_ := Aside0.mk (hbk); clear HB BK1 BK2 BK3; have HB := n0_; have BK1 := n1_; have BK2 := n2_; have BK3 := n3_; clear n0_ n1_ n2_ n3_; clear hbk ho)))
      go_roundg (gk - 1)
      case measure => have := HQ.out; have := HC_.out; omega
      case rel => exact ⟨i_ + 1, y_, E7, E7c, E8, E8c, by rw [show wrap64 (i_ + 1) = i_ + 1 from by have := HQ.out; have := HC_.out; unfold wrap64; omega], ⟨by have := HQ.out; have := HC_.out; omega⟩, HS2, HYY, BK1, BK2, BK3, HB⟩
    · have cb : decide (i_ < (path.length : Int)) = false := decide_eq_false c_
      have hat : atP a.f5 path = some x_ := by rw [← HX.out, List.drop_of_length_le (by have := HQ.out; omega)]; rfl
      have HWX := Aside0.mk (atP_wf path a.f5 x_ HW.out hat)
      have HAT := Aside0.mk hat
      clear c_ HQ HX hat
      go_wp2_with (first | ((with_reducible refine gate_dst (N := 43) rfl ?_); go_loud ((try (refine gate_guard (by rfl) ?_; dsimp only)); refine ldb_event rfl rfl (by first | rfl | (go_simp; done) | (go_simp; rfl)) Try.underlying34 ⟨_, rfl⟩ BK3.out 23 size34 [.int .i64 x_.f0, .string x_.f1, .string x_.f2, .string x_.f3, .int .i64 x_.f4, .int .i64 x_.f5.f0, .int .i64 x_.f5.f1, .int .i64 x_.f5.f2, .int .i64 x_.f6.f0, .int .i64 x_.f6.f1, .int .i64 x_.f6.f2, .int .i64 x_.f6.f3, .int .i64 x_.f6.f4.f0, .int .i64 x_.f6.f4.f1, .int .i64 x_.f6.f4.f2, .int .i64 x_.f6.f5.f0, .int .i64 x_.f6.f5.f1, .int .i64 x_.f6.f5.f2, .int .i64 x_.f6.f6.f0, .int .i64 x_.f6.f6.f1, .int .i64 x_.f6.f7, .slice X7 x_.f7.length X7c, .slice X8 x_.f8.length X8c] rfl rfl ?_)) | ((with_reducible refine gate_callee (f := 32) rfl ?_); go_loud ((try (refine gate_guard (by rfl) ?_; dsimp only)); refine goesL_ (some 44) rfl rfl Try.func32 (by kernel_rfl) rfl #[.agg #[.int .i64 x_.f0, .string x_.f1, .string x_.f2, .string x_.f3, .int .i64 x_.f4, .int .i64 x_.f5.f0, .int .i64 x_.f5.f1, .int .i64 x_.f5.f2, .int .i64 x_.f6.f0, .int .i64 x_.f6.f1, .int .i64 x_.f6.f2, .int .i64 x_.f6.f3, .int .i64 x_.f6.f4.f0, .int .i64 x_.f6.f4.f1, .int .i64 x_.f6.f4.f2, .int .i64 x_.f6.f5.f0, .int .i64 x_.f6.f5.f1, .int .i64 x_.f6.f5.f2, .int .i64 x_.f6.f6.f0, .int .i64 x_.f6.f6.f1, .int .i64 x_.f6.f7, .slice X7 x_.f7.length X7c, .slice X8 x_.f8.length X8c]] rfl (by (try simp only [List.map_toArray, List.map_cons, List.map_nil]); first | done | rfl) ?_; (with_reducible refine (CpC.calls (copyCon.all x_ HWX.out) [.int .i64 x_.f0, .string x_.f1, .string x_.f2, .string x_.f3, .int .i64 x_.f4, .int .i64 x_.f5.f0, .int .i64 x_.f5.f1, .int .i64 x_.f5.f2, .int .i64 x_.f6.f0, .int .i64 x_.f6.f1, .int .i64 x_.f6.f2, .int .i64 x_.f6.f3, .int .i64 x_.f6.f4.f0, .int .i64 x_.f6.f4.f1, .int .i64 x_.f6.f4.f2, .int .i64 x_.f6.f5.f0, .int .i64 x_.f6.f5.f1, .int .i64 x_.f6.f5.f2, .int .i64 x_.f6.f6.f0, .int .i64 x_.f6.f6.f1, .int .i64 x_.f6.f7, .slice X7 x_.f7.length X7c, .slice X8 x_.f8.length X8c] _ (k34_mk _ x_ HXX.out.1 (Kd.C_below HXX.out.2.1 HB.out) HXX.out.2.2.1 (Kd.C_below HXX.out.2.2.2 HB.out))).mono ?_); rintro e wv5_ ⟨v7, v8, rfl, hF, hb⟩; obtain ⟨C7, C7c, rfl⟩ := k34_v7 hF; obtain ⟨C8, C8c, rfl⟩ := k34_v8 hF; refine ⟨_, rfl, ?_⟩; have n0_ := Aside0.mk (below_step HB.out hb); have n1_ := Aside0.mk (blk_below BK1.out hb); have n2_ := Aside0.mk (blk_below BK2.out hb); have n3_ := Aside0.mk (blk_below BK3.out hb); have n4_ := Aside0.mk (Kd.Fr.lower (b' := g3 + 1) hF (blk_lt BK3.out)); clear HB BK1 BK2 BK3; have HB := n0_; have BK1 := n1_; have BK2 := n2_; have BK3 := n3_; have FR := n4_; clear n0_ n1_ n2_ n3_ n4_; clear hb hF)) | ((with_reducible refine gate_store (t := 34) (p := 4) rfl ?_); go_loud (refine st_event rfl rfl rfl (g := g2) (j := 0) (by first | rfl | (go_simp; done) | (go_simp; rfl)) (u := .agg #[.int .i64 x_.f0, .string x_.f1, .string x_.f2, .string x_.f3, .int .i64 x_.f4, .int .i64 x_.f5.f0, .int .i64 x_.f5.f1, .int .i64 x_.f5.f2, .int .i64 x_.f6.f0, .int .i64 x_.f6.f1, .int .i64 x_.f6.f2, .int .i64 x_.f6.f3, .int .i64 x_.f6.f4.f0, .int .i64 x_.f6.f4.f1, .int .i64 x_.f6.f4.f2, .int .i64 x_.f6.f5.f0, .int .i64 x_.f6.f5.f1, .int .i64 x_.f6.f5.f2, .int .i64 x_.f6.f6.f0, .int .i64 x_.f6.f6.f1, .int .i64 x_.f6.f7, (.slice C7 x_.f7.length C7c), (.slice C8 x_.f8.length C8c)]) (by first | rfl | (go_simp; done) | (go_simp; rfl)) BK2.out 23 size34 rfl (by simp) (by intro x hx; simp [Value.cells] at hx; rcases hx with rfl | rfl | rfl | rfl | rfl | rfl | rfl | rfl | rfl | rfl | rfl | rfl | rfl | rfl | rfl | rfl | rfl | rfl | rfl | rfl | rfl | rfl | rfl <;> rfl) #[.int .i64 x_.f0, .string x_.f1, .string x_.f2, .string x_.f3, .int .i64 x_.f4, .int .i64 x_.f5.f0, .int .i64 x_.f5.f1, .int .i64 x_.f5.f2, .int .i64 x_.f6.f0, .int .i64 x_.f6.f1, .int .i64 x_.f6.f2, .int .i64 x_.f6.f3, .int .i64 x_.f6.f4.f0, .int .i64 x_.f6.f4.f1, .int .i64 x_.f6.f4.f2, .int .i64 x_.f6.f5.f0, .int .i64 x_.f6.f5.f1, .int .i64 x_.f6.f5.f2, .int .i64 x_.f6.f6.f0, .int .i64 x_.f6.f6.f1, .int .i64 x_.f6.f7, (.slice C7 x_.f7.length C7c), (.slice C8 x_.f8.length C8c)] rfl ?_; intro wv6_ hbk ho; have n0_ := Aside0.mk (Other.below ho HB.out (by have := ORD.out; omega)); have n1_ := Aside0.mk (Other.blk ho BK1.out (by have := ORD.out; omega)); have n2_ := Aside0.mk (hbk); have n3_ := Aside0.mk (Other.blk ho BK3.out (by have := ORD.out; omega)); have n4_ := Aside0.mk (Kd.Fr.other FR.out ho (by have := ORD.out; omega)); clear HB BK1 BK2 BK3 FR; have HB := n0_; have BK1 := n1_; have BK2 := n2_; have BK3 := n3_; have FR := n4_; clear n0_ n1_ n2_ n3_ n4_; clear hbk ho)))
      (try simp only [Exit.inBlock, Exit.then])
      refine bodyPost_ret (results_cell_row_tmp rfl _ _ g2 34 #[.int .i64 x_.f0, .string x_.f1, .string x_.f2, .string x_.f3, .int .i64 x_.f4, .int .i64 x_.f5.f0, .int .i64 x_.f5.f1, .int .i64 x_.f5.f2, .int .i64 x_.f6.f0, .int .i64 x_.f6.f1, .int .i64 x_.f6.f2, .int .i64 x_.f6.f3, .int .i64 x_.f6.f4.f0, .int .i64 x_.f6.f4.f1, .int .i64 x_.f6.f4.f2, .int .i64 x_.f6.f5.f0, .int .i64 x_.f6.f5.f1, .int .i64 x_.f6.f5.f2, .int .i64 x_.f6.f6.f0, .int .i64 x_.f6.f6.f1, .int .i64 x_.f6.f7, (.slice C7 x_.f7.length C7c), (.slice C8 x_.f8.length C8c)] (0, 0) _ rfl BK2.out Try.underlying34 rfl size34) rfl ?_
      rw [HAT.out]
      exact ⟨HB.out, _, _, _, _, rfl, Kd.Fr.lower FR.out (by have := ORD.out; omega)⟩
end Go.Proofs.Ytkfbkjcdngipcaa.PTreeEquals
end
section
namespace Go.Proofs.Ytkfbkjcdngipcaa.PTreeEquals
open Go.RowKit Go.Proofs.YtkfbkjcdngipcaaW.PrintWords Go.Proofs.YtkfbkjcdngipcaaW.PrintLast Go.Proofs.YtkfbkjcdngipcaaW.PrintMore
set_option linter.unusedVariables false
def foundC (a : S36) (path : List Int) : S34 := (atP a.f5 path).getD z34
def foundE (a : S36) (path : List Int) : Int := if (atP a.f5 path).isSome then 0 else 2
theorem z34_wf : z34.wf := (S34.wf_eq z34).2 ⟨by simp [z34], by simp [z34, S54.wfs], by simp [z34], by simp [z34, S34.wfs]⟩
theorem foundC_wf {a : S36} (hw : a.f5.wf) (path : List Int) : (foundC a path).wf := by
  unfold foundC
  cases h : atP a.f5 path with
  | none => exact z34_wf
  | some y => exact atP_wf path a.f5 y hw h
theorem refAt.uni (a : S36) (cs : List Value) (path : List Int) (P : Option Addr) (pc : Nat) (w : World) (hk : k36.K w a cs) (hpr : Kd.C (Kd.int .i64) w P path.length path) (hp : ∀ n ∈ path, n ≤ 9223372036854775807) :
    Calls Try.prog 10 #[.agg cs.toArray, .slice P path.length pc] w fun e w' => ∃ ds, e = .returned (.tuple #[.agg ds.toArray, .int .i64 (foundE a path)]) ∧ k34.K w' (foundC a path) ds ∧ Below w.heap.size w w' := by
  refine (refAt.calls a cs path P pc w hk hpr hp).mono ?_
  rintro e w' ⟨hb, h⟩
  unfold foundC foundE
  cases hq : atP a.f5 path with
  | none =>
    rw [hq] at h
    exact ⟨_, h, k34_mk w' z34 (Nat.le_refl _) (Kd.R_reads' (Kd.R_nil k54 54 w' 0 (fun _ => True))).2.2 (Nat.le_refl _) (Kd.R_reads' (Kd.R_nil k34 34 w' 0 (fun _ => True))).2.2, hb⟩
  | some y =>
    rw [hq] at h
    obtain ⟨ds, h1, h2⟩ := h
    exact ⟨ds, h1, h2, hb⟩
theorem treeAt.uni (a : S36) (cs : List Value) (path : List Int) (P : Option Addr) (pc : Nat) (w : World) (hk : k36.K w a cs) (hpr : Kd.C (Kd.int .i64) w P path.length path) (hp : ∀ n ∈ path, n ≤ 9223372036854775807) (hw : a.f5.wf) :
    Calls Try.prog 11 #[.agg cs.toArray, .slice P path.length pc] w fun e w' => ∃ ds, e = .returned (.tuple #[.agg ds.toArray, .int .i64 (foundE a path)]) ∧ Kd.Fr k34 w.heap.size w' (foundC a path) ds ∧ Below w.heap.size w w' := by
  refine (treeAt.calls a cs path P pc w hk hpr hp hw).mono ?_
  rintro e w' ⟨hb, h⟩
  unfold foundC foundE
  cases hq : atP a.f5 path with
  | none =>
    rw [hq] at h
    exact ⟨_, h, k34_mkM w' w.heap.size (fun k => w.heap.size ≤ k) z34 (Kd.R_nil k54 54 w' w.heap.size _) (Kd.R_nil k34 34 w' w.heap.size _), hb⟩
  | some y =>
    rw [hq] at h
    obtain ⟨C7, C7c, C8, C8c, h1, h2⟩ := h
    exact ⟨_, h1, h2, hb⟩
end Go.Proofs.Ytkfbkjcdngipcaa.PTreeEquals
end
section
namespace Go.Proofs.Ytkfbkjcdngipcaa.PTreeEquals
open Go.RowKit Go.Proofs.YtkfbkjcdngipcaaW.PrintWords Go.Proofs.YtkfbkjcdngipcaaW.PrintLast Go.Proofs.YtkfbkjcdngipcaaW.PrintMore
set_option linter.unusedVariables false
def pat : Nat → Nat → Nat
  | 23, _ => 0
  | 54, c => if c % 5 ≤ 1 then 0 else if c % 5 = 2 then 1 else 2
  | 34, c => if c % 23 = 1 ∨ c % 23 = 2 ∨ c % 23 = 3 then 1 else if c % 23 = 21 ∨ c % 23 = 22 then 2 else 0
  | _, _ => 3
def dflt (t c : Nat) (v : Value) : Prop := (pat t c = 0 ∧ ∃ z, v = .int .i64 z) ∨ (pat t c = 1 ∧ ∃ s, v = .string s) ∨ (pat t c = 2 ∧ v = .slice none 0 0)
theorem pat_mod (t sz : Nat) (h : (t = 23 ∧ sz = 3) ∨ (t = 54 ∧ sz = 5) ∨ (t = 34 ∧ sz = 23)) (j i : Nat) : pat t (j * sz + i) = pat t i := by
  rcases h with ⟨rfl, rfl⟩ | ⟨rfl, rfl⟩ | ⟨rfl, rfl⟩
  · rfl
  · simp only [pat, Nat.mul_add_mod_self_right]
  · simp only [pat, Nat.mul_add_mod_self_right]
def SoftA (t : Nat) (cur cur' : Array Value) : Prop := cur'.size = cur.size ∧ ∀ (c : Nat) (v : Value), cur'[c]? = some v → cur[c]? = some v ∨ dflt t c v
theorem SoftA.refl (t : Nat) (cur : Array Value) : SoftA t cur cur := ⟨rfl, fun _ _ h => .inl h⟩
theorem SoftA.trans {t : Nat} {a b c : Array Value} (h : SoftA t a b) (k : SoftA t b c) : SoftA t a c := ⟨k.1.trans h.1, fun i v hv => by
  rcases k.2 i v hv with h1 | h1
  · exact h.2 i v h1
  · exact .inr h1⟩
structure Soft (ok : Nat → Prop) (w w' : World) : Prop where
  os : w'.os = w.os
  tape : w'.tape = w.tape
  output : w'.output = w.output
  size : w.heap.size ≤ w'.heap.size
  keep : ∀ k, k < w.heap.size → ¬ ok k → w'.heap[k]? = w.heap[k]?
  soft : ∀ k, k < w.heap.size → w'.heap[k]? = w.heap[k]? ∨ ∃ t cur cur', w.heap[k]? = some (.cells cur t (0, 0)) ∧ w'.heap[k]? = some (.cells cur' t (0, 0)) ∧ SoftA t cur cur'
theorem Soft.refl (ok : Nat → Prop) (w : World) : Soft ok w w := ⟨rfl, rfl, rfl, Nat.le_refl _, fun _ _ _ => rfl, fun _ _ => .inl rfl⟩
theorem Soft.trans {ok : Nat → Prop} {a b c : World} (h : Soft ok a b) (k : Soft ok b c) : Soft ok a c where
  os := k.os.trans h.os
  tape := k.tape.trans h.tape
  output := k.output.trans h.output
  size := Nat.le_trans h.size k.size
  keep := fun i hi hn => (k.keep i (Nat.lt_of_lt_of_le hi h.size) hn).trans (h.keep i hi hn)
  soft := fun i hi => by
    rcases k.soft i (Nat.lt_of_lt_of_le hi h.size) with h1 | ⟨t, cur, cur', h1, h2, h3⟩
    · rw [h1]; exact h.soft i hi
    · rcases h.soft i hi with q1 | ⟨t2, c1, c2, q1, q2, q3⟩
      · exact .inr ⟨t, cur, cur', q1 ▸ h1, h2, h3⟩
      · rw [q2] at h1
        injection h1 with h1
        injection h1 with e1 e2 e3
        subst e1 e2
        exact .inr ⟨_, c1, cur', q1, h2, q3.trans h3⟩
theorem Soft.mono {ok ok' : Nat → Prop} {a b : World} (h : Soft ok a b) (hok : ∀ k, k < a.heap.size → ok k → ok' k) : Soft ok' a b :=
  ⟨h.os, h.tape, h.output, h.size, fun k hk hn => h.keep k hk (fun ho => hn (hok k hk ho)), h.soft⟩
theorem Soft.below {ok : Nat → Prop} {w w' : World} (h : Below w.heap.size w w') : Soft ok w w' := ⟨h.os, h.tape, h.output, h.size, fun k hk _ => h.block k hk, fun k hk => .inl (h.block k hk)⟩
theorem Soft.other {ok : Nat → Prop} {g : Nat} {w w' : World} {t : Nat} {cur cur' : Array Value} (h : Other g w w') (hg : ok g) (h1 : w.heap[g]? = some (.cells cur t (0, 0))) (h2 : w'.heap[g]? = some (.cells cur' t (0, 0))) (hs : SoftA t cur cur') : Soft ok w w' where
  os := h.os
  tape := h.tape
  output := h.output
  size := Nat.le_of_eq h.size.symm
  keep := fun k _ hn => h.block k (fun e => hn (e ▸ hg))
  soft := fun k _ => by
    by_cases e : k = g
    · subst e; exact .inr ⟨t, cur, cur', h1, h2, hs⟩
    · exact .inl (h.block k e)
def SoftL (t : Nat) (cs cs' : List Value) : Prop := cs'.length = cs.length ∧ ∀ (c : Nat) (v : Value), cs'[c]? = some v → cs[c]? = some v ∨ dflt t c v
theorem SoftL.refl (t : Nat) (cs : List Value) : SoftL t cs cs := ⟨rfl, fun _ _ h => .inl h⟩
theorem soft_row {α : Type} {d : Kd α} {e : Nat} {w w' : World} {okS : Nat → Prop} {base : Nat} {ok : Nat → Prop} {v : Value} {xs : List α} (he : (e = 23 ∧ d.sz = 3) ∨ (e = 54 ∧ d.sz = 5) ∨ (e = 34 ∧ d.sz = 23))
    {W : α → Prop} (hE : ∀ (ok : Nat → Prop) (x : α) (cs cs' : List Value), d.M w base ok x cs → W x → SoftL e cs cs' → ∃ y, W y ∧ d.M w' base ok y cs') (hs : Soft okS w w') (h : d.R e w base ok v xs) (hW : ∀ x ∈ xs, W x) : ∃ ys : List α, ys.length = xs.length ∧ (∀ y ∈ ys, W y) ∧ d.R e w' base ok v ys := by
  obtain ⟨hok, inner, hown, hr⟩ := h
  rcases hown.2 with ⟨rfl, hn⟩ | ⟨g, cap, cur, rfl, hb, hh, hnc, hcm, hcs, ht⟩
  · have hx : xs = [] := List.eq_nil_of_length_eq_zero hn
    subst hx
    exact ⟨[], rfl, (fun _ h => nomatch h), Kd.R_mono (Kd.R_nil d e w' base (fun _ => False)) (fun _ hk => hk.elim)⟩
  · have hlt : g < w.heap.size := blk_lt hh
    obtain ⟨cur', h1, h2⟩ : ∃ cur', w'.heap[g]? = some (.cells cur' e (0, 0)) ∧ SoftA e cur cur' := by
      rcases hs.soft g hlt with q | ⟨t, c1, c2, q1, q2, q3⟩
      · exact ⟨cur, q.trans hh, SoftA.refl _ _⟩
      · rw [hh] at q1
        injection q1 with q1
        injection q1 with e1 e2 e3
        subst e1 e2
        exact ⟨c2, q2, q3⟩
    have hl : inner.length = xs.length * d.sz := hown.1
    have hle : xs.length * d.sz ≤ cur.size := by rw [hcs]; exact Nat.mul_le_mul_right _ hnc
    have hel : ∀ j : Nat, j < xs.length → ∃ y : α, W y ∧ d.M w' base (fun k => ok k ∧ some k ≠ (Value.slice (some ⟨g, 0, none⟩) xs.length cap).ownBlock) y (((cur'.toList.take (xs.length * d.sz)).drop (j * d.sz)).take d.sz) := by
      intro j hj
      have hm := hr.2 j _ (List.getElem?_eq_getElem hj)
      refine hE _ _ _ _ hm (hW _ (List.getElem_mem _)) ⟨?_, fun c v hv => ?_⟩
      · rw [← ht]; simp [h2.1]
      · have hc : c < d.sz := by
          rcases Nat.lt_or_ge c d.sz with q | q
          · exact q
          · rw [List.getElem?_eq_none (by rw [List.length_take]; omega)] at hv; cases hv
        rw [List.getElem?_take, if_pos hc, List.getElem?_drop] at hv
        have hjs : j * d.sz + c < xs.length * d.sz := by
          have : (j + 1) * d.sz ≤ xs.length * d.sz := Nat.mul_le_mul_right _ hj
          rw [Nat.succ_mul] at this
          omega
        rw [List.getElem?_take, if_pos hjs, Array.getElem?_toList] at hv
        rw [List.getElem?_take, if_pos hc, List.getElem?_drop, ← ht, List.getElem?_take, if_pos hjs, Array.getElem?_toList]
        rcases h2.2 _ v hv with q | q
        · exact .inl q
        · refine .inr ?_
          unfold dflt at q ⊢
          rwa [pat_mod e d.sz he] at q
    obtain ⟨f, hf⟩ : ∃ f : Nat → Option α, ∀ j, j < xs.length → ∃ y, f j = some y ∧ W y ∧ d.M w' base (fun k => ok k ∧ some k ≠ (Value.slice (some ⟨g, 0, none⟩) xs.length cap).ownBlock) y (((cur'.toList.take (xs.length * d.sz)).drop (j * d.sz)).take d.sz) := by
      classical
      refine ⟨fun j => if h : j < xs.length then some (Classical.choose (hel j h)) else none, fun j hj => ?_⟩
      exact ⟨Classical.choose (hel j hj), by simp [hj], Classical.choose_spec (hel j hj)⟩
    have hys : ∃ ys : List α, ys.length = xs.length ∧ ∀ (j : Nat) (y : α), ys[j]? = some y → f j = some y := by
      have aux : ∀ n, n ≤ xs.length → ∃ ys : List α, ys.length = n ∧ ∀ (j : Nat) (y : α), ys[j]? = some y → f j = some y := by
        intro n
        induction n with
        | zero => intro _; exact ⟨[], rfl, fun j y h => by simp at h⟩
        | succ n ih =>
          intro hn
          obtain ⟨ys, h1, h2⟩ := ih (by omega)
          obtain ⟨y, hy, _⟩ := hf n (by omega)
          refine ⟨ys ++ [y], by simp [h1], fun j z hz => ?_⟩
          rcases Nat.lt_or_ge j n with q | q
          · rw [List.getElem?_append_left (by omega)] at hz; exact h2 j z hz
          · rw [List.getElem?_append_right (by omega)] at hz
            have : j - ys.length = 0 := by
              rcases Nat.eq_zero_or_pos (j - ys.length) with p | p
              · exact p
              · rw [List.getElem?_eq_none (by simp; omega)] at hz; cases hz
            rw [this] at hz
            have : j = n := by omega
            subst this
            simp at hz
            rw [← hz]; exact hy
      exact aux _ (Nat.le_refl _)
    obtain ⟨ys, hyl, hyf⟩ := hys
    refine ⟨ys, hyl, fun y hy => ?_, ?_⟩
    · obtain ⟨j, hj, rfl⟩ := List.getElem_of_mem hy
      obtain ⟨y, h1, h2, _⟩ := hf j (by omega)
      have := hyf j _ (List.getElem?_eq_getElem hj)
      rw [h1] at this
      injection this with this
      exact this ▸ h2
    rw [show (Value.slice (some ⟨g, 0, none⟩) xs.length cap) = .slice (some ⟨g, 0, none⟩) ys.length cap by rw [hyl]]
    refine ⟨fun k hk => hok k (by rw [hyl] at hk; exact hk), cur'.toList.take (ys.length * d.sz), ⟨?_, .inr ⟨g, cap, cur', rfl, hb, h1, by omega, hcm, by rw [h2.1]; exact hcs, rfl⟩⟩, ?_, fun j p hj => ?_⟩
    · have hz := h2.1; simp only [List.length_take, Array.length_toList, hyl]; omega
    · have hz := h2.1; simp only [List.length_take, Array.length_toList, hyl]; omega
    · obtain ⟨hjl, _⟩ := List.getElem?_eq_some_iff.1 hj
      obtain ⟨y, hy, _, hm⟩ := hf j (by omega)
      have := hyf j p hj
      rw [hy] at this
      injection this with this
      subst this
      rw [hyl]
      exact hm
end Go.Proofs.Ytkfbkjcdngipcaa.PTreeEquals
end
section
namespace Go.Proofs.Ytkfbkjcdngipcaa.PTreeEquals
open Go.RowKit Go.Proofs.YtkfbkjcdngipcaaW.PrintWords Go.Proofs.YtkfbkjcdngipcaaW.PrintLast Go.Proofs.YtkfbkjcdngipcaaW.PrintMore
set_option linter.unusedVariables false
def dfl (p : Nat) (v : Value) : Prop := (p = 0 ∧ ∃ z, v = .int .i64 z) ∨ (p = 1 ∧ ∃ s, v = .string s) ∨ (p = 2 ∧ v = .slice none 0 0)
def SK {α : Type} (d : Kd α) (pt : Nat → Nat) (W : α → Prop) : Prop := ∀ (okS : Nat → Prop) (w w' : World), Soft okS w w' → ∀ (base : Nat) (ok : Nat → Prop) (x : α) (cs cs' : List Value), d.M w base ok x cs → W x → cs'.length = cs.length → (∀ (c : Nat) (v : Value), cs'[c]? = some v → cs[c]? = some v ∨ dfl (pt c) v) → ∃ y, W y ∧ d.M w' base ok y cs'
theorem sk_pair {α β : Type} {a : Kd α} {b : Kd β} {pt : Nat → Nat} {Wa : α → Prop} {Wb : β → Prop} (ha : SK a pt Wa) (hb : SK b (fun c => pt (a.sz + c)) Wb) : SK (Kd.pair a b) pt (fun p => Wa p.1 ∧ Wb p.2) := by
  rintro okS w w' hs base ok x cs cs' ⟨c0, c1, rfl, h0, h1⟩ ⟨v0, v1⟩ hl hc
  have l0 : c0.length = a.sz := a.K_len (a.K_of_M h0)
  rw [List.length_append] at hl
  obtain ⟨y0, u0, m0⟩ := ha okS w w' hs base ok x.1 c0 (cs'.take a.sz) h0 v0 (by rw [List.length_take]; omega) (fun c v hv => by
    have hca : c < a.sz := by
      rcases Nat.lt_or_ge c a.sz with q | q
      · exact q
      · rw [List.getElem?_eq_none (by rw [List.length_take]; omega)] at hv; cases hv
    rw [List.getElem?_take, if_pos hca] at hv
    have := hc c v hv
    rwa [List.getElem?_append_left (by omega)] at this)
  obtain ⟨y1, u1, m1⟩ := hb okS w w' hs base ok x.2 c1 (cs'.drop a.sz) h1 v1 (by rw [List.length_drop]; omega) (fun c v hv => by
    rw [List.getElem?_drop] at hv
    have := hc _ v hv
    rwa [List.getElem?_append_right (by omega), show a.sz + c - c0.length = c by omega] at this)
  exact ⟨(y0, y1), ⟨u0, u1⟩, cs'.take a.sz, cs'.drop a.sz, (List.take_append_drop _ _).symm, m0, m1⟩
theorem sk_iso {α β : Type} {d : Kd α} {f : β → α} {pt : Nat → Nat} {Wa : α → Prop} {Wb : β → Prop} (h : SK d pt Wa) (g : α → β) (hg : ∀ x, f (g x) = x) (hW : ∀ x, Wb x ↔ Wa (f x)) : SK (Kd.iso d f) pt Wb := by
  rintro okS w w' hs base ok x cs cs' hm hu hl hc
  obtain ⟨y, hv, hy⟩ := h okS w w' hs base ok (f x) cs cs' hm ((hW x).1 hu) hl hc
  exact ⟨g y, (hW _).2 (by rw [hg]; exact hv), by show d.M w' base ok (f (g y)) cs'; rw [hg]; exact hy⟩
theorem one_of {l : List Value} (h : l.length = 1) : ∃ v, l = [v] := by
  match l, h with
  | [v], _ => exact ⟨v, rfl⟩
theorem sk_int {pt : Nat → Nat} (h : pt 0 = 0) : SK (Kd.int .i64) pt (fun _ => True) := by
  intro okS w w' hs base ok x cs cs' hm _ hl hc
  have hcs : cs = [.int .i64 x] := hm
  subst hcs
  obtain ⟨v, rfl⟩ := one_of hl
  rcases hc 0 v rfl with q | q
  · injection q with q
    subst q
    exact ⟨x, trivial, rfl⟩
  · rcases q with ⟨_, z, rfl⟩ | ⟨p, _⟩ | ⟨p, _⟩
    · exact ⟨z, trivial, rfl⟩
    · omega
    · omega
theorem sk_string {pt : Nat → Nat} (h : pt 0 = 1) : SK Kd.string pt (fun _ => True) := by
  intro okS w w' hs base ok x cs cs' hm _ hl hc
  have hcs : cs = [.string x] := hm
  subst hcs
  obtain ⟨v, rfl⟩ := one_of hl
  rcases hc 0 v rfl with q | q
  · injection q with q
    subst q
    exact ⟨x, trivial, rfl⟩
  · rcases q with ⟨p, _⟩ | ⟨_, z, rfl⟩ | ⟨p, _⟩
    · omega
    · exact ⟨z, trivial, rfl⟩
    · omega
theorem sk_slice {α : Type} {d : Kd α} {e : Nat} {pt : Nat → Nat} (h : pt 0 = 2) (he : (e = 23 ∧ d.sz = 3) ∨ (e = 54 ∧ d.sz = 5) ∨ (e = 34 ∧ d.sz = 23)) {W : α → Prop} (m : Nat) (hd : SK d (pat e) W) : SK (Kd.slice e d) pt (fun xs => xs.length * m ≤ 140737488351232 ∧ ∀ x ∈ xs, W x) := by
  rintro okS w w' hs base ok x cs cs' ⟨u, rfl, hr⟩ ⟨hq, hu⟩ hl hc
  obtain ⟨v, rfl⟩ := one_of hl
  rcases hc 0 v rfl with q | q
  · injection q with q
    subst q
    obtain ⟨ys, hyl, hyu, hy⟩ := soft_row he (fun ok x cs cs' hm hux hsl => hd okS w w' hs base ok x cs cs' hm hux hsl.1 (fun c v hv => hsl.2 c v hv)) hs hr hu
    exact ⟨ys, ⟨by rw [hyl]; exact hq, hyu⟩, _, rfl, hy⟩
  · rcases q with ⟨p, _⟩ | ⟨p, _⟩ | ⟨_, rfl⟩
    · omega
    · omega
    · exact ⟨[], ⟨by simp, fun _ h => nomatch h⟩, _, rfl, Kd.R_nil _ _ _ _ _⟩
theorem sk23 {pt : Nat → Nat} (h : ∀ c, c < 3 → pt c = 0) : SK k23 pt (fun _ => True) :=
  sk_iso (sk_pair (sk_int (h 0 (by omega))) (sk_pair (sk_int (h 1 (by omega))) (sk_int (h 2 (by omega))))) (fun p => ⟨p.1, p.2.1, p.2.2⟩) (fun _ => rfl) (by simp)
theorem sk54n : ∀ n, SK (Kd.upto F54 5 [23, 54] n) (pat 54) S54.wf
  | 0 => fun _ _ _ _ _ _ _ _ _ hm _ _ _ => hm.elim
  | n + 1 => sk_iso (sk_pair (sk_int rfl) (sk_pair (sk_int rfl) (sk_pair (sk_string rfl) (sk_pair (sk_slice rfl (.inl ⟨rfl, rfl⟩) 24 (sk23 (fun _ _ => rfl))) (sk_slice rfl (.inr (.inl ⟨rfl, sz54 n⟩)) 80 (sk54n n)))))) (fun p => ⟨p.1, p.2.1, p.2.2.1, p.2.2.2.1, p.2.2.2.2⟩) (fun _ => rfl) (fun x => by rw [S54.wf_eq, S54.wfs_iff]; simp)
theorem sk54 : SK k54 (pat 54) S54.wf := by
  rintro okS w w' hs base ok x cs cs' ⟨n, hm⟩ hu hl hc
  obtain ⟨y, hv, hy⟩ := sk54n n okS w w' hs base ok x cs cs' hm hu hl hc
  exact ⟨y, hv, n, hy⟩
theorem sk30 {pt : Nat → Nat} (h : ∀ c, c < 13 → pt c = 0) : SK k30 pt (fun _ => True) :=
  sk_iso (sk_pair (sk_int (h 0 (by omega))) (sk_pair (sk_int (h 1 (by omega))) (sk_pair (sk_int (h 2 (by omega))) (sk_pair (sk_int (h 3 (by omega))) (sk_pair (sk23 (fun c hc => h (1 + (1 + (1 + (1 + c)))) (by omega))) (sk_pair (sk23 (fun c hc => h (1 + (1 + (1 + (1 + (3 + c))))) (by omega))) (sk_pair (sk_iso (sk_pair (sk_int (h 10 (by omega))) (sk_int (h 11 (by omega)))) (Wb := fun _ => True) (fun p => ⟨p.1, p.2⟩) (fun _ => rfl) (by simp)) (sk_int (h 12 (by omega))))))))))
    (fun p => ⟨p.1, p.2.1, p.2.2.1, p.2.2.2.1, p.2.2.2.2.1, p.2.2.2.2.2.1, p.2.2.2.2.2.2.1, p.2.2.2.2.2.2.2⟩) (fun _ => rfl) (by simp)
theorem sk34n : ∀ n, SK (Kd.upto F34 23 [23, 34, 54] n) (pat 34) S34.wf
  | 0 => fun _ _ _ _ _ _ _ _ _ hm _ _ _ => hm.elim
  | n + 1 => sk_iso (sk_pair (sk_int rfl) (sk_pair (sk_string rfl) (sk_pair (sk_string rfl) (sk_pair (sk_string rfl) (sk_pair (sk_int rfl) (sk_pair (sk23 (fun c hc => by show (if _ then _ else _) = 0; rw [if_neg (by simp only [Kd.string, Kd.int, Kd.scalar]; omega), if_neg (by simp only [Kd.string, Kd.int, Kd.scalar]; omega)]))
      (sk_pair (sk30 (fun c hc => by show (if _ then _ else _) = 0; rw [if_neg (by simp only [Kd.string, Kd.int, Kd.scalar, k23, Kd.iso, Kd.pair]; omega), if_neg (by simp only [Kd.string, Kd.int, Kd.scalar, k23, Kd.iso, Kd.pair]; omega)])) (sk_pair (sk_slice rfl (.inr (.inl ⟨rfl, rfl⟩)) 80 sk54) (sk_slice rfl (.inr (.inr ⟨rfl, sz34 n⟩)) 240 (sk34n n))))))))))
    (fun p => ⟨p.1, p.2.1, p.2.2.1, p.2.2.2.1, p.2.2.2.2.1, p.2.2.2.2.2.1, p.2.2.2.2.2.2.1, p.2.2.2.2.2.2.2.1, p.2.2.2.2.2.2.2.2⟩) (fun _ => rfl) (fun x => by rw [S34.wf_eq, S34.wfs_iff, S54.wfs_iff]; simp [and_assoc])
end Go.Proofs.Ytkfbkjcdngipcaa.PTreeEquals
end
section
namespace Go.Proofs.Ytkfbkjcdngipcaa.PTreeEquals
open Go.RowKit Go.Proofs.YtkfbkjcdngipcaaW.PrintWords Go.Proofs.YtkfbkjcdngipcaaW.PrintLast Go.Proofs.YtkfbkjcdngipcaaW.PrintMore
set_option linter.unusedVariables false
def RowOk (t sz : Nat) (ok : Nat → Prop) (w : World) (A : Option Addr) (n c : Nat) : Prop :=
  (A = none ∧ n = 0 ∧ c = 0) ∨ ∃ g cur, A = some ⟨g, 0, none⟩ ∧ ok g ∧ w.heap[g]? = some (.cells cur t (0, 0)) ∧ n ≤ c ∧ cur.size = c * sz ∧ c ≤ maxLen
theorem rowOk_of {α : Type} {d : Kd α} {e : Nat} {w : World} {base : Nat} {ok : Nat → Prop} {v : Value} {xs : List α} (h : d.R e w base ok v xs) : ∃ A c, v = .slice A xs.length c ∧ RowOk e d.sz ok w A xs.length c := by
  obtain ⟨h0, inner, hown, hr⟩ := h
  rcases hown.2 with ⟨rfl, hn⟩ | ⟨g, cap, cur, rfl, hb, hh, hnc, hcm, hcs, ht⟩
  · rw [hn]; exact ⟨none, 0, rfl, .inl ⟨rfl, rfl, rfl⟩⟩
  · exact ⟨_, cap, rfl, .inr ⟨g, cur, rfl, h0 g rfl, hh, hnc, hcs, hcm⟩⟩
theorem RowOk.soft {t sz : Nat} {ok okS : Nat → Prop} {w w' : World} {A : Option Addr} {n c : Nat} (h : RowOk t sz ok w A n c) (hs : Soft okS w w') : RowOk t sz ok w' A n c := by
  rcases h with h | ⟨g, cur, rfl, hg, hh, h1, h2, h3⟩
  · exact .inl h
  · rcases hs.soft g (blk_lt hh) with q | ⟨t2, c1, c2, q1, q2, q3⟩
    · exact .inr ⟨g, cur, rfl, hg, q.trans hh, h1, h2, h3⟩
    · rw [hh] at q1
      injection q1 with q1
      injection q1 with e1 e2 e3
      subst e1 e2
      exact .inr ⟨g, c2, rfl, hg, q2, h1, by rw [q3.1]; exact h2, h3⟩
theorem Soft.cell {ok : Nat → Prop} {w w' : World} (hs : Soft ok w w') {ad : Addr} {v : Value} (hn : ¬ ok ad.block) (h : w.cell? ad = some v) : w'.cell? ad = some v := by
  have hk := hs.keep ad.block (World.block_lt_of_cell? _ _ h) hn
  unfold World.cell? at h ⊢
  rw [hk]
  exact h
theorem CSat.soft {ok : Nat → Prop} {w w' : World} {ad : Addr} {cs : List Value} (h : CSat w ad cs) (hs : Soft ok w w') (hn : ¬ ok ad.block) : CSat w' ad cs := fun j v hj => hs.cell (by rwa [show (ad.add j).block = ad.block by unfold Addr.add; split <;> rfl]) (h j v hj)
theorem Soft.store {ok : Nat → Prop} {u W W1 : World} {g t : Nat} {cur cur1 : Array Value} (hs : Soft ok u W) (ho : Other g W W1) (hg : ok g ∨ u.heap.size ≤ g) (hb : W.heap[g]? = some (.cells cur t (0, 0))) (hb1 : W1.heap[g]? = some (.cells cur1 t (0, 0))) (hsa : SoftA t cur cur1) : Soft ok u W1 := by
  rcases hg with hg | hg
  · exact hs.trans (Soft.other ho hg hb hb1 hsa)
  · refine ⟨ho.os.trans hs.os, ho.tape.trans hs.tape, ho.output.trans hs.output, by rw [ho.size]; exact hs.size, fun k hk hn => (ho.block k (by omega)).trans (hs.keep k hk hn), fun k hk => ?_⟩
    rw [ho.block k (by omega)]
    exact hs.soft k hk
theorem softA_store {t : Nat} {cur : Array Value} {cs : List Value} {p : Nat} (hl : ∀ j v, cs[j]? = some v → dflt t (p + j) v) (hfit : p + cs.length ≤ cur.size) : SoftA t cur (cur.toList.take p ++ cs ++ cur.toList.drop (p + cs.length)).toArray := by
  refine ⟨by simp only [List.size_toArray, List.length_append, List.length_take, List.length_drop, Array.length_toList]; omega, fun c v hv => ?_⟩
  have hv' : (cur.toList.take p ++ cs ++ cur.toList.drop (p + cs.length))[c]? = some v := by rwa [List.getElem?_toArray] at hv
  rw [List.append_assoc] at hv'
  rcases Nat.lt_or_ge c p with q | q
  · rw [List.getElem?_append_left (by rw [List.length_take, Array.length_toList]; omega), List.getElem?_take, if_pos q] at hv'
    exact .inl (by simpa using hv')
  · rw [List.getElem?_append_right (by rw [List.length_take]; omega), List.length_take, Nat.min_eq_left (by rw [Array.length_toList]; omega)] at hv'
    rcases Nat.lt_or_ge (c - p) cs.length with r | r
    · rw [List.getElem?_append_left r] at hv'
      have := hl _ v hv'
      rw [show p + (c - p) = c by omega] at this
      exact .inr this
    · rw [List.getElem?_append_right r, List.getElem?_drop, show p + cs.length + (c - p - cs.length) = c by omega] at hv'
      exact .inl (by simpa using hv')
section
variable {P : Program} {ops : Array Oper} {rest : List Oper} {o : Oper} {a : Act} {Q : Exit → Act → World → Prop}
theorem app_soft {u W : World} {ok : Nat → Prop} (hgd : o.guard = none) (s x : Operand) (t e size bytes : Nat) (z : Value)
    (ho : o.op = .call { callee := .builtin .append, args := #[s, x], argTypes := #[t, t] })
    (ht : P.underlying t = some (.slice e)) (hinfo : (P.info? e).map (fun i => (i.zero, i.size, i.bytes)) = some (some z, size, bytes)) (hzs : z.cells.size = size) (he : (e = 23 ∧ size = 3) ∨ (e = 54 ∧ size = 5) ∨ (e = 34 ∧ size = 23))
    {A : Option Addr} {n c : Nat} (hs : a.eval s = .slice A n c) {ad : Addr} {cs : List Value} (hx : a.eval x = .slice (some ad) 1 1) (hcs : CSat W ad cs) (hcl : cs.length = size) (h1 : ∀ y ∈ cs, y.oneCell' = true) (hl : ∀ j v, cs[j]? = some v → dflt e j v)
    (hr : RowOk e size ok W A n c) (hu : Soft ok u W) (hlen : (n + 1) * bytes ≤ 140737488355328) (hb1 : 0 < bytes)
    (h : ∀ g1 c1 w1, Soft ok u w1 → (ok g1 ∨ u.heap.size ≤ g1) → (∃ cur1, w1.heap[g1]? = some (.cells cur1 e (0, 0)) ∧ (n + 1) * size ≤ cur1.size) → wpList P ops Q rest (a.put o.dst (.slice (some ⟨g1, 0, none⟩) (n + 1) c1)) w1) : wpList P ops Q (o :: rest) a W := by
  obtain ⟨i, hi, hq⟩ := Option.map_eq_some_iff.1 hinfo
  injection hq with hz hq
  injection hq with hsize hby
  subst hsize hby
  have hrun : ∃ g1 c1 w1, (Builtin.append_ #[t, t] o.type #[.slice A n c, .slice (some ad) 1 1]).run P W = .ok (.slice (some ⟨g1, 0, none⟩) (n + 1) c1) w1 ∧ Soft ok u w1 ∧ (ok g1 ∨ u.heap.size ≤ g1) ∧ (∃ cur1, w1.heap[g1]? = some (.cells cur1 e (0, 0)) ∧ (n + 1) * i.size ≤ cur1.size) := by
    have hn1 : n + 1 ≤ 140737488355328 := Nat.le_trans (Nat.le_mul_of_pos_right _ hb1) hlen
    have new : ∀ (cells : Array Value), Soft ok u (W.drew.alloc (.cells cells e)) := fun cells => hu.trans (Soft.below ⟨rfl, rfl, rfl, by simp, fun k hk => heap_alloc_old W.drew _ (by simpa using hk)⟩)
    rcases hr with ⟨rfl, rfl, rfl⟩ | ⟨g, cur, rfl, hg, hh, hnc, hsz, _⟩
    · have hr := run_append_nil (P := P) W t o.type e i z ht hi hz ad 1 1 cs (by omega) hcs (by omega) (by omega) (by omega)
      refine ⟨_, _, _, by simpa using hr, new _, .inr hu.size, _, heap_alloc_new W.drew _, ?_⟩
      simp only [Array.size_append, List.size_toArray, hcl]
      omega
    · by_cases hroom : n + 1 ≤ c
      · have hfit : n * i.size + cs.length ≤ cur.size := by
          rw [hcl, hsz, ← Nat.succ_mul]; exact Nat.mul_le_mul_right _ hroom
        have hr := run_append_room (P := P) W t o.type e i ht hi g n c cur hh ad 1 1 cs (by omega) hcs h1 hroom hfit
        have hsa : SoftA e cur (cur.toList.take (n * i.size) ++ cs ++ cur.toList.drop (n * i.size + cs.length)).toArray := softA_store (fun j v hj => by
          have := hl j v hj
          unfold dflt at this ⊢
          rwa [pat_mod e i.size he]) hfit
        refine ⟨_, _, _, hr, hu.store (Other.set W g _) (.inl hg) hh (setRow_heap W g cur _ e _ hh) hsa, .inl hg, _, setRow_heap W g cur _ e _ hh, ?_⟩
        rw [hsa.1, hsz]; exact Nat.mul_le_mul_right _ hroom
      · have hns : n * i.size ≤ cur.size := by rw [hsz]; exact Nat.mul_le_mul_right _ hnc
        have hr := run_append_grow (P := P) W t o.type e i z ht hi hz ⟨g, 0, none⟩ n c (cur.toList.take (n * i.size)) (by rw [List.length_take, Array.length_toList]; omega) (by
          have := blk_cs hh (j := 0) (n := n * i.size) (cur.toList.take (n * i.size)) (by simp)
          exact this) ad 1 1 cs (by omega) hcs (by omega) (by omega) (growslice_fits (by omega) hlen)
        refine ⟨_, _, _, hr, new _, .inr hu.size, _, heap_alloc_new W.drew _, ?_⟩
        simp only [Array.size_append, List.size_toArray, hcl, List.length_take, Array.length_toList, Nat.succ_mul]
        omega
  obtain ⟨g1, c1, w1, hr, h2, h3, h4⟩ := hrun
  refine wpList_plain hgd fun K hK => ?_
  unfold Oper.wp execOp
  simp only [ho, resolve, invoke, builtin, Sem.run_bind, Sem.run_pure, Result.andThen_ok, List.map_toArray, List.map_cons, List.map_nil, hs, hx, hr]
  exact hK _ _ (h g1 c1 w1 h2 h3 h4)
end
end Go.Proofs.Ytkfbkjcdngipcaa.PTreeEquals
end
section
namespace Go.Proofs.Ytkfbkjcdngipcaa.PTreeEquals
open Go.RowKit Go.Proofs.YtkfbkjcdngipcaaW.PrintWords Go.Proofs.YtkfbkjcdngipcaaW.PrintLast Go.Proofs.YtkfbkjcdngipcaaW.PrintMore
set_option linter.unusedVariables false
set_option linter.unusedSimpArgs false
theorem leaf23 (p : Nat) : ∀ (j : Nat) (v : Value), ([.int .i64 7, .int .i64 7, .int .i64 7] : List Value)[j]? = some v → dflt 23 (p + j) v := by
  intro j v h
  refine .inl ⟨rfl, ?_⟩
  match j, h with
  | 0, h => exact ⟨7, (Option.some.inj h).symm⟩
  | 1, h => exact ⟨7, (Option.some.inj h).symm⟩
  | 2, h => exact ⟨7, (Option.some.inj h).symm⟩
theorem leaf54 (i : Nat) (a b : Int) : ∀ (j : Nat) (v : Value), ([.int .i64 a, .int .i64 b, .string ⟨#[]⟩, .slice none 0 0, .slice none 0 0] : List Value)[j]? = some v → dflt 54 (i * 5 + j) v := by
  intro j v h
  unfold dflt
  rw [pat_mod 54 5 (.inr (.inl ⟨rfl, rfl⟩))]
  match j, h with
  | 0, h => exact .inl ⟨rfl, a, (Option.some.inj h).symm⟩
  | 1, h => exact .inl ⟨rfl, b, (Option.some.inj h).symm⟩
  | 2, h => exact .inr (.inl ⟨rfl, _, (Option.some.inj h).symm⟩)
  | 3, h => exact .inr (.inr ⟨rfl, (Option.some.inj h).symm⟩)
  | 4, h => exact .inr (.inr ⟨rfl, (Option.some.inj h).symm⟩)
theorem leaf54x (a b : Int) : ∀ (j : Nat) (v : Value), ([.int .i64 a, .int .i64 b, .string ⟨#[]⟩, .slice none 0 0, .slice none 0 0] : List Value)[j]? = some v → dflt 54 j v := fun j v h => by
  have := leaf54 0 a b j v h
  rwa [Nat.zero_mul, Nat.zero_add] at this
theorem leaf1 (n : Nat) (a : Int) : ∀ (j : Nat) (v : Value), ([.int .i64 a] : List Value)[j]? = some v → dflt 54 (n * 5 + 1 + j) v := by
  intro j v h
  unfold dflt
  rw [Nat.add_assoc, pat_mod 54 5 (.inr (.inl ⟨rfl, rfl⟩))]
  match j, h with
  | 0, h => exact .inl ⟨rfl, a, (Option.some.inj h).symm⟩
theorem size23x : (Try.prog.info? 23).map (fun i => i.size) = some 3 := by kernel_rfl
theorem info54x : (Try.prog.info? 54).map (fun i => (i.zero, i.size, i.bytes)) = some (some (.agg #[.int .i64 0, .int .i64 0, .string ⟨#[]⟩, .slice none 0 0, .slice none 0 0]), 5, 80) := by kernel_rfl
theorem size3x : (Try.prog.info? 3).map (fun i => i.size) = some 1 := by kernel_rfl
set_option maxHeartbeats 8000000 in
set_option maxRecDepth 100000 in
theorem scrawl_walk (ok : Nat → Prop) (g o : Nat) (A3 A4 : Option Addr) (n3 c3 n4 c4 : Nat) (w : World) (hg : ¬ ok g) (h3 : w.cell? ⟨g, o + 3, none⟩ = some (.slice A3 n3 c3)) (h4 : w.cell? ⟨g, o + 4, none⟩ = some (.slice A4 n4 c4))
    (r3 : RowOk 23 3 ok w A3 n3 c3) (r4 : RowOk 54 5 ok w A4 n4 c4) (l3 : n3 * 24 ≤ 140737488351232) (l4 : n4 * 80 ≤ 140737488351232)
    (hk : ∀ w', Soft ok w w' → ∀ i g4, i < n4 → A4 = some ⟨g4, 0, none⟩ → Calls Try.prog 33 #[.pointer (some ⟨g4, i * 5, none⟩)] w' fun e w'' => e = .returned (.tuple #[]) ∧ Soft ok w' w'') :
    Calls Try.prog 33 #[.pointer (some ⟨g, o, none⟩)] w fun e w' => e = .returned (.tuple #[]) ∧ Soft ok w w' := by
  have hu54 := Try.underlying54
  have hu23 := Try.underlying23
  have HG := Aside0.mk (show ¬ ok (⟨g, o + 3, none⟩ : Addr).block from hg)
  have H3 := Aside0.mk h3
  have H4 := Aside0.mk h4
  have R3 := Aside0.mk r3
  have R4 := Aside0.mk r4
  have L3 := Aside0.mk l3
  have L4 := Aside0.mk l4
  have HK := Aside0.mk hk
  have HS := Aside0.mk (Soft.refl ok w)
  clear hg h3 h4 r3 r4 l3 l4 hk
  go_enter Try.func33, Try.ntmps33
  go_wp2
  go_loopg [2] n3 (fun kq v2 w' => ∃ (i_ : Int), v2 = .int .i64 i_ ∧ Aside0 (0 ≤ i_ ∧ i_ + (kq : Int) = (n3 : Int)) ∧ Aside0 (Soft ok w w'))
  case atStart => exact ⟨0, rfl, ⟨by omega, by omega⟩, HS⟩
  case round =>
    clear HS
    obtain ⟨i_, rfl, HQ, HS⟩ := hrel
    by_cases c_ : i_ < (n3 : Int)
    · have cb : decide (i_ < (n3 : Int)) = true := decide_eq_true c_
      have p_ : 0 ≤ i_ := HQ.out.1
      rcases R3.out.soft HS.out with ⟨_, z_, _⟩ | ⟨g_, cur_, rfl, hg_, hh_, hnc_, hsz_, _⟩
      · omega
      have HGG := Aside0.mk (show ok g_ ∨ w.heap.size ≤ g_ from .inl hg_)
      have HH := Aside0.mk hh_
      have HFIT := Aside0.mk (show i_.toNat * 3 + 3 ≤ cur_.size from by omega)
      have HC_ := Aside0.mk c_
      clear hg_ hh_ hnc_ hsz_
      replace p_ := eq_true p_
      replace c_ := eq_true c_
      go_wp2_with (first | ((with_reducible refine gate_dst (N := 10) rfl ?_); refine ld_event rfl rfl (by first | rfl | (go_simp; done) | (go_simp; rfl)) Try.underlying24 trivial (.slice (some ⟨g_, 0, none⟩) n3 c3) (HS.out.cell HG.out H3.out) ?_) | ((with_reducible refine gate_dst (N := 18) rfl ?_); refine ld_event rfl rfl (by first | rfl | (go_simp; done) | (go_simp; rfl)) Try.underlying24 trivial (.slice (some ⟨g_, 0, none⟩) n3 c3) (HS.out.cell HG.out H3.out) ?_) | ((with_reducible refine gate_store (t := 23) (p := 21) rfl ?_); refine st_event rfl rfl rfl (g := g_) (j := i_.toNat * 3) (by first | rfl | (go_simp; done) | (go_simp; rfl)) (u := .agg #[.int .i64 7, .int .i64 7, .int .i64 7]) (by first | rfl | (go_simp; done) | (go_simp; rfl)) HH.out 3 size23x rfl HFIT.out (by intro x hx; simp [Value.cells] at hx; rcases hx with rfl | rfl | rfl <;> rfl) _ rfl ?_; intro wv_ hbk ho; have nS_ := Aside0.mk (Soft.store HS.out ho HGG.out HH.out hbk (softA_store (cs := [.int .i64 7, .int .i64 7, .int .i64 7]) (leaf23 _) HFIT.out)); clear HS HH; have HS := nS_; clear nS_ ho hbk))
      go_roundg (gk - 1)
      case measure => have := HQ.out; have := HC_.out; omega
      case rel => exact ⟨i_ + 1, by rw [show wrap64 (i_ + 1) = i_ + 1 from by have := HQ.out; have := HC_.out; have := L3.out; unfold wrap64; omega], ⟨by have := HQ.out; have := HC_.out; omega⟩, HS⟩
    · have cb : decide (i_ < (n3 : Int)) = false := decide_eq_false c_
      clear c_ HQ
      go_wp2_with (first | ((with_reducible refine gate_dst (N := 10) rfl ?_); refine ld_event rfl rfl (by first | rfl | (go_simp; done) | (go_simp; rfl)) Try.underlying24 trivial (.slice A3 n3 c3) (HS.out.cell HG.out H3.out) ?_))
      go_loopg [3] n4 (fun kq v3 w' => ∃ (i_ : Int), v3 = .int .i64 i_ ∧ Aside0 (0 ≤ i_ ∧ i_ + (kq : Int) = (n4 : Int)) ∧ Aside0 (Soft ok w w'))
      case atStart => exact ⟨0, rfl, ⟨by omega, by omega⟩, HS⟩
      case round =>
        clear HS
        obtain ⟨i_, rfl, HQ, HS⟩ := hrel
        by_cases c_ : i_ < (n4 : Int)
        · have cb : decide (i_ < (n4 : Int)) = true := decide_eq_true c_
          have p_ : 0 ≤ i_ := HQ.out.1
          rcases R4.out.soft HS.out with ⟨_, z_, _⟩ | ⟨g_, cur_, rfl, hg_, hh_, hnc_, hsz_, _⟩
          · omega
          have HGG := Aside0.mk (show ok g_ ∨ w.heap.size ≤ g_ from .inl hg_)
          have HH := Aside0.mk hh_
          have HFIT := Aside0.mk (show i_.toNat * 5 + 5 ≤ cur_.size from by omega)
          have HC_ := Aside0.mk c_
          clear hg_ hh_ hnc_ hsz_
          replace p_ := eq_true p_
          replace c_ := eq_true c_
          go_wp2_with (first | ((with_reducible refine gate_dst (N := 26) rfl ?_); refine ld_event rfl rfl (by first | rfl | (go_simp; done) | (go_simp; rfl)) Try.underlying31 trivial (.slice (some ⟨g_, 0, none⟩) n4 c4) (HS.out.cell HG.out H4.out) ?_) | ((with_reducible refine gate_dst (N := 34) rfl ?_); refine ld_event rfl rfl (by first | rfl | (go_simp; done) | (go_simp; rfl)) Try.underlying31 trivial (.slice (some ⟨g_, 0, none⟩) n4 c4) (HS.out.cell HG.out H4.out) ?_) | (go_at_call 33; (with_reducible refine (HK.out _ HS.out i_.toNat g_ (by have := HQ.out; have := HC_.out; omega) rfl).mono ?_); rintro e wv_ ⟨rfl, hs⟩; have nS_ := Aside0.mk (HS.out.trans hs); clear HS; have HS := nS_; clear nS_ hs))
          go_roundg (gk - 1)
          case measure => have := HQ.out; have := HC_.out; omega
          case rel => exact ⟨i_ + 1, by rw [show wrap64 (i_ + 1) = i_ + 1 from by have := HQ.out; have := HC_.out; have := L4.out; unfold wrap64; omega], ⟨by have := HQ.out; have := HC_.out; omega⟩, HS⟩
        · have cb : decide (i_ < (n4 : Int)) = false := decide_eq_false c_
          clear c_ HQ
          go_wp2_with (first | ((with_reducible refine gate_dst (N := 26) rfl ?_); refine ld_event rfl rfl (by first | rfl | (go_simp; done) | (go_simp; rfl)) Try.underlying31 trivial (.slice A4 n4 c4) (HS.out.cell HG.out H4.out) ?_))
          go_loopg [4] n4 (fun kq v4 w' => ∃ (i_ : Int), v4 = .int .i64 i_ ∧ Aside0 (0 ≤ i_ ∧ i_ + (kq : Int) = (n4 : Int)) ∧ Aside0 (Soft ok w w'))
          case atStart => exact ⟨0, rfl, ⟨by omega, by omega⟩, HS⟩
          case round =>
            clear HS
            obtain ⟨i_, rfl, HQ, HS⟩ := hrel
            by_cases c_ : i_ < (n4 : Int)
            · have cb : decide (i_ < (n4 : Int)) = true := decide_eq_true c_
              have p_ : 0 ≤ i_ := HQ.out.1
              rcases R4.out.soft HS.out with ⟨_, z_, _⟩ | ⟨g_, cur_, rfl, hg_, hh_, hnc_, hsz_, _⟩
              · omega
              have HGG := Aside0.mk (show ok g_ ∨ w.heap.size ≤ g_ from .inl hg_)
              have HH := Aside0.mk hh_
              have HFIT := Aside0.mk (show i_.toNat * 5 + 5 ≤ cur_.size from by omega)
              have HC_ := Aside0.mk c_
              clear hg_ hh_ hnc_ hsz_
              replace p_ := eq_true p_
              replace c_ := eq_true c_
              go_wp2_with (first | ((with_reducible refine gate_dst (N := 42) rfl ?_); refine ld_event rfl rfl (by first | rfl | (go_simp; done) | (go_simp; rfl)) Try.underlying31 trivial (.slice (some ⟨g_, 0, none⟩) n4 c4) (HS.out.cell HG.out H4.out) ?_) | ((with_reducible refine gate_dst (N := 50) rfl ?_); refine ld_event rfl rfl (by first | rfl | (go_simp; done) | (go_simp; rfl)) Try.underlying31 trivial (.slice (some ⟨g_, 0, none⟩) n4 c4) (HS.out.cell HG.out H4.out) ?_) | ((with_reducible refine gate_store (t := 54) (p := 53) rfl ?_); refine st_event rfl rfl rfl (g := g_) (j := i_.toNat * 5) (by first | rfl | (go_simp; done) | (go_simp; rfl)) (u := .agg #[.int .i64 1, .int .i64 77, .string ⟨#[]⟩, .slice none 0 0, .slice none 0 0]) (by first | rfl | (go_simp; done) | (go_simp; rfl)) HH.out 5 size54 rfl HFIT.out (by intro x hx; simp [Value.cells] at hx; rcases hx with rfl | rfl | rfl | rfl | rfl <;> rfl) _ rfl ?_; intro wv_ hbk ho; have nS_ := Aside0.mk (Soft.store HS.out ho HGG.out HH.out hbk (softA_store (cs := [.int .i64 1, .int .i64 77, .string ⟨#[]⟩, .slice none 0 0, .slice none 0 0]) (leaf54 _ 1 77) HFIT.out)); clear HS HH; have HS := nS_; clear nS_ ho hbk))
              go_roundg (gk - 1)
              case measure => have := HQ.out; have := HC_.out; omega
              case rel => exact ⟨i_ + 1, by rw [show wrap64 (i_ + 1) = i_ + 1 from by have := HQ.out; have := HC_.out; have := L4.out; unfold wrap64; omega], ⟨by have := HQ.out; have := HC_.out; omega⟩, HS⟩
            · have cb : decide (i_ < (n4 : Int)) = false := decide_eq_false c_
              clear c_ HQ
              have hw_ : wrap64 (((n4 + 1 : Nat) : Int) - 1) = (n4 : Int) := by (have := L4.out; unfold wrap64; omega)
              have hw2_ : wrap64 (n4 : Int) = (n4 : Int) := by (have := L4.out; unfold wrap64; omega)
              go_upto_region 13 with (first | ((with_reducible refine gate_dst (N := 42) rfl ?_); refine ld_event rfl rfl (by first | rfl | (go_simp; done) | (go_simp; rfl)) Try.underlying31 trivial (.slice A4 n4 c4) (HS.out.cell HG.out H4.out) ?_) | ((with_reducible refine gate_dst (N := 57) rfl ?_); refine ld_event rfl rfl (by first | rfl | (go_simp; done) | (go_simp; rfl)) Try.underlying31 trivial (.slice A4 n4 c4) (HS.out.cell HG.out H4.out) ?_) | ((with_reducible refine gate_builtin (b := .append) (xs := #[.tmp 57, .tmp 59]) rfl ?_); at_builtin; (refine app_soft rfl (.tmp 57) (.tmp 59) 31 54 5 80 (.agg #[.int .i64 0, .int .i64 0, .string ⟨#[]⟩, .slice none 0 0, .slice none 0 0]) rfl Try.underlying31 info54x rfl (.inr (.inl ⟨rfl, rfl⟩)) (by first | rfl | (go_simp; done) | (go_simp; rfl)) (cs := [.int .i64 1, .int .i64 78, .string ⟨#[]⟩, .slice none 0 0, .slice none 0 0]) (by first | rfl | (go_simp; done) | (go_simp; rfl)) (blk_cs (heap_alloc_new _ _) (j := 0) (n := 5) _ rfl) rfl (by decide) (leaf54x 1 78) (R4.out.soft (HS.out.trans (Soft.below (by repeat (first | (with_reducible first | exact Below.refl _ _ | apply below_alloc | apply pw_below_drewN | apply below_drew1) | exact Below.refl _ _))))) (HS.out.trans (Soft.below (by repeat (first | (with_reducible first | exact Below.refl _ _ | apply below_alloc | apply pw_below_drewN | apply below_drew1) | exact Below.refl _ _)))) (by have := L4.out; omega) (by decide) ?_; intro g1_ c1_ wv_ hs hg hcur; have nS_ := Aside0.mk hs; clear HS; have HS := nS_; have HGG := Aside0.mk hg; have HCU := Aside0.mk hcur; clear nS_ hs hg hcur)))
              have p_ : (0 ≤ (n4 : Int)) = True := eq_true (by omega)
              have q_ : ((n4 : Int) < (n4 : Int) + 1) = True := eq_true (by omega)
              have q2_ : ((n4 : Int) < ((n4 + 1 : Nat) : Int)) = True := eq_true (by omega)
              obtain ⟨cur_, hh_, hfit_⟩ := HCU.out
              have HH := Aside0.mk hh_
              have HFIT := Aside0.mk (show n4 * 5 + 1 + 1 ≤ cur_.size from by omega)
              clear hh_ hfit_
              go_wp2_with (first | ((with_reducible refine gate_store (t := 3) (p := 66) rfl ?_); refine st_event rfl rfl rfl (g := g1_) (j := n4 * 5 + 1) (by first | rfl | (go_simp; done) | (go_simp; rfl)) (u := .int .i64 79) (by first | rfl | (go_simp; done) | (go_simp; rfl)) HH.out 1 size3x rfl HFIT.out (by intro x hx; simp [Value.cells] at hx; rcases hx with rfl <;> rfl) _ rfl ?_; intro wv_ hbk ho; have nS_ := Aside0.mk (Soft.store HS.out ho HGG.out HH.out hbk (softA_store (cs := [.int .i64 79]) (leaf1 _ 79) HFIT.out)); clear HS HH; have HS := nS_; clear nS_ ho hbk))
              go_end0
              exact ⟨rfl, HS.out⟩
end Go.Proofs.Ytkfbkjcdngipcaa.PTreeEquals
end
section
namespace Go.Proofs.Ytkfbkjcdngipcaa.PTreeEquals
open Go.RowKit Go.Proofs.YtkfbkjcdngipcaaW.PrintWords Go.Proofs.YtkfbkjcdngipcaaW.PrintLast Go.Proofs.YtkfbkjcdngipcaaW.PrintMore
set_option linter.unusedVariables false
theorem row_elem {α : Type} {d : Kd α} {e : Nat} {w : World} {base : Nat} {ok : Nat → Prop} {g n c : Nat} {xs : List α} (h : d.R e w base ok (.slice (some ⟨g, 0, none⟩) n c) xs) {i : Nat} (hi : i < xs.length) :
    ∃ x cs, x ∈ xs ∧ d.M w base (fun k => ok k ∧ k ≠ g) x cs ∧ CSat w ⟨g, i * d.sz, none⟩ cs := by
  obtain ⟨h0, inner, hown, hr⟩ := h
  rcases hown.2 with ⟨h1, _⟩ | ⟨g', cap, cur, h1, hb, hh, hnc, hcm, hcs, ht⟩
  · cases h1
  · injection h1 with e1 e2 e3
    injection e1 with e1
    injection e1 with e1
    subst e1
    refine ⟨xs[i], _, List.getElem_mem _, d.M_mono (fun k hk => ⟨hk.1, fun e => hk.2 (by rw [e]; rfl)⟩) (hr.2 i _ (List.getElem?_eq_getElem hi)), ?_⟩
    refine blk_cs hh (n := d.sz) _ ?_
    · rw [← ht]
      apply List.ext_getElem?
      intro j
      have hm : (i + 1) * d.sz ≤ xs.length * d.sz := Nat.mul_le_mul_right _ hi
      rw [Nat.succ_mul] at hm
      rw [List.getElem?_take, List.getElem?_take]
      by_cases hj : j < d.sz
      · rw [if_pos hj, if_pos hj, List.getElem?_drop, List.getElem?_drop, List.getElem?_take, if_pos (by omega)]
      · rw [if_neg hj, if_neg hj]
theorem scrawlExpr_n : ∀ (n base : Nat) (ok : Nat → Prop) (x : S54) (cs : List Value) (w : World) (g o : Nat), CSat w ⟨g, o, none⟩ cs → ¬ ok g → (Kd.upto F54 5 [23, 54] n).M w base ok x cs → x.wf →
    Calls Try.prog 33 #[.pointer (some ⟨g, o, none⟩)] w fun e w' => e = .returned (.tuple #[]) ∧ Soft ok w w'
  | 0, _, _, _, _, _, _, _, _, _, hm, _ => hm.elim
  | n + 1, base, ok, x, cs, w, g, o, hc, hg, hm, hw => by
    obtain ⟨_, _, rfl, rfl, _, _, rfl, rfl, _, _, rfl, rfl, _, _, rfl, ⟨v3, rfl, hr3⟩, ⟨v4, rfl, hr4⟩⟩ := hm
    obtain ⟨A3, c3, rfl, r3⟩ := rowOk_of hr3
    obtain ⟨A4, c4, rfl, r4⟩ := rowOk_of hr4
    rw [sz54 n] at r4
    obtain ⟨w3, w4, ws⟩ := (S54.wf_eq x).1 hw
    rw [S54.wfs_iff] at ws
    refine scrawl_walk ok g o A3 A4 x.f3.length c3 x.f4.length c4 w hg (hc 3 _ rfl) (hc 4 _ rfl) r3 r4 w3 w4 (fun w' hs i g4 hi hA => ?_)
    subst hA
    obtain ⟨ys, hyl, hyw, hy⟩ := soft_row (.inr (.inl ⟨rfl, sz54 n⟩)) (fun okk x cs cs' hm hux hsl => sk54n n ok w w' hs _ okk x cs cs' hm hux hsl.1 (fun c v hv => hsl.2 c v hv)) hs hr4 ws
    obtain ⟨y, cy, hmem, hMy, hcy⟩ := row_elem hy (i := i) (by rw [hyl]; exact hi)
    rw [sz54 n] at hcy
    refine (scrawlExpr_n n _ _ y cy w' g4 (i * 5) hcy (fun hk => hk.2 rfl) hMy (hyw y hmem)).mono ?_
    rintro e w'' ⟨rfl, hs2⟩
    exact ⟨rfl, hs2.mono (fun k _ hk => hk.1)⟩
theorem scrawlExpr.calls (base : Nat) (ok : Nat → Prop) (x : S54) (cs : List Value) (w : World) (g o : Nat) (hc : CSat w ⟨g, o, none⟩ cs) (hg : ¬ ok g) (hm : k54.M w base ok x cs) (hw : x.wf) :
    Calls Try.prog 33 #[.pointer (some ⟨g, o, none⟩)] w fun e w' => e = .returned (.tuple #[]) ∧ Soft ok w w' := by
  obtain ⟨n, hm⟩ := hm
  exact scrawlExpr_n n base ok x cs w g o hc hg hm hw
end Go.Proofs.Ytkfbkjcdngipcaa.PTreeEquals
end
section
namespace Go.Proofs.Ytkfbkjcdngipcaa.PTreeEquals
open Go.RowKit Go.Proofs.YtkfbkjcdngipcaaW.PrintWords Go.Proofs.YtkfbkjcdngipcaaW.PrintLast Go.Proofs.YtkfbkjcdngipcaaW.PrintMore
set_option linter.unusedVariables false
set_option linter.unusedSimpArgs false
theorem RowOk.at_ {t sz : Nat} {ok : Nat → Prop} {w : World} {g n c : Nat} (h : RowOk t sz ok w (some ⟨g, 0, none⟩) n c) : ∃ cur, ok g ∧ w.heap[g]? = some (.cells cur t (0, 0)) ∧ n ≤ c ∧ cur.size = c * sz := by
  rcases h with ⟨h, _⟩ | ⟨g', cur, e, h1, h2, h3, h4, _⟩
  · cases h
  · injection e with e
    injection e with e
    subst e
    exact ⟨cur, h1, h2, h3, h4⟩
theorem soft_cur {ok : Nat → Prop} {W W' : World} {g t m : Nat} (h : ∃ cur, W.heap[g]? = some (.cells cur t (0, 0)) ∧ m ≤ cur.size) (hs : Soft ok W W') : ∃ cur, W'.heap[g]? = some (.cells cur t (0, 0)) ∧ m ≤ cur.size := by
  obtain ⟨cur, h1, h2⟩ := h
  rcases hs.soft g (blk_lt h1) with q | ⟨t2, c1, c2, q1, q2, q3⟩
  · exact ⟨cur, q.trans h1, h2⟩
  · rw [h1] at q1
    injection q1 with q1
    injection q1 with e1 e2 e3
    subst e1 e2
    exact ⟨c2, q2, by rw [q3.1]; exact h2⟩
theorem leaf34 (i : Nat) (a : Int) : ∀ (j : Nat) (v : Value), ([.int .i64 a, .string ⟨#[]⟩, .string ⟨#[]⟩, .string ⟨#[]⟩, .int .i64 0, .int .i64 0, .int .i64 0, .int .i64 0, .int .i64 0, .int .i64 0, .int .i64 0, .int .i64 0, .int .i64 0, .int .i64 0, .int .i64 0, .int .i64 0, .int .i64 0, .int .i64 0, .int .i64 0, .int .i64 0, .int .i64 0, .slice none 0 0, .slice none 0 0] : List Value)[j]? = some v → dflt 34 (i * 23 + j) v := by
  intro j v h
  unfold dflt
  rw [pat_mod 34 23 (.inr (.inr ⟨rfl, rfl⟩))]
  match j, h with
  | 0, h => exact .inl ⟨rfl, a, (Option.some.inj h).symm⟩
  | 1, h => exact .inr (.inl ⟨rfl, _, (Option.some.inj h).symm⟩)
  | 2, h => exact .inr (.inl ⟨rfl, _, (Option.some.inj h).symm⟩)
  | 3, h => exact .inr (.inl ⟨rfl, _, (Option.some.inj h).symm⟩)
  | 4, h => exact .inl ⟨rfl, _, (Option.some.inj h).symm⟩
  | 5, h => exact .inl ⟨rfl, _, (Option.some.inj h).symm⟩
  | 6, h => exact .inl ⟨rfl, _, (Option.some.inj h).symm⟩
  | 7, h => exact .inl ⟨rfl, _, (Option.some.inj h).symm⟩
  | 8, h => exact .inl ⟨rfl, _, (Option.some.inj h).symm⟩
  | 9, h => exact .inl ⟨rfl, _, (Option.some.inj h).symm⟩
  | 10, h => exact .inl ⟨rfl, _, (Option.some.inj h).symm⟩
  | 11, h => exact .inl ⟨rfl, _, (Option.some.inj h).symm⟩
  | 12, h => exact .inl ⟨rfl, _, (Option.some.inj h).symm⟩
  | 13, h => exact .inl ⟨rfl, _, (Option.some.inj h).symm⟩
  | 14, h => exact .inl ⟨rfl, _, (Option.some.inj h).symm⟩
  | 15, h => exact .inl ⟨rfl, _, (Option.some.inj h).symm⟩
  | 16, h => exact .inl ⟨rfl, _, (Option.some.inj h).symm⟩
  | 17, h => exact .inl ⟨rfl, _, (Option.some.inj h).symm⟩
  | 18, h => exact .inl ⟨rfl, _, (Option.some.inj h).symm⟩
  | 19, h => exact .inl ⟨rfl, _, (Option.some.inj h).symm⟩
  | 20, h => exact .inl ⟨rfl, _, (Option.some.inj h).symm⟩
  | 21, h => exact .inr (.inr ⟨rfl, (Option.some.inj h).symm⟩)
  | 22, h => exact .inr (.inr ⟨rfl, (Option.some.inj h).symm⟩)
theorem leaf34x (a : Int) : ∀ (j : Nat) (v : Value), ([.int .i64 a, .string ⟨#[]⟩, .string ⟨#[]⟩, .string ⟨#[]⟩, .int .i64 0, .int .i64 0, .int .i64 0, .int .i64 0, .int .i64 0, .int .i64 0, .int .i64 0, .int .i64 0, .int .i64 0, .int .i64 0, .int .i64 0, .int .i64 0, .int .i64 0, .int .i64 0, .int .i64 0, .int .i64 0, .int .i64 0, .slice none 0 0, .slice none 0 0] : List Value)[j]? = some v → dflt 34 j v := fun j v h => by
  have := leaf34 0 a j v h
  rwa [Nat.zero_mul, Nat.zero_add] at this
theorem leaf54c (n : Nat) (a : Int) : ∀ (j : Nat) (v : Value), ([.int .i64 a] : List Value)[j]? = some v → dflt 54 (n * 5 + j) v := by
  intro j v h
  unfold dflt
  rw [pat_mod 54 5 (.inr (.inl ⟨rfl, rfl⟩))]
  match j, h with
  | 0, h => exact .inl ⟨rfl, a, (Option.some.inj h).symm⟩
theorem leaf34c (n : Nat) (a : Int) : ∀ (j : Nat) (v : Value), ([.int .i64 a] : List Value)[j]? = some v → dflt 34 (n * 23 + j) v := by
  intro j v h
  unfold dflt
  rw [pat_mod 34 23 (.inr (.inr ⟨rfl, rfl⟩))]
  match j, h with
  | 0, h => exact .inl ⟨rfl, a, (Option.some.inj h).symm⟩
theorem info34x : (Try.prog.info? 34).map (fun i => (i.zero, i.size, i.bytes)) = some (some (.agg #[.int .i64 0, .string ⟨#[]⟩, .string ⟨#[]⟩, .string ⟨#[]⟩, .int .i64 0, .int .i64 0, .int .i64 0, .int .i64 0, .int .i64 0, .int .i64 0, .int .i64 0, .int .i64 0, .int .i64 0, .int .i64 0, .int .i64 0, .int .i64 0, .int .i64 0, .int .i64 0, .int .i64 0, .int .i64 0, .int .i64 0, .slice none 0 0, .slice none 0 0]), 23, 240) := by kernel_rfl
set_option maxHeartbeats 16000000 in
set_option maxRecDepth 100000 in
theorem scrawlCon_walk (ok : Nat → Prop) (g o : Nat) (A7 A8 : Option Addr) (n7 c7 n8 c8 : Nat) (w : World) (hg : ¬ ok g) (h7 : w.cell? ⟨g, o + 21, none⟩ = some (.slice A7 n7 c7)) (h8 : w.cell? ⟨g, o + 22, none⟩ = some (.slice A8 n8 c8))
    (r7 : RowOk 54 5 ok w A7 n7 c7) (r8 : RowOk 34 23 ok w A8 n8 c8) (l7 : n7 * 80 ≤ 140737488351232) (l8 : n8 * 240 ≤ 140737488351232)
    (hk7 : ∀ w', Soft ok w w' → ∀ i g4, i < n7 → A7 = some ⟨g4, 0, none⟩ → Calls Try.prog 33 #[.pointer (some ⟨g4, i * 5, none⟩)] w' fun e w'' => e = .returned (.tuple #[]) ∧ Soft ok w' w'')
    (hk8 : ∀ w', Soft ok w w' → ∀ i g4, i < n8 → A8 = some ⟨g4, 0, none⟩ → Calls Try.prog 12 #[.pointer (some ⟨g4, i * 23, none⟩)] w' fun e w'' => e = .returned (.tuple #[]) ∧ Soft ok w' w'') :
    Calls Try.prog 12 #[.pointer (some ⟨g, o, none⟩)] w fun e w' => e = .returned (.tuple #[]) ∧ Soft ok w w' := by
  have hu54 := Try.underlying54
  have hu34 := Try.underlying34
  have HG := Aside0.mk (show ¬ ok (⟨g, o + 3, none⟩ : Addr).block from hg)
  have H7 := Aside0.mk h7
  have H8 := Aside0.mk h8
  have R7 := Aside0.mk r7
  have R8 := Aside0.mk r8
  have L7 := Aside0.mk l7
  have L8 := Aside0.mk l8
  have HK7 := Aside0.mk hk7
  have HK8 := Aside0.mk hk8
  have HS := Aside0.mk (Soft.refl ok w)
  clear hg h7 h8 r7 r8 l7 l8 hk7 hk8
  go_enter Try.func12, Try.ntmps12
  go_wp2
  go_loopg [2] n7 (fun kq v2 w' => ∃ (i_ : Int), v2 = .int .i64 i_ ∧ Aside0 (0 ≤ i_ ∧ i_ + (kq : Int) = (n7 : Int)) ∧ Aside0 (Soft ok w w'))
  case atStart => exact ⟨0, rfl, ⟨by omega, by omega⟩, HS⟩
  case round =>
    clear HS
    obtain ⟨i_, rfl, HQ, HS⟩ := hrel
    by_cases c_ : i_ < (n7 : Int)
    · have cb : decide (i_ < (n7 : Int)) = true := decide_eq_true c_
      have p_ : 0 ≤ i_ := HQ.out.1
      rcases R7.out.soft HS.out with ⟨_, z_, _⟩ | ⟨g_, cur_, rfl, hg_, hh_, hnc_, hsz_, _⟩
      · omega
      have HGG := Aside0.mk (show ok g_ ∨ w.heap.size ≤ g_ from .inl hg_)
      have HH := Aside0.mk hh_
      have HFIT := Aside0.mk (show i_.toNat * 5 + 5 ≤ cur_.size from by omega)
      have HC_ := Aside0.mk c_
      clear hg_ hh_ hnc_ hsz_
      replace p_ := eq_true p_
      replace c_ := eq_true c_
      go_wp2_with (first | ((with_reducible refine gate_dst (N := 10) rfl ?_); refine ld_event rfl rfl (by first | rfl | (go_simp; done) | (go_simp; rfl)) Try.underlying31 trivial (.slice (some ⟨g_, 0, none⟩) n7 c7) (HS.out.cell HG.out H7.out) ?_) | ((with_reducible refine gate_dst (N := 18) rfl ?_); refine ld_event rfl rfl (by first | rfl | (go_simp; done) | (go_simp; rfl)) Try.underlying31 trivial (.slice (some ⟨g_, 0, none⟩) n7 c7) (HS.out.cell HG.out H7.out) ?_) | (go_at_call 33; (with_reducible refine (HK7.out _ HS.out i_.toNat g_ (by have := HQ.out; have := HC_.out; omega) rfl).mono ?_); rintro e wv_ ⟨rfl, hs⟩; have nS_ := Aside0.mk (HS.out.trans hs); clear HS; have HS := nS_; clear nS_ hs; clear HH HFIT; obtain ⟨cur2_, hg_, hh_, hnc_, hsz_⟩ := (R7.out.soft HS.out).at_; have HH := Aside0.mk hh_; have HFIT := Aside0.mk (show i_.toNat * 5 + 5 ≤ cur2_.size from by have := HC_.out; have := HQ.out; omega); clear hg_ hh_ hnc_ hsz_) | ((with_reducible refine gate_dst (N := 25) rfl ?_); refine ld_event rfl rfl (by first | rfl | (go_simp; done) | (go_simp; rfl)) Try.underlying31 trivial (.slice (some ⟨g_, 0, none⟩) n7 c7) (HS.out.cell HG.out H7.out) ?_) | ((with_reducible refine gate_store (t := 54) (p := 28) rfl ?_); refine st_event rfl rfl rfl (g := g_) (j := i_.toNat * 5) (by first | rfl | (go_simp; done) | (go_simp; rfl)) (u := .agg #[.int .i64 6, .int .i64 0, .string ⟨#[]⟩, .slice none 0 0, .slice none 0 0]) (by first | rfl | (go_simp; done) | (go_simp; rfl)) HH.out 5 size54 rfl HFIT.out (by decide) _ rfl ?_; intro wv_ hbk ho; have nS_ := Aside0.mk (Soft.store HS.out ho HGG.out HH.out hbk (softA_store (cs := [.int .i64 6, .int .i64 0, .string ⟨#[]⟩, .slice none 0 0, .slice none 0 0]) (leaf54 _ 6 0) HFIT.out)); clear HS HH; have HS := nS_; clear nS_ ho hbk))
      go_roundg (gk - 1)
      case measure => have := HQ.out; have := HC_.out; omega
      case rel => exact ⟨i_ + 1, by rw [show wrap64 (i_ + 1) = i_ + 1 from by have := HQ.out; have := HC_.out; have := L7.out; unfold wrap64; omega], ⟨by have := HQ.out; have := HC_.out; omega⟩, HS⟩
    · have cb : decide (i_ < (n7 : Int)) = false := decide_eq_false c_
      clear c_ HQ
      go_wp2_with (first | ((with_reducible refine gate_dst (N := 10) rfl ?_); refine ld_event rfl rfl (by first | rfl | (go_simp; done) | (go_simp; rfl)) Try.underlying31 trivial (.slice A7 n7 c7) (HS.out.cell HG.out H7.out) ?_))
      go_loopg [3] n8 (fun kq v3 w' => ∃ (i_ : Int), v3 = .int .i64 i_ ∧ Aside0 (0 ≤ i_ ∧ i_ + (kq : Int) = (n8 : Int)) ∧ Aside0 (Soft ok w w'))
      case atStart => exact ⟨0, rfl, ⟨by omega, by omega⟩, HS⟩
      case round =>
        clear HS
        obtain ⟨i_, rfl, HQ, HS⟩ := hrel
        by_cases c_ : i_ < (n8 : Int)
        · have cb : decide (i_ < (n8 : Int)) = true := decide_eq_true c_
          have p_ : 0 ≤ i_ := HQ.out.1
          rcases R8.out.soft HS.out with ⟨_, z_, _⟩ | ⟨g_, cur_, rfl, hg_, hh_, hnc_, hsz_, _⟩
          · omega
          have HGG := Aside0.mk (show ok g_ ∨ w.heap.size ≤ g_ from .inl hg_)
          have HH := Aside0.mk hh_
          have HFIT := Aside0.mk (show i_.toNat * 23 + 23 ≤ cur_.size from by omega)
          have HC_ := Aside0.mk c_
          clear hg_ hh_ hnc_ hsz_
          replace p_ := eq_true p_
          replace c_ := eq_true c_
          go_wp2_with (first | ((with_reducible refine gate_dst (N := 33) rfl ?_); refine ld_event rfl rfl (by first | rfl | (go_simp; done) | (go_simp; rfl)) Try.underlying32 trivial (.slice (some ⟨g_, 0, none⟩) n8 c8) (HS.out.cell HG.out H8.out) ?_) | ((with_reducible refine gate_dst (N := 41) rfl ?_); refine ld_event rfl rfl (by first | rfl | (go_simp; done) | (go_simp; rfl)) Try.underlying32 trivial (.slice (some ⟨g_, 0, none⟩) n8 c8) (HS.out.cell HG.out H8.out) ?_) | (go_at_call 12; (with_reducible refine (HK8.out _ HS.out i_.toNat g_ (by have := HQ.out; have := HC_.out; omega) rfl).mono ?_); rintro e wv_ ⟨rfl, hs⟩; have nS_ := Aside0.mk (HS.out.trans hs); clear HS; have HS := nS_; clear nS_ hs; clear HH HFIT; obtain ⟨cur2_, hg_, hh_, hnc_, hsz_⟩ := (R8.out.soft HS.out).at_; have HH := Aside0.mk hh_; have HFIT := Aside0.mk (show i_.toNat * 23 + 23 ≤ cur2_.size from by have := HC_.out; have := HQ.out; omega); clear hg_ hh_ hnc_ hsz_) | ((with_reducible refine gate_dst (N := 48) rfl ?_); refine ld_event rfl rfl (by first | rfl | (go_simp; done) | (go_simp; rfl)) Try.underlying32 trivial (.slice (some ⟨g_, 0, none⟩) n8 c8) (HS.out.cell HG.out H8.out) ?_) | ((with_reducible refine gate_store (t := 34) (p := 51) rfl ?_); refine st_event rfl rfl rfl (g := g_) (j := i_.toNat * 23) (by first | rfl | (go_simp; done) | (go_simp; rfl)) (u := .agg #[.int .i64 1, .string ⟨#[]⟩, .string ⟨#[]⟩, .string ⟨#[]⟩, .int .i64 0, .int .i64 0, .int .i64 0, .int .i64 0, .int .i64 0, .int .i64 0, .int .i64 0, .int .i64 0, .int .i64 0, .int .i64 0, .int .i64 0, .int .i64 0, .int .i64 0, .int .i64 0, .int .i64 0, .int .i64 0, .int .i64 0, .slice none 0 0, .slice none 0 0]) (by first | rfl | (go_simp; done) | (go_simp; rfl)) HH.out 23 size34 rfl HFIT.out (by decide) _ rfl ?_; intro wv_ hbk ho; have nS_ := Aside0.mk (Soft.store HS.out ho HGG.out HH.out hbk (softA_store (cs := [.int .i64 1, .string ⟨#[]⟩, .string ⟨#[]⟩, .string ⟨#[]⟩, .int .i64 0, .int .i64 0, .int .i64 0, .int .i64 0, .int .i64 0, .int .i64 0, .int .i64 0, .int .i64 0, .int .i64 0, .int .i64 0, .int .i64 0, .int .i64 0, .int .i64 0, .int .i64 0, .int .i64 0, .int .i64 0, .int .i64 0, .slice none 0 0, .slice none 0 0]) (leaf34 _ 1) HFIT.out)); clear HS HH; have HS := nS_; clear nS_ ho hbk))
          go_roundg (gk - 1)
          case measure => have := HQ.out; have := HC_.out; omega
          case rel => exact ⟨i_ + 1, by rw [show wrap64 (i_ + 1) = i_ + 1 from by have := HQ.out; have := HC_.out; have := L8.out; unfold wrap64; omega], ⟨by have := HQ.out; have := HC_.out; omega⟩, HS⟩
        · have cb : decide (i_ < (n8 : Int)) = false := decide_eq_false c_
          clear c_ HQ
          go_upto_region 12 with (first | ((with_reducible refine gate_dst (N := 33) rfl ?_); refine ld_event rfl rfl (by first | rfl | (go_simp; done) | (go_simp; rfl)) Try.underlying32 trivial (.slice A8 n8 c8) (HS.out.cell HG.out H8.out) ?_) | ((with_reducible refine gate_dst (N := 55) rfl ?_); refine ld_event rfl rfl (by first | rfl | (go_simp; done) | (go_simp; rfl)) Try.underlying31 trivial (.slice A7 n7 c7) (HS.out.cell HG.out H7.out) ?_) | ((with_reducible refine gate_dst (N := 62) rfl ?_); refine ld_event rfl rfl (by first | rfl | (go_simp; done) | (go_simp; rfl)) Try.underlying32 trivial (.slice A8 n8 c8) (HS.out.cell HG.out H8.out) ?_) | ((with_reducible refine gate_builtin (b := .append) (xs := #[.tmp 55, .tmp 57]) rfl ?_); at_builtin; (refine app_soft (u := w) rfl (.tmp 55) (.tmp 57) 31 54 5 80 (.agg #[.int .i64 0, .int .i64 0, .string ⟨#[]⟩, .slice none 0 0, .slice none 0 0]) rfl Try.underlying31 info54x rfl (.inr (.inl ⟨rfl, rfl⟩)) (by first | rfl | (go_simp; done) | (go_simp; rfl)) (cs := [.int .i64 2, .int .i64 0, .string ⟨#[]⟩, .slice none 0 0, .slice none 0 0]) (by first | rfl | (go_simp; done) | (go_simp; rfl)) (blk_cs (heap_alloc_new _ _) (j := 0) (n := 5) _ rfl) rfl (by decide) (leaf54x 2 0) (R7.out.soft (HS.out.trans (Soft.below (by repeat (first | (with_reducible first | exact Below.refl _ _ | apply below_alloc | apply pw_below_drewN | apply below_drew1) | exact Below.refl _ _))))) (HS.out.trans (Soft.below (by repeat (first | (with_reducible first | exact Below.refl _ _ | apply below_alloc | apply pw_below_drewN | apply below_drew1) | exact Below.refl _ _)))) (by have := L7.out; omega) (by decide) ?_; intro g1_ c1_ wA_ hs hg hcur; have nS_ := Aside0.mk hs; clear HS; have HS := nS_; have HG1 := Aside0.mk hg; have HU1 := Aside0.mk hcur; clear nS_ hs hg hcur)) | ((with_reducible refine gate_builtin (b := .append) (xs := #[.tmp 62, .tmp 64]) rfl ?_); at_builtin; (refine app_soft (u := wA_) rfl (.tmp 62) (.tmp 64) 32 34 23 240 (.agg #[.int .i64 0, .string ⟨#[]⟩, .string ⟨#[]⟩, .string ⟨#[]⟩, .int .i64 0, .int .i64 0, .int .i64 0, .int .i64 0, .int .i64 0, .int .i64 0, .int .i64 0, .int .i64 0, .int .i64 0, .int .i64 0, .int .i64 0, .int .i64 0, .int .i64 0, .int .i64 0, .int .i64 0, .int .i64 0, .int .i64 0, .slice none 0 0, .slice none 0 0]) rfl Try.underlying32 info34x rfl (.inr (.inr ⟨rfl, rfl⟩)) (by first | rfl | (go_simp; done) | (go_simp; rfl)) (cs := [.int .i64 3, .string ⟨#[]⟩, .string ⟨#[]⟩, .string ⟨#[]⟩, .int .i64 0, .int .i64 0, .int .i64 0, .int .i64 0, .int .i64 0, .int .i64 0, .int .i64 0, .int .i64 0, .int .i64 0, .int .i64 0, .int .i64 0, .int .i64 0, .int .i64 0, .int .i64 0, .int .i64 0, .int .i64 0, .int .i64 0, .slice none 0 0, .slice none 0 0]) (by first | rfl | (go_simp; done) | (go_simp; rfl)) (blk_cs (heap_alloc_new _ _) (j := 0) (n := 23) _ rfl) rfl (by decide) (leaf34x 3) (R8.out.soft (HS.out.trans (Soft.below (by repeat (first | (with_reducible first | exact Below.refl _ _ | apply below_alloc | apply pw_below_drewN | apply below_drew1) | exact Below.refl _ _))))) ( (Soft.below (by repeat (first | (with_reducible first | exact Below.refl _ _ | apply below_alloc | apply pw_below_drewN | apply below_drew1) | exact Below.refl _ _)))) (by have := L8.out; omega) (by decide) ?_; intro g2_ c2_ wB_ hs hg hcur; have HG2 := Aside0.mk (Or.imp id (fun q => Nat.le_trans HS.out.size q) hg); have nS_ := Aside0.mk (HS.out.trans hs); have HU2 := Aside0.mk hcur; have nU_ := Aside0.mk (soft_cur HU1.out hs); clear HS HU1; have HS := nS_; have HU1 := nU_; clear nS_ nU_ hs hg hcur)))
          obtain ⟨cu1_, hh1_, hf1_⟩ := HU1.out
          obtain ⟨cu2_, hh2_, hf2_⟩ := HU2.out
          have HNE := Aside0.mk (show g2_ ≠ g1_ from fun e => by rw [e, hh1_] at hh2_; injection hh2_ with q; injection q with _ q; cases q)
          have HH1 := Aside0.mk hh1_
          have HH2 := Aside0.mk hh2_
          have HF1 := Aside0.mk (show n7 * 5 + 1 ≤ cu1_.size from by omega)
          have HF2 := Aside0.mk (show n8 * 23 + 1 ≤ cu2_.size from by omega)
          clear hh1_ hh2_ hf1_ hf2_ HU1 HU2
          have hw7_ : wrap64 (((n7 + 1 : Nat) : Int) - 1) = (n7 : Int) := by (have := L7.out; unfold wrap64; omega)
          have hv7_ : wrap64 (n7 : Int) = (n7 : Int) := by (have := L7.out; unfold wrap64; omega)
          have p7_ : (0 ≤ (n7 : Int)) = True := eq_true (by omega)
          have q7_ : ((n7 : Int) < (n7 : Int) + 1) = True := eq_true (by omega)
          have r7_ : ((n7 : Int) < ((n7 + 1 : Nat) : Int)) = True := eq_true (by omega)
          have hw8_ : wrap64 (((n8 + 1 : Nat) : Int) - 1) = (n8 : Int) := by (have := L8.out; unfold wrap64; omega)
          have hv8_ : wrap64 (n8 : Int) = (n8 : Int) := by (have := L8.out; unfold wrap64; omega)
          have p8_ : (0 ≤ (n8 : Int)) = True := eq_true (by omega)
          have q8_ : ((n8 : Int) < (n8 : Int) + 1) = True := eq_true (by omega)
          have r8_ : ((n8 : Int) < ((n8 + 1 : Nat) : Int)) = True := eq_true (by omega)
          go_wp2_with (first | ((with_reducible refine gate_store (t := 3) (p := 71) rfl ?_); refine st_event rfl rfl rfl (g := g1_) (j := n7 * 5) (by first | rfl | (go_simp; done) | (go_simp; rfl)) (u := .int .i64 3) (by first | rfl | (go_simp; done) | (go_simp; rfl)) HH1.out 1 size3x rfl HF1.out (by decide) _ rfl ?_; intro wC_ hbk ho; have nS_ := Aside0.mk (Soft.store HS.out ho HG1.out HH1.out hbk (softA_store (cs := [.int .i64 3]) (leaf54c _ 3) HF1.out)); have nH_ := Aside0.mk ((ho.block g2_ HNE.out).trans HH2.out); clear HH2; have HH2 := nH_; clear nH_; clear HS HH1; have HS := nS_; clear nS_ ho hbk) | ((with_reducible refine gate_store (t := 3) (p := 77) rfl ?_); refine st_event rfl rfl rfl (g := g2_) (j := n8 * 23) (by first | rfl | (go_simp; done) | (go_simp; rfl)) (u := .int .i64 1) (by first | rfl | (go_simp; done) | (go_simp; rfl)) HH2.out 1 size3x rfl HF2.out (by decide) _ rfl ?_; intro wD_ hbk ho; have nS_ := Aside0.mk (Soft.store HS.out ho HG2.out HH2.out hbk (softA_store (cs := [.int .i64 1]) (leaf34c _ 1) HF2.out)); clear HS HH2; have HS := nS_; clear nS_ ho hbk))
          go_end0
          exact ⟨rfl, HS.out⟩
end Go.Proofs.Ytkfbkjcdngipcaa.PTreeEquals
end
section
namespace Go.Proofs.Ytkfbkjcdngipcaa.PTreeEquals
open Go.RowKit Go.Proofs.YtkfbkjcdngipcaaW.PrintWords Go.Proofs.YtkfbkjcdngipcaaW.PrintLast Go.Proofs.YtkfbkjcdngipcaaW.PrintMore
set_option linter.unusedVariables false
theorem scrawlCon_n : ∀ (n base : Nat) (ok : Nat → Prop) (x : S34) (cs : List Value) (w : World) (g o : Nat), CSat w ⟨g, o, none⟩ cs → ¬ ok g → (Kd.upto F34 23 [23, 34, 54] n).M w base ok x cs → x.wf →
    Calls Try.prog 12 #[.pointer (some ⟨g, o, none⟩)] w fun e w' => e = .returned (.tuple #[]) ∧ Soft ok w w'
  | 0, _, _, _, _, _, _, _, _, _, hm, _ => hm.elim
  | n + 1, base, ok, x, cs, w, g, o, hc, hg, hm, hw => by
    obtain ⟨_, _, rfl, rfl, _, _, rfl, rfl, _, _, rfl, rfl, _, _, rfl, rfl, _, _, rfl, rfl, c5, _, rfl, h5, c6, _, rfl, h6, _, _, rfl, ⟨v7, rfl, hr7⟩, ⟨v8, rfl, hr8⟩⟩ := hm
    have l5 : c5.length = 3 := k23.K_len (k23.K_of_M h5)
    have l6 : c6.length = 13 := k30.K_len (k30.K_of_M h6)
    obtain ⟨A7, c7, rfl, r7⟩ := rowOk_of hr7
    obtain ⟨A8, c8, rfl, r8⟩ := rowOk_of hr8
    rw [sz34 n] at r8
    obtain ⟨w7, ws7, w8, ws8⟩ := (S34.wf_eq x).1 hw
    rw [S54.wfs_iff] at ws7
    rw [S34.wfs_iff] at ws8
    refine scrawlCon_walk ok g o A7 A8 x.f7.length c7 x.f8.length c8 w hg (hc 21 _ ?_) (hc 22 _ ?_) r7 r8 w7 w8 (fun w' hs i g4 hi hA => ?_) (fun w' hs i g4 hi hA => ?_)
    · simp [l5, l6]
    · simp [l5, l6]
    · subst hA
      obtain ⟨ys, hyl, hyw, hy⟩ := soft_row (.inr (.inl ⟨rfl, rfl⟩)) (fun okk x cs cs' hm hux hsl => sk54 ok w w' hs _ okk x cs cs' hm hux hsl.1 (fun c v hv => hsl.2 c v hv)) hs hr7 ws7
      obtain ⟨y, cy, hmem, hMy, hcy⟩ := row_elem hy (i := i) (by rw [hyl]; exact hi)
      refine (scrawlExpr.calls _ _ y cy w' g4 (i * 5) hcy (fun hk => hk.2 rfl) hMy (hyw y hmem)).mono ?_
      rintro e w'' ⟨rfl, hs2⟩
      exact ⟨rfl, hs2.mono (fun k _ hk => hk.1)⟩
    · subst hA
      obtain ⟨ys, hyl, hyw, hy⟩ := soft_row (.inr (.inr ⟨rfl, sz34 n⟩)) (fun okk x cs cs' hm hux hsl => sk34n n ok w w' hs _ okk x cs cs' hm hux hsl.1 (fun c v hv => hsl.2 c v hv)) hs hr8 ws8
      obtain ⟨y, cy, hmem, hMy, hcy⟩ := row_elem hy (i := i) (by rw [hyl]; exact hi)
      rw [sz34 n] at hcy
      refine (scrawlCon_n n _ _ y cy w' g4 (i * 23) hcy (fun hk => hk.2 rfl) hMy (hyw y hmem)).mono ?_
      rintro e w'' ⟨rfl, hs2⟩
      exact ⟨rfl, hs2.mono (fun k _ hk => hk.1)⟩
theorem scrawlCon.calls (base : Nat) (ok : Nat → Prop) (x : S34) (cs : List Value) (w : World) (g o : Nat) (hc : CSat w ⟨g, o, none⟩ cs) (hg : ¬ ok g) (hm : k34.M w base ok x cs) (hw : x.wf) :
    Calls Try.prog 12 #[.pointer (some ⟨g, o, none⟩)] w fun e w' => e = .returned (.tuple #[]) ∧ Soft ok w w' := by
  obtain ⟨n, hm⟩ := hm
  exact scrawlCon_n n base ok x cs w g o hc hg hm hw
end Go.Proofs.Ytkfbkjcdngipcaa.PTreeEquals
end
