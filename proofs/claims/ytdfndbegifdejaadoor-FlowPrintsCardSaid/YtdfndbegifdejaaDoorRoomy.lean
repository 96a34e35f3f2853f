/- The helpers of the flow laws: roomy gives a copy with three marks behind; its contract. -/
import Derived.Test.YtdfndbegifdejaaDoorMine
namespace Go.Proofs.YtdfndbegifdejaaDoor.GD
set_option linter.unusedVariables false
set_option linter.unusedSimpArgs false
open Go.RowKit Go.Proofs.YtdfndbegifdejaaDoorW.PrintWords Go.Proofs.YtdfndbegifdejaaDoorW.PrintLast Go.Proofs.YtdfndbegifdejaaDoorW.PrintMore Go.Proofs.YtdfndbegifdejaaDoorMine
attribute [local go_sem] max2_int min2_int max_two min_two max_three min_three max_four min_four

def markS : ByteArray := ⟨#[109, 97, 114, 107]⟩
def mark (i : Int) : S32 := ⟨-77, markS, i⟩
def marks (n : Nat) : List S32 := [mark n, mark (n + 1 : Nat), mark (n + 2 : Nat)]
def roomAt (l : List S32) (j : Nat) : List S32 := l ++ ((marks l.length).take j ++ List.replicate (3 - j) z32)
theorem roomAt_zero (l : List S32) : roomAt l 0 = l ++ List.replicate 3 z32 := rfl
theorem roomAt_len (l : List S32) (j : Nat) (h : j ≤ 3) : (roomAt l j).length = l.length + 3 := by
  simp [roomAt, marks]; omega
theorem roomAt_set (l : List S32) (j : Nat) (h : j < 3) : (roomAt l j).set (l.length + j) (mark ((l.length + j : Nat) : Int)) = roomAt l (j + 1) := by
  unfold roomAt
  rw [List.set_append_right _ _ (by omega), Nat.add_sub_cancel_left]
  congr 1
  match j, h with
  | 0, _ => rfl
  | 1, _ => rfl
  | 2, _ => rfl
theorem kflat (W' W'' : World) (base : Nat) (ok : Nat → Prop) (x : S32) (cs : List Value) (h : k32.K W' x cs) : k32.M W'' base ok x cs := by
  obtain rfl := k32_open h
  exact k32_mkM _ _ _ x

set_option maxHeartbeats 1000000 in
theorem roomy.calls (A0 : Option Addr) (c0 : Nat) (l0 : List S32) (w : World) (hr0 : Kd.C k32 w A0 l0.length l0) (hc0 : l0.length ≤ c0) (hsz : l0.length * 32 ≤ 140737488351232) :
    Calls Tryd.prog 9 #[.slice A0 l0.length c0] w fun e w' => ∃ v0_ : Value, e = .returned (v0_) ∧ Kd.R k32 32 w' w.heap.size (fun _ => True) v0_ (l0 ++ marks l0.length) ∧ Below w.heap.size w w' := by
  have HR0 := Aside0.mk hr0
  have HB := Aside0.mk (Below.refl w.heap.size w)
  clear hr0
  have hn : (l0.length : Int) ≤ 4398046510976 := by omega
  have hn0 : (0 : Int) ≤ (l0.length : Int) := by omega
  go_enter Tryd.func9, Tryd.ntmps9
  go_wp2_with (first | ((with_reducible refine gate_dst (N := 8) rfl ?_); refine Kd.R_make k32 (w0 := w) w.heap.size 32 rfl (N := 8) rfl 22 _ _ rfl ((l0.length : Int) + 3) rfl rfl Tryd.underlying22 (.agg #[(.int .i64 0), (.string ⟨#[]⟩), (.int .i64 0)]) 32 info32 rfl (by decide) (by omega) z32 (ok := fun _ => True) (okp := fun _ => True) (k32_mkM _ _ _ z32) (fun _ hk => hk) trivial (by omega) (by omega) HB.out (Nat.le_refl _) ?_; intro v w1 ho hb _ _; obtain ⟨g, cap, rfl, hgb, hgl, cells, hcells⟩ := Kd.R_form ho (by rw [List.length_replicate]; omega); rw [List.length_replicate, show ((l0.length : Int) + 3).toNat = l0.length + 3 by omega] at ho ⊢; have HO := Aside0.mk ho; have HG := Aside0.mk hgb; clear ho hgb hgl hcells HB; have HB := Aside0.mk hb; clear hb) | ((with_reducible refine gate_dst (N := 11) rfl ?_); refine R_copyK k32 (w0 := w) w.heap.size rfl (.tmp 9) (.tmp 10) 22 22 32 rfl Tryd.underlying22 (by kernel_rfl) _ (List.replicate (l0.length + 3) z32) l0 A0 c0 (fun _ => True) rfl rfl kflat (by rw [List.length_replicate]; omega) HO.out (Kd.C_below HR0.out HB.out) HB.out HB.out.size ?_; intro w2 ho2 hb2 _; have h0_ : l0 ++ List.drop l0.length (List.replicate (l0.length + 3) z32) = roomAt l0 0 := (by rw [roomAt_zero, List.drop_replicate, Nat.add_sub_cancel_left]); rw [h0_] at ho2; clear HO HB h0_; have HO := Aside0.mk ho2; have HB := Aside0.mk hb2; clear ho2 hb2))
  go_loopw [4] (fun i wr => ∃ j : Nat, i = .int .i64 ((l0.length + j : Nat) : Int) ∧ Aside0 (j ≤ 3) ∧ Aside0 (Kd.R k32 32 wr w.heap.size (fun _ => True) (.slice (some ⟨g, 0, none⟩) (l0.length + 3) cap) (roomAt l0 j)) ∧ Aside0 (Below w.heap.size w wr)) (fun i _ => l0.length + 3 - (intOf i).toNat)
  case atStart => exact ⟨0, rfl, ⟨by omega⟩, HO, HB⟩
  case round =>
    clear HO HB
    obtain ⟨j, rfl, hj, HO, HB⟩ := hrel
    by_cases hlt : j < 3
    · have hb1 : (0 : Int) ≤ ((l0.length + j : Nat) : Int) := by omega
      have hb2 : ((l0.length + j : Nat) : Int) < ((l0.length + 3 : Nat) : Int) := by omega
      have hb3 : ((l0.length + j : Nat) : Int) ≤ 4398046510979 := by omega
      go_wp2_with (first | ((with_reducible refine gate_store (t := 32) (p := 24) rfl ?_); refine R_storeAll k32 (w0 := w) w.heap.size rfl rfl 32 (.tmp 24) (.tmp 23) rfl 32 (l0.length + j) (roomAt l0 j) (mark ((l0.length + j : Nat) : Int)) (.agg #[.int .i64 (-77), .string markS, .int .i64 ((l0.length + j : Nat) : Int)]) [.int .i64 (-77), .string markS, .int .i64 ((l0.length + j : Nat) : Int)] (fun _ => True) (fun _ => False) rfl rfl rfl rfl rfl (by kernel_rfl) (by simp [Value.oneCell']) HO.out (by omega) (k32_mkM _ _ _ (mark ((l0.length + j : Nat) : Int))) (fun _ hk => hk.elim) HB.out ?_; intro w3 ho3 hb3 _; rw [roomAt_set l0 j hlt] at ho3; clear HO HB; have HO := Aside0.mk ho3; have HB := Aside0.mk hb3; clear ho3 hb3))
      go_roundw
      case rel => exact ⟨j + 1, by go_num, ⟨by omega⟩, HO, HB⟩
      case measure => simp [intOf]; omega
    · have hb2 : ¬ ((l0.length + j : Nat) : Int) < ((l0.length + 3 : Nat) : Int) := by omega
      go_wp2
      go_ret
      have hj3 : j = 3 := by have := hj.out; omega
      subst hj3
      exact ⟨_, rfl, HO.out, HB.out⟩
end Go.Proofs.YtdfndbegifdejaaDoor.GD
