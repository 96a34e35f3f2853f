import Derived.Test.YtkfbkjcdngipcaaVarW
import Derived.Test.YtkfbkjcdngipcaaTlyC
/-! What is known of the copies' kinds. -/
namespace Go.Proofs.YtkfbkjcdngipcaaW.PrintWords
open Go.RowKit
set_option linter.unusedVariables false
namespace Kd
section
variable {α : Type} {e : Nat} {d d' : Kd α} {z : α} {w : World} {xs : List α} {cs : List Value}
theorem sB_one (h : (sliceB e d z).K w xs cs) : ∃ v, cs = [v] := by
  rcases h with ⟨c, rfl, _⟩ | ⟨A, c, rfl, _⟩ <;> exact ⟨_, rfl⟩
theorem sB_oneM {base : Nat} {ok : Nat → Prop} (h : (sliceB e d z).M w base ok xs cs) : ∃ v, cs = [v] := by
  rcases h with ⟨rfl, _⟩ | ⟨A, c, rfl, _⟩ <;> exact ⟨_, rfl⟩
theorem C_pre {A : Option Addr} {n : Nat} {ys : List α} (h : d.C w A (xs.length + n) (xs ++ ys)) : d.C w A xs.length xs := by
  have hl := h.1
  rw [List.length_append] at hl
  have h2 : d.C w A (xs ++ ys).length (xs ++ ys) := by rw [List.length_append, hl]; exact h
  have := C_take (m := xs.length) h2 (by simp)
  rwa [List.take_left] at this
/-- A slice with a mark behind, read: nil, or something stands there, and the mark behind it. -/
theorem sB_read {v : Value} (h : (sliceB e d z).K w xs [v]) : ∃ A c, v = .slice A xs.length c ∧ xs.length ≤ c ∧ d.C w A xs.length xs ∧ ((A = none ∧ xs = []) ∨ ∃ ad, A = some ad ∧ xs.length + 1 ≤ c ∧ d.C w A (xs.length + 1) (xs ++ [z])) := by
  rcases h with ⟨c, h1, rfl⟩ | ⟨A, c, h1, hl, hc⟩
  · injection h1 with h1
    exact ⟨none, c, h1, Nat.zero_le _, C_nil d w, .inl ⟨rfl, rfl⟩⟩
  · injection h1 with h1
    obtain ⟨ad, hA, _⟩ := hc.2.2 (Nat.succ_pos _)
    exact ⟨A, c, h1, by omega, C_pre hc, .inr ⟨ad, hA, hl, hc⟩⟩
theorem sB_slice {w2 : World} (hs : d.sz = d'.sz) (hd : ∀ w x cs, d.K w x cs → d'.K w x cs) (h : (sliceB e d z).K w xs cs) : (slice e d').K w xs cs := by
  obtain ⟨v, rfl⟩ := sB_one h
  obtain ⟨A, c, rfl, hl, hc, _⟩ := sB_read h
  exact ⟨A, c, rfl, hl, C_imp hs hd hc⟩
end
section
variable {α : Type} {F : Kd α → Kd α} {sz : Nat} {E : List Nat} {hs : ∀ n, (upto F sz E n).sz = sz} {hE : ∀ n q, q ∈ (upto F sz E n).E → q ∈ E} {e : Nat} {z : α} {w : World} {xs : List α} {cs : List Value}
theorem sB_fix {n : Nat} (h : (sliceB e (upto F sz E n) z).K w xs cs) : (sliceB e (fix F sz E hs hE) z).K w xs cs := by
  rcases h with h | ⟨A, c, rfl, hl, hc⟩
  · exact .inl h
  · exact .inr ⟨A, c, rfl, hl, fix_C hc⟩
theorem sB_backM (hm : Mono F) {base : Nat} {ok : Nat → Prop} (h : (sliceB e (fix F sz E hs hE) z).M w base ok xs cs) : ∃ n, (sliceB e (upto F sz E n) z).M w base ok xs cs := by
  rcases h with h | ⟨A, c, rfl, hc⟩
  · exact ⟨0, .inl h⟩
  · obtain ⟨n, hn⟩ := fix_R_back hm hc
    exact ⟨n, .inr ⟨A, c, rfl, hn⟩⟩
end
/-- In memory that is new from b on. -/
def Fr {α : Type} (d : Kd α) (b : Nat) (w : World) (x : α) (cs : List Value) : Prop := d.M w b (fun k => b ≤ k) x cs
section
variable {α : Type} {d : Kd α} {b b' base : Nat} {w w1 : World} {x : α} {cs : List Value}
theorem Fr.of {ok : Nat → Prop} (h : d.M w b ok x cs) : Fr d b w x cs := d.M_mono (fun k hk => hk.2.1) (d.M_bound h)
theorem Fr.lower (h : Fr d b w x cs) (hb : b' ≤ b) : Fr d b' w x cs := d.M_mono (fun k hk => Nat.le_trans hb hk) (d.M_lower hb h)
theorem Fr.below (h : Fr d b w x cs) (hb : Below w.heap.size w w1) : Fr d b w1 x cs := M_below h hb
theorem Fr.other {g : Nat} (h : Fr d b w x cs) (ho : Other g w w1) (hg : g < b) : Fr d b w1 x cs := M_step h (fun k hk _ => ho.block k (by omega))
theorem Fr.grown {row : Option Nat} (h : Fr d b w x cs) (ho : w.grownBy w1 row) (hg : ∀ k, row = some k → k < b) : Fr d b w1 x cs := M_step h (fun k hk hlt => ho.block k hlt (fun he => by have := hg k he.symm; omega))
theorem Fr.typed {row : Option Nat} {e : Nat} (h : Fr d b w x cs) (hg : w.grownBy w1 row) (hv : ∀ k, row = some k → ∃ cells, w.heap[k]? = some (.cells cells e (0, 0))) (ht : ∀ q, q ∈ d.E → q ≠ e) : Fr d b w1 x cs := by
  have h1 := d.M_bound h
  refine d.M_mono (fun k hk => hk.1) (d.M_move (fun k hk => ?_) h1)
  obtain ⟨_, _, hlt, q, hq, cells, hc⟩ := hk
  refine hg.block k hlt (fun he => ?_)
  obtain ⟨cells', hc'⟩ := hv k he.symm
  rw [hc] at hc'
  injection hc' with hc'
  injection hc' with _ h2
  exact ht q hq h2
theorem Fr.K (h : Fr d b w x cs) : d.K w x cs := d.K_of_M h
end
end Kd
end Go.Proofs.YtkfbkjcdngipcaaW.PrintWords
namespace Go.Proofs.Ytkfbkjcdngipcaa.PTreeEquals
open Go.RowKit Go.Proofs.YtkfbkjcdngipcaaW.PrintWords Go.Proofs.YtkfbkjcdngipcaaW.PrintLast Go.Proofs.YtkfbkjcdngipcaaW.PrintMore
theorem k54B_mkM (w : World) (base : Nat) (ok : Nat → Prop) (x : S54) {v3 : Value} (g3 : (Kd.sliceB 23 k23 b23).M w base ok x.f3 [v3]) {v4 : Value} (g4 : (Kd.sliceB 54 k54B b54).M w base ok x.f4 [v4]) : k54B.M w base ok x [.int .i64 x.f0, .int .i64 x.f1, .string x.f2, v3, v4] := by
  obtain ⟨n4, r4⟩ := Kd.sB_backM mono54B g4
  exact ⟨n4 + 1, ⟨[.int .i64 x.f0], [.int .i64 x.f1, .string x.f2, v3, v4], rfl, rfl, ⟨[.int .i64 x.f1], [.string x.f2, v3, v4], rfl, rfl, ⟨[.string x.f2], [v3, v4], rfl, rfl, ⟨[v3], [v4], rfl, g3, r4⟩⟩⟩⟩⟩
theorem k54B_open {w : World} {x : S54} {cs : List Value} (h : k54B.K w x cs) : ∃ v3 v4, cs = [.int .i64 x.f0, .int .i64 x.f1, .string x.f2, v3, v4] ∧ (Kd.sliceB 23 k23 b23).K w x.f3 [v3] ∧ (Kd.sliceB 54 k54B b54).K w x.f4 [v4] := by
  obtain ⟨n, h⟩ := h
  cases n with
  | zero => exact h.elim
  | succ n =>
    obtain ⟨_, _, rfl, rfl, ⟨_, _, rfl, rfl, ⟨_, _, rfl, rfl, ⟨_, _, rfl, g3, g4⟩⟩⟩⟩ := h
    obtain ⟨v3, rfl⟩ := Kd.sB_one g3
    obtain ⟨v4, rfl⟩ := Kd.sB_one g4
    exact ⟨v3, v4, rfl, g3, Kd.sB_fix g4⟩
theorem k54B_K : ∀ n w x cs, (Kd.upto F54B 5 [23, 54] n).K w x cs → k54.K w x cs
  | 0, _, _, _, h => h.elim
  | n + 1, w, x, cs, h => by
    obtain ⟨_, _, rfl, rfl, ⟨_, _, rfl, rfl, ⟨_, _, rfl, rfl, ⟨_, _, rfl, g3, g4⟩⟩⟩⟩ := h
    obtain ⟨A3, c3, rfl, l3, h3⟩ := Kd.sB_slice (w2 := w) (d' := k23) rfl (fun _ _ _ h => h) g3
    obtain ⟨A4, c4, rfl, l4, h4⟩ := Kd.sB_slice (w2 := w) (d' := k54) (sz54B n) (k54B_K n) g4
    exact k54_mk w x l3 h3 l4 h4
theorem k54B_read {w : World} {x : S54} {cs : List Value} (h : k54B.K w x cs) : k54.K w x cs := by
  obtain ⟨n, h⟩ := h
  exact k54B_K n w x cs h
theorem k34B_mkM (w : World) (base : Nat) (ok : Nat → Prop) (x : S34) {v21 : Value} (g21 : (Kd.sliceB 54 k54B b54).M w base ok x.f7 [v21]) {v22 : Value} (g22 : (Kd.sliceB 34 k34B b34).M w base ok x.f8 [v22]) : k34B.M w base ok x [.int .i64 x.f0, .string x.f1, .string x.f2, .string x.f3, .int .i64 x.f4, .int .i64 x.f5.f0, .int .i64 x.f5.f1, .int .i64 x.f5.f2, .int .i64 x.f6.f0, .int .i64 x.f6.f1, .int .i64 x.f6.f2, .int .i64 x.f6.f3, .int .i64 x.f6.f4.f0, .int .i64 x.f6.f4.f1, .int .i64 x.f6.f4.f2, .int .i64 x.f6.f5.f0, .int .i64 x.f6.f5.f1, .int .i64 x.f6.f5.f2, .int .i64 x.f6.f6.f0, .int .i64 x.f6.f6.f1, .int .i64 x.f6.f7, v21, v22] := by
  obtain ⟨n22, r22⟩ := Kd.sB_backM mono34B g22
  exact ⟨n22 + 1, ⟨[.int .i64 x.f0], [.string x.f1, .string x.f2, .string x.f3, .int .i64 x.f4, .int .i64 x.f5.f0, .int .i64 x.f5.f1, .int .i64 x.f5.f2, .int .i64 x.f6.f0, .int .i64 x.f6.f1, .int .i64 x.f6.f2, .int .i64 x.f6.f3, .int .i64 x.f6.f4.f0, .int .i64 x.f6.f4.f1, .int .i64 x.f6.f4.f2, .int .i64 x.f6.f5.f0, .int .i64 x.f6.f5.f1, .int .i64 x.f6.f5.f2, .int .i64 x.f6.f6.f0, .int .i64 x.f6.f6.f1, .int .i64 x.f6.f7, v21, v22], rfl, rfl, ⟨[.string x.f1], [.string x.f2, .string x.f3, .int .i64 x.f4, .int .i64 x.f5.f0, .int .i64 x.f5.f1, .int .i64 x.f5.f2, .int .i64 x.f6.f0, .int .i64 x.f6.f1, .int .i64 x.f6.f2, .int .i64 x.f6.f3, .int .i64 x.f6.f4.f0, .int .i64 x.f6.f4.f1, .int .i64 x.f6.f4.f2, .int .i64 x.f6.f5.f0, .int .i64 x.f6.f5.f1, .int .i64 x.f6.f5.f2, .int .i64 x.f6.f6.f0, .int .i64 x.f6.f6.f1, .int .i64 x.f6.f7, v21, v22], rfl, rfl, ⟨[.string x.f2], [.string x.f3, .int .i64 x.f4, .int .i64 x.f5.f0, .int .i64 x.f5.f1, .int .i64 x.f5.f2, .int .i64 x.f6.f0, .int .i64 x.f6.f1, .int .i64 x.f6.f2, .int .i64 x.f6.f3, .int .i64 x.f6.f4.f0, .int .i64 x.f6.f4.f1, .int .i64 x.f6.f4.f2, .int .i64 x.f6.f5.f0, .int .i64 x.f6.f5.f1, .int .i64 x.f6.f5.f2, .int .i64 x.f6.f6.f0, .int .i64 x.f6.f6.f1, .int .i64 x.f6.f7, v21, v22], rfl, rfl, ⟨[.string x.f3], [.int .i64 x.f4, .int .i64 x.f5.f0, .int .i64 x.f5.f1, .int .i64 x.f5.f2, .int .i64 x.f6.f0, .int .i64 x.f6.f1, .int .i64 x.f6.f2, .int .i64 x.f6.f3, .int .i64 x.f6.f4.f0, .int .i64 x.f6.f4.f1, .int .i64 x.f6.f4.f2, .int .i64 x.f6.f5.f0, .int .i64 x.f6.f5.f1, .int .i64 x.f6.f5.f2, .int .i64 x.f6.f6.f0, .int .i64 x.f6.f6.f1, .int .i64 x.f6.f7, v21, v22], rfl, rfl, ⟨[.int .i64 x.f4], [.int .i64 x.f5.f0, .int .i64 x.f5.f1, .int .i64 x.f5.f2, .int .i64 x.f6.f0, .int .i64 x.f6.f1, .int .i64 x.f6.f2, .int .i64 x.f6.f3, .int .i64 x.f6.f4.f0, .int .i64 x.f6.f4.f1, .int .i64 x.f6.f4.f2, .int .i64 x.f6.f5.f0, .int .i64 x.f6.f5.f1, .int .i64 x.f6.f5.f2, .int .i64 x.f6.f6.f0, .int .i64 x.f6.f6.f1, .int .i64 x.f6.f7, v21, v22], rfl, rfl, ⟨[.int .i64 x.f5.f0, .int .i64 x.f5.f1, .int .i64 x.f5.f2], [.int .i64 x.f6.f0, .int .i64 x.f6.f1, .int .i64 x.f6.f2, .int .i64 x.f6.f3, .int .i64 x.f6.f4.f0, .int .i64 x.f6.f4.f1, .int .i64 x.f6.f4.f2, .int .i64 x.f6.f5.f0, .int .i64 x.f6.f5.f1, .int .i64 x.f6.f5.f2, .int .i64 x.f6.f6.f0, .int .i64 x.f6.f6.f1, .int .i64 x.f6.f7, v21, v22], rfl, (k23_mkM w base ok x.f5 ), ⟨[.int .i64 x.f6.f0, .int .i64 x.f6.f1, .int .i64 x.f6.f2, .int .i64 x.f6.f3, .int .i64 x.f6.f4.f0, .int .i64 x.f6.f4.f1, .int .i64 x.f6.f4.f2, .int .i64 x.f6.f5.f0, .int .i64 x.f6.f5.f1, .int .i64 x.f6.f5.f2, .int .i64 x.f6.f6.f0, .int .i64 x.f6.f6.f1, .int .i64 x.f6.f7], [v21, v22], rfl, (k30_mkM w base ok x.f6 ), ⟨[v21], [v22], rfl, g21, r22⟩⟩⟩⟩⟩⟩⟩⟩⟩
theorem k34B_open {w : World} {x : S34} {cs : List Value} (h : k34B.K w x cs) : ∃ v21 v22, cs = [.int .i64 x.f0, .string x.f1, .string x.f2, .string x.f3, .int .i64 x.f4, .int .i64 x.f5.f0, .int .i64 x.f5.f1, .int .i64 x.f5.f2, .int .i64 x.f6.f0, .int .i64 x.f6.f1, .int .i64 x.f6.f2, .int .i64 x.f6.f3, .int .i64 x.f6.f4.f0, .int .i64 x.f6.f4.f1, .int .i64 x.f6.f4.f2, .int .i64 x.f6.f5.f0, .int .i64 x.f6.f5.f1, .int .i64 x.f6.f5.f2, .int .i64 x.f6.f6.f0, .int .i64 x.f6.f6.f1, .int .i64 x.f6.f7, v21, v22] ∧ (Kd.sliceB 54 k54B b54).K w x.f7 [v21] ∧ (Kd.sliceB 34 k34B b34).K w x.f8 [v22] := by
  obtain ⟨n, h⟩ := h
  cases n with
  | zero => exact h.elim
  | succ n =>
    obtain ⟨_, _, rfl, rfl, ⟨_, _, rfl, rfl, ⟨_, _, rfl, rfl, ⟨_, _, rfl, rfl, ⟨_, _, rfl, rfl, ⟨_, _, rfl, s5, ⟨_, _, rfl, s8, ⟨_, _, rfl, g21, g22⟩⟩⟩⟩⟩⟩⟩⟩ := h
    obtain rfl := k23_open s5
    obtain rfl := k30_open s8
    obtain ⟨v21, rfl⟩ := Kd.sB_one g21
    obtain ⟨v22, rfl⟩ := Kd.sB_one g22
    exact ⟨v21, v22, rfl, g21, Kd.sB_fix g22⟩
theorem k34B_K : ∀ n w x cs, (Kd.upto F34B 23 [23, 34, 54] n).K w x cs → k34.K w x cs
  | 0, _, _, _, h => h.elim
  | n + 1, w, x, cs, h => by
    obtain ⟨_, _, rfl, rfl, ⟨_, _, rfl, rfl, ⟨_, _, rfl, rfl, ⟨_, _, rfl, rfl, ⟨_, _, rfl, rfl, ⟨_, _, rfl, s5, ⟨_, _, rfl, s8, ⟨_, _, rfl, g21, g22⟩⟩⟩⟩⟩⟩⟩⟩ := h
    obtain rfl := k23_open s5
    obtain rfl := k30_open s8
    obtain ⟨A21, c21, rfl, l21, h21⟩ := Kd.sB_slice (w2 := w) (d := k54B) (d' := k54) rfl (fun _ _ _ h => k54B_read h) g21
    obtain ⟨A22, c22, rfl, l22, h22⟩ := Kd.sB_slice (w2 := w) (d' := k34) (sz34B n) (k34B_K n) g22
    exact k34_mk w x l21 h21 l22 h22
theorem k34B_read {w : World} {x : S34} {cs : List Value} (h : k34B.K w x cs) : k34.K w x cs := by
  obtain ⟨n, h⟩ := h
  exact k34B_K n w x cs h
def b56 : S56 := ⟨⟨#[98, 101, 104, 105, 110, 100]⟩, [], z54⟩
def k56B : Kd S56 := Kd.iso (Kd.pair Kd.string (Kd.pair (Kd.sliceB 9 Kd.string ⟨#[98, 101, 104, 105, 110, 100]⟩) k54B)) (fun x : S56 => (x.f0, x.f1, x.f2))
theorem k56B_read {w : World} {x : S56} {cs : List Value} (h : k56B.K w x cs) : k56.K w x cs := by
  obtain ⟨_, _, rfl, rfl, ⟨_, _, rfl, g1, g2⟩⟩ := h
  obtain ⟨A1, c1, rfl, l1, h1⟩ := Kd.sB_slice (w2 := w) (d' := Kd.string) rfl (fun _ _ _ h => h) g1
  obtain ⟨A5, c5, A6, c6, rfl, l5, g5, l6, g6⟩ := k54_open (k54B_read g2)
  exact k56_mk w x l1 h1 l5 g5 l6 g6
theorem k56B_mkM (w : World) (base : Nat) (ok : Nat → Prop) (x : S56) {v1 : Value} (g1 : (Kd.sliceB 9 Kd.string ⟨#[98, 101, 104, 105, 110, 100]⟩).M w base ok x.f1 [v1]) {cs : List Value} (g2 : k54B.M w base ok x.f2 cs) : k56B.M w base ok x (.string x.f0 :: v1 :: cs) :=
  ⟨[.string x.f0], v1 :: cs, rfl, rfl, ⟨[v1], cs, rfl, g1, g2⟩⟩
theorem k56B_open {w : World} {x : S56} {cs : List Value} (h : k56B.K w x cs) : ∃ v1 ds, cs = .string x.f0 :: v1 :: ds ∧ (Kd.sliceB 9 Kd.string ⟨#[98, 101, 104, 105, 110, 100]⟩).K w x.f1 [v1] ∧ k54B.K w x.f2 ds := by
  obtain ⟨_, _, rfl, rfl, ⟨_, _, rfl, g1, g2⟩⟩ := h
  obtain ⟨v1, rfl⟩ := Kd.sB_one g1
  exact ⟨v1, _, rfl, g1, g2⟩
end Go.Proofs.Ytkfbkjcdngipcaa.PTreeEquals
