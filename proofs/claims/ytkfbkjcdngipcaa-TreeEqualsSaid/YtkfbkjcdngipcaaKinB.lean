import Derived.Test.YtkfbkjcdngipcaaPTreeEqualsx0
/-! A slice with a thing of its own behind its end (nil stays nil), as a kind. -/
namespace Go.Proofs.YtkfbkjcdngipcaaW.PrintWords
open Go.RowKit
namespace Kd
theorem R_readsB {α : Type} {d : Kd α} {e : Nat} {w : World} {base : Nat} {ok : Nat → Prop} {A : Option Addr} {n c : Nat} {xs : List α} (h : d.R e w base ok (.slice A n c) xs) : n = xs.length ∧ xs.length ≤ c ∧ d.C w A xs.length xs := by
  obtain ⟨A', c', he, hl, hr⟩ := R_reads h
  injection he with e1 e2 e3
  subst e1 e2 e3
  exact ⟨rfl, hl, hr⟩
/-- A slice of l, l ++ [z] in memory. -/
def sliceB {α : Type} (e : Nat) (d : Kd α) (z : α) : Kd (List α) where
  sz := 1
  E := e :: d.E
  K := fun w xs cs => (∃ c, cs = [.slice none 0 c] ∧ xs = []) ∨ ∃ A c, cs = [.slice A xs.length c] ∧ xs.length + 1 ≤ c ∧ d.C w A (xs.length + 1) (xs ++ [z])
  M := fun w base ok xs cs => (cs = [.slice none 0 0] ∧ xs = []) ∨ ∃ A c, cs = [.slice A xs.length c] ∧ d.R e w base ok (.slice A (xs.length + 1) c) (xs ++ [z])
  K_len := by
    rintro w x cs (⟨c, rfl, _⟩ | ⟨A, c, rfl, _⟩) <;> rfl
  K_one := by
    rintro w x cs (⟨c, rfl, _⟩ | ⟨A, c, rfl, _⟩) u hu <;> rw [List.mem_singleton.1 hu] <;> rfl
  K_below := by
    rintro w w1 x cs hb (⟨c, rfl, h⟩ | ⟨A, c, rfl, hl, hr⟩)
    · exact .inl ⟨c, rfl, h⟩
    · exact .inr ⟨A, c, rfl, hl, C_below hr hb⟩
  K_of_M := by
    rintro w base ok x cs (⟨rfl, h⟩ | ⟨A, c, rfl, h⟩)
    · exact .inl ⟨0, rfl, h⟩
    · obtain ⟨_, hl, hr⟩ := R_readsB h
      simp only [List.length_append, List.length_singleton] at hl hr
      exact .inr ⟨A, c, rfl, hl, hr⟩
  M_mono := by
    rintro w base ok ok' x cs hok (⟨rfl, h⟩ | ⟨A, c, rfl, h⟩)
    · exact .inl ⟨rfl, h⟩
    · exact .inr ⟨A, c, rfl, R_mono h hok⟩
  M_bound := by
    rintro w base ok x cs (⟨rfl, h⟩ | ⟨A, c, rfl, h⟩)
    · exact .inl ⟨rfl, h⟩
    · exact .inr ⟨A, c, rfl, R_bound h⟩
  M_move := by
    rintro w w1 base ok x cs hm (⟨rfl, h⟩ | ⟨A, c, rfl, h⟩)
    · exact .inl ⟨rfl, h⟩
    · exact .inr ⟨A, c, rfl, R_move h hm⟩
  M_lower := by
    rintro w base base' ok x cs hb (⟨rfl, h⟩ | ⟨A, c, rfl, h⟩)
    · exact .inl ⟨rfl, h⟩
    · exact .inr ⟨A, c, rfl, R_lower h hb⟩
theorem mono_sliceB {α β : Type} (e : Nat) (z : β) {G : Kd α → Kd β} (hG : Mono G) : Mono (fun d => sliceB e (G d) z) := by
  refine ⟨fun _ _ _ => rfl, ?_, ?_⟩
  · rintro d d' hs h w x cs (⟨c, rfl, hx⟩ | ⟨A, c, rfl, hl, hr⟩)
    · exact .inl ⟨c, rfl, hx⟩
    · exact .inr ⟨A, c, rfl, hl, C_imp (hG.sz d d' hs) (hG.K d d' hs h) hr⟩
  · rintro d d' hs h w base ok x cs (⟨rfl, hx⟩ | ⟨A, c, rfl, hr⟩)
    · exact .inl ⟨rfl, hx⟩
    · exact .inr ⟨A, c, rfl, R_imp (hG.sz d d' hs) (hG.M d d' hs h) hr⟩
theorem sub_sliceB {α β : Type} {E : List Nat} (e : Nat) (z : β) {G : Kd α → Kd β} (he : e ∈ E) (hG : Sub G E) : Sub (fun d => sliceB e (G d) z) E := fun d h q hq => by
  rcases List.mem_cons.1 hq with rfl | hq
  · exact he
  · exact hG d h q hq
end Kd
end Go.Proofs.YtkfbkjcdngipcaaW.PrintWords
namespace Go.Proofs.Ytkfbkjcdngipcaa.PTreeEquals
open Go.RowKit Go.Proofs.YtkfbkjcdngipcaaW.PrintWords Go.Proofs.YtkfbkjcdngipcaaW.PrintLast Go.Proofs.YtkfbkjcdngipcaaW.PrintMore
def b23 : S23 := ⟨-5, 0, 0⟩
def b54 : S54 := ⟨-5, 0, ⟨#[]⟩, [], []⟩
def b34 : S34 := { z34 with f0 := -5 }
def F54B (d : Kd S54) : Kd S54 := Kd.iso (Kd.pair (Kd.int .i64) (Kd.pair (Kd.int .i64) (Kd.pair Kd.string (Kd.pair (Kd.sliceB 23 k23 b23) (Kd.sliceB 54 d b54))))) (fun x : S54 => (x.f0, x.f1, x.f2, x.f3, x.f4))
theorem mono54B : Kd.Mono F54B := Kd.mono_iso _ (Kd.mono_pair (Kd.mono_const _) (Kd.mono_pair (Kd.mono_const _) (Kd.mono_pair (Kd.mono_const _) (Kd.mono_pair (Kd.mono_const _) (Kd.mono_sliceB 54 b54 Kd.mono_id)))))
theorem sub54B : Kd.Sub F54B [23, 54] := Kd.sub_iso _ (Kd.sub_pair (Kd.sub_const _ (by decide)) (Kd.sub_pair (Kd.sub_const _ (by decide)) (Kd.sub_pair (Kd.sub_const _ (by decide)) (Kd.sub_pair (Kd.sub_const _ (by decide)) (Kd.sub_sliceB 54 b54 (by decide) Kd.sub_id)))))
theorem sz54B : ∀ n, (Kd.upto F54B 5 [23, 54] n).sz = 5 := Kd.upto_sz (fun _ => rfl)
def k54B : Kd S54 := Kd.fix F54B 5 [23, 54] sz54B (Kd.upto_E sub54B)
def F34B (d : Kd S34) : Kd S34 := Kd.iso (Kd.pair (Kd.int .i64) (Kd.pair Kd.string (Kd.pair Kd.string (Kd.pair Kd.string (Kd.pair (Kd.int .i64) (Kd.pair k23 (Kd.pair k30 (Kd.pair (Kd.sliceB 54 k54B b54) (Kd.sliceB 34 d b34))))))))) (fun x : S34 => (x.f0, x.f1, x.f2, x.f3, x.f4, x.f5, x.f6, x.f7, x.f8))
theorem mono34B : Kd.Mono F34B := Kd.mono_iso _ (Kd.mono_pair (Kd.mono_const _) (Kd.mono_pair (Kd.mono_const _) (Kd.mono_pair (Kd.mono_const _) (Kd.mono_pair (Kd.mono_const _) (Kd.mono_pair (Kd.mono_const _) (Kd.mono_pair (Kd.mono_const _) (Kd.mono_pair (Kd.mono_const _) (Kd.mono_pair (Kd.mono_const _) (Kd.mono_sliceB 34 b34 Kd.mono_id)))))))))
theorem sub34B : Kd.Sub F34B [23, 34, 54] := Kd.sub_iso _ (Kd.sub_pair (Kd.sub_const _ (by decide)) (Kd.sub_pair (Kd.sub_const _ (by decide)) (Kd.sub_pair (Kd.sub_const _ (by decide)) (Kd.sub_pair (Kd.sub_const _ (by decide)) (Kd.sub_pair (Kd.sub_const _ (by decide)) (Kd.sub_pair (Kd.sub_const _ (by decide)) (Kd.sub_pair (Kd.sub_const _ (by decide)) (Kd.sub_pair (Kd.sub_const _ (by decide)) (Kd.sub_sliceB 34 b34 (by decide) Kd.sub_id)))))))))
theorem sz34B : ∀ n, (Kd.upto F34B 23 [23, 34, 54] n).sz = 23 := Kd.upto_sz (fun _ => rfl)
def k34B : Kd S34 := Kd.fix F34B 23 [23, 34, 54] sz34B (Kd.upto_E sub34B)
end Go.Proofs.Ytkfbkjcdngipcaa.PTreeEquals
