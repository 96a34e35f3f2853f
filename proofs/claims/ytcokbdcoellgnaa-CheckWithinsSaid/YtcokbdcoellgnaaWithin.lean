/- check.Within: its contract. -/
import Derived.Test.YtcokbdcoellgnaaGWithinsx0
import Derived.Deep.LoopGhost
namespace Go.Proofs.Ytcokbdcoellgnaa.GWithins
open Go.RowKit Go.Proofs.YtcokbdcoellgnaaW.PrintWords Go.Proofs.YtcokbdcoellgnaaW.PrintLast Go.Proofs.YtcokbdcoellgnaaW.PrintMore
set_option linter.unusedVariables false
set_option linter.unusedSimpArgs false

def wGo : List (Int × Int) → Int → Int
  | [], e => e
  | (x, l) :: t, e => if x < 0 then 1 else wGo t (if l < x then 82 else e)
def wL (a0 a1 a2 a3 a4 a5 a6 : Int) : List (Int × Int) := [(a0, 64), (a1, 3660), (a2, 2048), (a3, 16384), (a4, 512), (a5, 64), (a6, 2097152)]
def check_Within.f (a0 a1 a2 a3 a4 a5 a6 : Int) : Option Int := some (wGo (wL a0 a1 a2 a3 a4 a5 a6) 0)

set_option maxHeartbeats 8000000 in
set_option maxRecDepth 100000 in
theorem check_Within.calls (a0 a1 a2 a3 a4 a5 a6 : Int) (r : Int) (w : World) (h : check_Within.f a0 a1 a2 a3 a4 a5 a6 = some r) :
    Calls Try.prog 4 #[.agg #[.int .i64 a0, .int .i64 a1, .int .i64 a2, .int .i64 a3, .int .i64 a4, .int .i64 a5, .int .i64 a6]] w fun e w' => e = .returned (.int .i64 r) ∧ Below w.heap.size w w' := by
  have H := Aside0.mk h
  clear h
  go_enter Try.func4, Try.ntmps4
  go_wp2
  go_loopg [4, 30] 7 (fun kx s4 s30 wr => ∃ (k : Nat) (e : Int), s4 = .int .i64 e ∧ s30 = .int .i64 k ∧ k ≤ 7 ∧ 7 - k ≤ kx ∧ Aside0 (wGo ((wL a0 a1 a2 a3 a4 a5 a6).drop k) e = r) ∧ Aside0 (Below w.heap.size w wr))
  case atStart => exact ⟨0, 0, rfl, rfl, by omega, by omega, Aside0.mk (Option.some.inj H.out), Aside0.mk (((Below.refl _ _).alloc (Nat.le_refl _) _).alloc (by simp) _)⟩
  case round =>
    clear H
    obtain ⟨k, e, rfl, rfl, hk, hkx, HG, HB⟩ := hrel
    by_cases hlt : k < 7
    · have hix : ∃ x l, Aside0 ((wL a0 a1 a2 a3 a4 a5 a6).drop k = (x, l) :: (wL a0 a1 a2 a3 a4 a5 a6).drop (k + 1)) ∧ ∀ w, (Instr.index 28 (.agg #[.int .i64 a0, .int .i64 64, .int .i64 a1, .int .i64 3660, .int .i64 a2, .int .i64 2048, .int .i64 a3, .int .i64 16384, .int .i64 a4, .int .i64 512, .int .i64 a5, .int .i64 64, .int .i64 a6, .int .i64 2097152]) (.int .i64 k)).run Try.prog w = .ok (.agg #[.int .i64 x, .int .i64 l]) w := by
        have : k = 0 ∨ k = 1 ∨ k = 2 ∨ k = 3 ∨ k = 4 ∨ k = 5 ∨ k = 6 := by omega
        rcases this with rfl | rfl | rfl | rfl | rfl | rfl | rfl
        · exact ⟨a0, 64, Aside0.mk rfl, fun w => by kernel_rfl⟩
        · exact ⟨a1, 3660, Aside0.mk rfl, fun w => by kernel_rfl⟩
        · exact ⟨a2, 2048, Aside0.mk rfl, fun w => by kernel_rfl⟩
        · exact ⟨a3, 16384, Aside0.mk rfl, fun w => by kernel_rfl⟩
        · exact ⟨a4, 512, Aside0.mk rfl, fun w => by kernel_rfl⟩
        · exact ⟨a5, 64, Aside0.mk rfl, fun w => by kernel_rfl⟩
        · exact ⟨a6, 2097152, Aside0.mk rfl, fun w => by kernel_rfl⟩
      obtain ⟨x, l, HD, hrun⟩ := hix
      have hltz : (k : Int) < 7 := by omega
      have HR := Aside0.mk (show wGo ((x, l) :: (wL a0 a1 a2 a3 a4 a5 a6).drop (k + 1)) e = r from HD.out ▸ HG.out)
      clear HD HG
      by_cases hx : x < 0
      · have HF : Aside0 (1 = r) := Aside0.mk (by have := HR.out; simp only [wGo] at this; rwa [if_pos hx] at this)
        clear HR
        go_wp2
        obtain rfl := HF.out
        go_ret
        exact ⟨rfl, (HB.out.alloc HB.out.size _)⟩
      · have HF : Aside0 (wGo ((wL a0 a1 a2 a3 a4 a5 a6).drop (k + 1)) (if l < x then 82 else e) = r) := Aside0.mk (by have := HR.out; simp only [wGo] at this; rwa [if_neg hx] at this)
        clear HR
        have hx0 : 0 ≤ x := by omega
        by_cases hlx : l < x
        · have HF2 : Aside0 (wGo ((wL a0 a1 a2 a3 a4 a5 a6).drop (k + 1)) 82 = r) := Aside0.mk (by have := HF.out; rwa [if_pos hlx] at this)
          clear HF
          go_wp2
          go_roundg (7 - (k + 1))
          case measure => omega
          case rel => exact ⟨k + 1, 82, rfl, by go_num, by omega, by omega, HF2, Aside0.mk (HB.out.alloc HB.out.size _)⟩
        · have HF2 : Aside0 (wGo ((wL a0 a1 a2 a3 a4 a5 a6).drop (k + 1)) e = r) := Aside0.mk (by have := HF.out; rwa [if_neg hlx] at this)
          clear HF
          have hlx2 : x ≤ l := by omega
          go_wp2
          go_roundg (7 - (k + 1))
          case measure => omega
          case rel => exact ⟨k + 1, e, rfl, by go_num, by omega, by omega, HF2, Aside0.mk (HB.out.alloc HB.out.size _)⟩
    · have hltz : ¬ (k : Int) < 7 := by omega
      obtain rfl : k = 7 := by omega
      obtain rfl : e = r := HG.out
      go_wp2
      go_ret
      exact ⟨rfl, HB.out⟩
end Go.Proofs.Ytcokbdcoellgnaa.GWithins
