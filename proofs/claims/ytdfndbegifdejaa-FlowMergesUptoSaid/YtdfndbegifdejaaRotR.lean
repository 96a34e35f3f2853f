/- The library's stable sort at a slice of structs: rotateCmpFunc. -/
import Derived.Test.YtdfndbegifdejaaSwapR
namespace Go.Proofs.YtdfndbegifdejaaStab
set_option linter.unusedVariables false
set_option linter.unusedSimpArgs false
set_option linter.unusedSectionVars false
open Go Go.Proofs Go.Shelf Go.RowKit Go.Lib Go.Sort
variable {P : Program} {α : Type} [Inhabited α]

theorem rot_even (m i t : Nat) (h : i ≤ m) : rotI (m - i) m (m + i) t = swI (m - i) m i t := by
  unfold rotI swI; (repeat' split) <;> omega
theorem rot_gt (m i j t : Nat) (h : i ≤ m) (hij : j < i) : rotI (m - i) m (m + j) t = swI (m - i) m j (rotI (m - (i - j)) m (m + j) t) := by
  have e : ∀ r, r = rotI (m - (i - j)) m (m + j) t → rotI (m - i) m (m + j) t = swI (m - i) m j r := by
    intro r hr
    unfold rotI at hr
    unfold rotI swI
    (repeat' split at hr) <;> (repeat' split) <;> omega
  exact e _ rfl
theorem rot_lt (m i j t : Nat) (h : i ≤ m) (hij : i < j) : rotI (m - i) m (m + j) t = swI (m - i) (m + j - i) i (rotI (m - i) m (m + (j - i)) t) := by
  have e : ∀ r, r = rotI (m - i) m (m + (j - i)) t → rotI (m - i) m (m + j) t = swI (m - i) (m + j - i) i r := by
    intro r hr
    unfold rotI at hr
    unfold rotI swI
    (repeat' split at hr) <;> (repeat' split) <;> omega
  exact e _ rfl

set_option maxHeartbeats 4000000 in
set_option maxRecDepth 1000000 in
theorem rotate (k : Nat) (L : Lays P k) (enc : α → List Value) (g : Nat) (cb : Array Value) (blk off cap a m b : Nat) (d0 d : Array α) (w0 w : World)
    (R : RowK enc k w0 blk off d0) (hs : d0.size = d.size) (S : SWK enc k w0 blk off d w) (ham : a < m) (hmb : m < b) (hb : b ≤ d.size) (hsz : d.size < 4611686018427387904) :
    Calls P 74 #[.slice (some ⟨blk, off, none⟩) d.size cap, .int .i64 a, .int .i64 m, .int .i64 b, .func (.func g) #[] cb] w fun e w' =>
      e = .returned (.tuple #[]) ∧ ∃ dk : Array α, Rot a m b d dk ∧ SWK enc k w0 blk off dk w' := by
  have mixed := L.mixed; have t0 := L.t0; have a0 := L.a0; have z0 := L.z0; have v0 := L.v0; have t3 := L.t3; have a3 := L.a3; have z3 := L.z3; have v3 := L.v3; have t4 := L.t4; have a4 := L.a4; have z4 := L.z4; have v4 := L.v4; have t22 := L.t22; have a22 := L.a22; have z22 := L.z22; have v22 := L.v22; have t35 := L.t35; have a35 := L.a35; have z35 := L.z35; have v35 := L.v35; have aE := L.aE; have zE := L.zE
  have FG := L.f74
  have e93 : ∀ args w, (callFunc 93 args).run P w = .ok (.enter 93 args) w := enters_of L.f93 (by kernel_rfl) rfl
  have S0 : Aside (SWK enc k w0 blk off d w) := S
  clear S
  go_enter FG, Try.ntmps74
  go_wp2
  go_loopg [10, 11] (b - a) (fun kx s10 s11 wr => ∃ (i j : Nat) (dk : Array α), s10 = .int .i64 i ∧ s11 = .int .i64 j ∧ 0 < i ∧ 0 < j ∧ a + i ≤ m ∧ m + j ≤ b ∧ i + j ≤ kx ∧ dk.size = d.size ∧ Aside (SWK enc k w0 blk off dk wr) ∧ Aside (∀ t, d[rotI a m b t]! = dk[rotI (m - i) m (m + j) t]!))
  case atStart => exact ⟨m - a, b - m, d, by first | rfl | go_num | (congr 1; omega), by first | rfl | go_num | (congr 1; omega), by omega, by omega, by omega, by omega, by omega, rfl, S0, (show Aside _ from fun t => by rw [show m - (m - a) = a by omega, show m + (b - m) = b by omega])⟩
  case round =>
    clear S0
    obtain ⟨i, j, dk, rfl, rfl, hi0, hj0, hi, hj, hkx, hds, S1, HE⟩ := hrel
    by_cases heq : i = j
    · subst heq
      have hcall := swapRange k L enc g cb blk off cap (m - i) m i d0 dk w0 wr R (by omega) S1.out (by omega) (by omega) (by omega)
      rw [hds] at hcall
      have ecast : ((m - i : Nat) : Int) = (m : Int) - (i : Int) := by omega
      rw [ecast] at hcall
      clear S1
      go_wp2_with (go_at_fn 93; refine hcall.mono ?_; rintro e w1 ⟨rfl, d2, hd2, hat, S2⟩)
      go_end0
      refine ⟨rfl, d2, ⟨by rw [hd2], fun t => ?_⟩, S2⟩
      rw [HE.out, rot_even m i t (by omega), hat]
    · have hne : ¬ (i : Int) = (j : Int) := by omega
      by_cases hgt : j < i
      · have hgtz : (j : Int) < (i : Int) := by omega
        have hcall := swapRange k L enc g cb blk off cap (m - i) m j d0 dk w0 wr R (by omega) S1.out (by omega) (by omega) (by omega)
        rw [hds] at hcall
        have ecast : ((m - i : Nat) : Int) = (m : Int) - (i : Int) := by omega
        rw [ecast] at hcall
        clear S1
        go_wp2_with (go_at_fn 93; refine hcall.mono ?_; rintro e w1 ⟨rfl, d2, hd2, hat, S2⟩)
        go_roundg (i - j + j)
        case measure => omega
        case rel =>
          exact ⟨i - j, j, d2, by first | rfl | go_num | (congr 1; omega), rfl, by omega, by omega, by omega, by omega, by omega, by rw [hd2], S2, (show Aside _ from fun t => by rw [HE.out, rot_gt m i j t (by omega) hgt, hat])⟩
      · have hgtz : ¬ (j : Int) < (i : Int) := by omega
        have hcall := swapRange k L enc g cb blk off cap (m - i) (m + j - i) i d0 dk w0 wr R (by omega) S1.out (by omega) (by omega) (by omega)
        rw [hds] at hcall
        have ecast : ((m - i : Nat) : Int) = (m : Int) - (i : Int) := by omega
        have ecast2 : ((m + j - i : Nat) : Int) = (m : Int) + (j : Int) - (i : Int) := by omega
        rw [ecast, ecast2] at hcall
        clear S1
        go_wp2_with (go_at_fn 93; refine hcall.mono ?_; rintro e w1 ⟨rfl, d2, hd2, hat, S2⟩)
        go_roundg (i + (j - i))
        case measure => omega
        case rel =>
          exact ⟨i, j - i, d2, rfl, by first | rfl | go_num | (congr 1; omega), by omega, by omega, by omega, by omega, by omega, by rw [hd2], S2, (show Aside _ from fun t => by rw [HE.out, rot_lt m i j t (by omega) (by omega), hat])⟩
end Go.Proofs.YtdfndbegifdejaaStab
