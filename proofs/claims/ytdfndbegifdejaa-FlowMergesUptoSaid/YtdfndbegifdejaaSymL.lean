/- symMergeCmpFunc where the left part is one element. -/
import Derived.Test.YtdfndbegifdejaaRotR
import Derived.Test.YtdfndbegifdejaaSymP
namespace Go.Proofs.YtdfndbegifdejaaStab
set_option linter.unusedVariables false
set_option linter.unusedSimpArgs false
set_option linter.unusedSectionVars false
open Go Go.Proofs Go.Shelf Go.RowKit Go.Lib Go.Sort
variable {P : Program} {α : Type} [Inhabited α]
set_option maxHeartbeats 4000000 in
set_option maxRecDepth 1000000 in
theorem symL (k : Nat) (L : Lays P k) (enc : α → List Value) (key : α → Int) (cf : α → α → Int) (hcf : ∀ x y, cf x y < 0 ↔ key x < key y) (g : Nat) (cb : Array Value) (eg : ∀ args w, (callFunc g args).run P w = .ok (.enter g args) w) (blk off cap : Nat) (d0 : Array α) (w0 : World)
    (hcmp : CmpLays P g cb enc k cf blk off d0.size w0) (R : RowK enc k w0 blk off d0) (hsz : d0.size < 4611686018427387904) (a m b : Nat) (d : Array α) (w : World) (hs : d.size = d0.size) (S : SWK enc k w0 blk off d w) (ham : a < m) (hmb : m < b) (hb : b ≤ d.size) (hX : Srt key a m d) (hY : Srt key m b d) (hyp1 : Aside (m = a + 1)) :
    Calls P 68 #[.slice (some ⟨blk, off, none⟩) d.size cap, .int .i64 a, .int .i64 m, .int .i64 b, .func (.func g) #[] cb] w fun e w' =>
      e = .returned (.tuple #[]) ∧ ∃ dk : Array α, Seg key a b d dk ∧ Srt key a b dk ∧ SWK enc k w0 blk off dk w' := by
    have mixed := L.mixed; have t0 := L.t0; have a0 := L.a0; have z0 := L.z0; have v0 := L.v0; have t3 := L.t3; have a3 := L.a3; have z3 := L.z3; have v3 := L.v3; have t4 := L.t4; have a4 := L.a4; have z4 := L.z4; have v4 := L.v4; have t22 := L.t22; have a22 := L.a22; have z22 := L.z22; have v22 := L.v22; have t35 := L.t35; have a35 := L.a35; have z35 := L.z35; have v35 := L.v35; have aE := L.aE; have zE := L.zE; have t115 := L.t115; have a115 := L.a115; have z115 := L.z115
    have u3 := run_underlying L.t3
    have u115 := run_underlying L.t115
    have FG := L.f68
    have HC : Aside _ := hcmp
    have S0 : Aside (SWK enc k w0 blk off d w) := S
    have HX : Aside _ := hX
    have HY : Aside _ := hY
    have HS : Aside (d.size = d0.size) := hs
    have hsz2 : d.size < 4611686018427387904 := by omega
    have HCF : Aside _ := hcf
    clear S hcmp hX hY hs hcf
    go_enter FG, Try.ntmps68
    by_cases h1 : m = a + 1
    · have h1z : (m : Int) - (a : Int) = 1 := by omega
      have hm1 : m ≤ a + 1 := by omega
      have H1 : Aside (m = a + 1) := h1
      clear h1
      go_wp2
      go_loopg [10, 11] (b - m) (fun kx s10 s11 wr => ∃ (i j : Nat), s10 = .int .i64 i ∧ s11 = .int .i64 j ∧ m ≤ i ∧ i ≤ j ∧ j ≤ b ∧ j - i ≤ kx ∧ Aside (SWK enc k w0 blk off d wr) ∧ Aside (∀ t, m ≤ t → t < i → key d[t]! < key d[a]!) ∧ Aside (∀ t, j ≤ t → t < b → key d[a]! ≤ key d[t]!))
      case atStart => exact ⟨m, b, rfl, rfl, Nat.le_refl _, by omega, Nat.le_refl _, Nat.le_refl _, S0, (show Aside _ from fun t h1 h2 => by omega), (show Aside _ from fun t h1 h2 => by omega)⟩
      case round =>
        clear S0
        obtain ⟨i, j, rfl, rfl, hmi, hij, hjb, hkx, S1, HL, HR⟩ := hrel
        by_cases hlt : i < j
        · have hltz : (i : Int) < (j : Int) := by omega
          obtain ⟨h, hh⟩ : ∃ h : Nat, (h : Int) = ((i : Int) + (j : Int)) / 2 := ⟨(i + j) / 2, by omega⟩
          have hh1 : i ≤ h := by omega
          have hh2 : h < j := by omega
          go_wp2_with fail
          rw [← hh]
          have HHH : Aside _ := hh
          clear hh
          have ea : ((h : Int) : Int).toNat = h := by omega
          have pa : (0 : Int) ≤ ((h : Int) : Int) := by omega
          have ba : ((h : Int) : Int) < (d.size : Int) := by omega
          have ra : IntKind.i64.wrap ((h : Int) : Int) = ((h : Int) : Int) := by rw [IntKind.wrap_i64]; omega
          have ec : ((a : Int) : Int).toNat = a := by omega
          have pc : (0 : Int) ≤ ((a : Int) : Int) := by omega
          have bc : ((a : Int) : Int) < (d.size : Int) := by omega
          have rc : IntKind.i64.wrap ((a : Int) : Int) = ((a : Int) : Int) := by rw [IntKind.wrap_i64]; omega
          obtain ⟨x38, hx38⟩ : ∃ x, x = d[h]! := ⟨_, rfl⟩
          obtain ⟨y38, hy38⟩ : ∃ x, x = d[a]! := ⟨_, rfl⟩
          have l38a := S1.out.ld R (by have := HS.out; omega) P (h) (by omega)
          have l38b := S1.out.ld R (by have := HS.out; omega) P (a) (by omega)
          rw [← hx38] at l38a
          rw [← hy38] at l38b
          have hc38 := S1.out.cmp HC.out (by have := HS.out; omega) x38 y38
          have hkey : cf x38 y38 < 0 ↔ key d[h]! < key d[a]! := by rw [hx38, hy38]; exact HCF.out _ _
          have HK : Aside _ := hkey
          clear hx38 hy38 hkey
          by_cases hv38 : cf x38 y38 < 0
          · have hd38 : decide (cf x38 y38 < 0) = true := decide_eq_true hv38
            have HL2 : Aside _ := HK.out.1 hv38
            go_wp2_with fail
            go_quiet_grown (first | (go_at_fn g; refine Calls.grown_of (hc38 _ _)))
            have S2 : Aside (SWK enc k w0 blk off d (grow (wr.drewN nq) osq)) := S1.out.grown nq osq
            clear l38a l38b hc38 S1
            generalize grow (wr.drewN nq) osq = w2 at S2 ⊢
            clear nq osq
            go_wp2
            go_roundg (j - (h + 1))
            case measure => omega
            case rel => exact ⟨h + 1, j, by first | rfl | go_num | (congr 1; omega), rfl, by omega, by omega, hjb, Nat.le_refl _, S2, (show Aside _ from fun t h3 h4 => Int.lt_of_le_of_lt (HY.out t h h3 (by omega) (by omega)) HL2.out), HR⟩
          · have hd38 : decide (cf x38 y38 < 0) = false := decide_eq_false hv38
            have HL2 : Aside _ := fun h => hv38 (HK.out.2 h)
            go_wp2_with fail
            go_quiet_grown (first | (go_at_fn g; refine Calls.grown_of (hc38 _ _)))
            have S2 : Aside (SWK enc k w0 blk off d (grow (wr.drewN nq) osq)) := S1.out.grown nq osq
            clear l38a l38b hc38 S1
            generalize grow (wr.drewN nq) osq = w2 at S2 ⊢
            clear nq osq
            go_wp2
            go_roundg (h - i)
            case measure => omega
            case rel => exact ⟨i, h, rfl, by first | rfl | go_num | (congr 1; omega), hmi, by omega, by omega, Nat.le_refl _, S2, HL, (show Aside _ from fun t h3 h4 => Int.le_trans (Int.not_lt.1 HL2.out) (HY.out h t (by omega) h3 h4))⟩
        · have hltz : ¬ (i : Int) < (j : Int) := by omega
          obtain rfl : i = j := by omega
          go_wp2
          go_loopg [13] (i - a) (fun kx s13 wr => ∃ (c : Nat) (dk : Array α), s13 = .int .i64 c ∧ a ≤ c ∧ c + 1 ≤ i ∧ i - c ≤ kx ∧ dk.size = d.size ∧ Aside (SWK enc k w0 blk off dk wr) ∧ Aside (∀ t, dk[t]! = d[rotI a (a + 1) (c + 1) t]!))
          case atStart => exact ⟨a, d, rfl, Nat.le_refl _, by omega, Nat.le_refl _, rfl, S1, (show Aside _ from (Rot.none d a (a + 1) (by omega)).2.at_)⟩
          case round =>
            clear S1
            obtain ⟨c, dk, rfl, hac, hci, hkx, hds, S1, HE⟩ := hrel
            by_cases hlt2 : c + 1 < i
            · have hltz2 : (c : Int) < (i : Int) - 1 := by omega
              go_wp2_with fail
              have ea : ((c : Int) : Int).toNat = c := by omega
              have pa : (0 : Int) ≤ ((c : Int) : Int) := by omega
              have ba : ((c : Int) : Int) < (d.size : Int) := by omega
              have ra : IntKind.i64.wrap ((c : Int) : Int) = ((c : Int) : Int) := by rw [IntKind.wrap_i64]; omega
              have ec : ((c : Int) + 1 : Int).toNat = c + 1 := by omega
              have pc : (0 : Int) ≤ ((c : Int) + 1 : Int) := by omega
              have bc : ((c : Int) + 1 : Int) < (d.size : Int) := by omega
              have rc : IntKind.i64.wrap ((c : Int) + 1 : Int) = ((c : Int) + 1 : Int) := by rw [IntKind.wrap_i64]; omega
              have S2 : Aside (SWK enc k w0 blk off (swp dk (c) (c + 1)) ((wr.drew.setCells blk (off + (c) * k) (enc dk[c + 1]!)).setCells blk (off + (c + 1) * k) (enc dk[c]!))) := S1.out.swapped R (c) (c + 1) (by omega) (by omega)
              have l44a := S1.out.ld1 R (by have := HS.out; omega) P (c) (by omega)
              have l44b := S1.out.ld1 R (by have := HS.out; omega) P (c + 1) (by omega)
              have s44a := S1.out.st1 R (by have := HS.out; omega) P (c) (by omega) dk[c + 1]!
              have s44b := S1.out.st2 R (by have := HS.out; omega) P (c) (c + 1) (by omega) (by omega) dk[c + 1]! dk[c]!
              have n44a : (enc dk[c]!).length = k := R.hk _
              have n44b : (enc dk[c + 1]!).length = k := R.hk _
              generalize enc dk[c]! = cI44 at S2 l44a s44b n44a
              generalize enc dk[c + 1]! = cJ44 at S2 l44b s44a s44b n44b
              clear S1
              go_wp2_with fail
              go_big_region_o
              clear l44a l44b s44a s44b
              generalize (wr.drew.setCells blk (off + (c) * k) cJ44).setCells blk (off + (c + 1) * k) cI44 = w2 at S2 ⊢
              go_wp2
              go_roundg (i - (c + 1))
              case measure => omega
              case rel =>
                refine ⟨c + 1, swp dk c (c + 1), by first | rfl | go_num | (congr 1; omega), by omega, by omega, Nat.le_refl _, by rw [size_swp]; exact hds, S2, (show Aside _ from fun t => ?_)⟩
                rw [swp_get dk (by omega) (by omega), HE.out, HE.out, HE.out, rot_right a c t hac]
                by_cases e1 : t = c + 1
                · rw [if_pos e1, if_pos e1]
                · rw [if_neg e1, if_neg e1]
                  by_cases e2 : t = c
                  · rw [if_pos e2, if_pos e2]
                  · rw [if_neg e2, if_neg e2]
            · have hltz2 : ¬ (c : Int) < (i : Int) - 1 := by omega
              obtain rfl : i = c + 1 := by omega
              have HF : Aside (Seg key a b d dk ∧ Srt key a b dk) := by
                obtain rfl := H1.out
                have hr : Rot a (a + 1) (c + 1) d dk := ⟨hds, HE.out⟩
                refine one_left HX.out HY.out (by omega) (by omega) hr HL.out HR.out
              go_wp2
              (try simp only [Exit.inBlock, Exit.then]); refine bodyPost_ret (results_none rfl _ _ _) rfl ?_
              exact ⟨rfl, dk, HF.out.1, HF.out.2, S1.out⟩
    · exact absurd hyp1.out h1
end Go.Proofs.YtdfndbegifdejaaStab
