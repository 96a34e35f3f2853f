/- Merged: SymA, SymB, SymR, StabR. -/
import Derived.Test.YtdfndbegifdejaaDoorSym
import Derived.Deep.DeepCutAuto
/-! ### SymA -/
/- symMergeCmpFunc, the general case, the middle left of the seam. -/
namespace Go.Proofs.YtdfndbegifdejaaDoorStab
set_option linter.unusedVariables false
set_option linter.unusedSimpArgs false
set_option linter.unusedSectionVars false
open Go Go.Proofs Go.Shelf Go.RowKit Go.Lib Go.Sort
variable {P : Program} {α : Type} [Inhabited α]
set_option maxHeartbeats 4000000 in
set_option maxRecDepth 1000000 in
theorem symA (k : Nat) (L : Lays P k) (enc : α → List Value) (key : α → Int) (cf : α → α → Int) (hcf : ∀ x y, cf x y < 0 ↔ key x < key y) (g : Nat) (cb : Array Value) (eg : ∀ args w, (callFunc g args).run P w = .ok (.enter g args) w) (blk off cap : Nat) (d0 : Array α) (w0 : World)
    (hcmp : CmpLays P g cb enc k cf blk off d0.size w0) (R : RowK enc k w0 blk off d0) (hsz : d0.size < 4611686018427387904) (n a m b : Nat) (d : Array α) (w : World) (IH : Aside (∀ (a m b : Nat) (d : Array α) (w : World), d.size = d0.size → SWK enc k w0 blk off d w → a < m → m < b → b ≤ d.size → b - a ≤ n → Srt key a m d → Srt key m b d → Calls P 68 #[.slice (some ⟨blk, off, none⟩) d.size cap, .int .i64 a, .int .i64 m, .int .i64 b, .func (.func g) #[] cb] w fun e w' =>
      e = .returned (.tuple #[]) ∧ ∃ dk : Array α, Seg key a b d dk ∧ Srt key a b dk ∧ SWK enc k w0 blk off dk w')) (hs : d.size = d0.size) (S : SWK enc k w0 blk off d w) (ham : a < m) (hmb : m < b) (hb : b ≤ d.size) (hn : b - a ≤ n + 1) (hX : Srt key a m d) (hY : Srt key m b d) (h1 : Aside (¬ m = a + 1)) (h2 : Aside (¬ b = m + 1)) (mid : Nat) (HMID : Aside ((mid : Int) = ((a : Int) + (b : Int)) / 2)) (hc : mid < m) :
    Calls P 68 #[.slice (some ⟨blk, off, none⟩) d.size cap, .int .i64 a, .int .i64 m, .int .i64 b, .func (.func g) #[] cb] w fun e w' =>
      e = .returned (.tuple #[]) ∧ ∃ dk : Array α, Seg key a b d dk ∧ Srt key a b dk ∧ SWK enc k w0 blk off dk w' := by
    have h1z : ((m : Int) - (a : Int) == 1) = false := by rw [beq_eq_false_iff_ne]; have := h1.out; omega
    have h2z : ((b : Int) - (m : Int) == 1) = false := by rw [beq_eq_false_iff_ne]; have := h2.out; omega
    have hb4 : a + 4 ≤ b := by have := h1.out; have := h2.out; omega
    have hmid1 : a + b < 2 * mid + 2 := by have := HMID.out; omega
    have hmid2 : 2 * mid ≤ a + b := by have := HMID.out; omega
    have mixed := L.mixed; have t0 := L.t0; have a0 := L.a0; have z0 := L.z0; have v0 := L.v0; have t3 := L.t3; have a3 := L.a3; have z3 := L.z3; have v3 := L.v3; have t4 := L.t4; have a4 := L.a4; have z4 := L.z4; have v4 := L.v4; have t22 := L.t22; have a22 := L.a22; have z22 := L.z22; have v22 := L.v22; have t35 := L.t35; have a35 := L.a35; have z35 := L.z35; have v35 := L.v35; have aE := L.aE; have zE := L.zE; have t115 := L.t115; have a115 := L.a115; have z115 := L.z115
    have u3 := run_underlying L.t3
    have u115 := run_underlying L.t115
    have FG := L.f68
    have e74 : ∀ args w, (callFunc 91 args).run P w = .ok (.enter 91 args) w := enters_of L.f74 (by kernel_rfl) rfl
    have e68 : ∀ args w, (callFunc 68 args).run P w = .ok (.enter 68 args) w := enters_of L.f68 (by kernel_rfl) rfl
    have HC : Aside _ := hcmp
    have S0 : Aside (SWK enc k w0 blk off d w) := S
    have HX : Aside _ := hX
    have HY : Aside _ := hY
    have HS : Aside (d.size = d0.size) := hs
    have hsz2 : d.size < 4611686018427387904 := by omega
    have HCF : Aside _ := hcf
    clear S hcmp hX hY hs hcf
    go_enter FG, Tryd.ntmps68
    go_upto_region 27 with fail
    rw [← HMID.out]
    
    have hcz : (mid : Int) < (m : Int) := by omega
    obtain ⟨lo, hlo⟩ : ∃ q : Nat, (q : Int) = (mid : Int) + (m : Int) - (b : Int) := ⟨mid + m - b, by omega⟩
    have hlo1 : lo + b = mid + m := by omega
    have HLO : Aside _ := hlo
    clear hlo
    go_wp2_with fail
    rw [← HLO.out]
    go_loopg [20, 21] (b - a) (fun kx s20 s21 wr => ∃ (i j : Nat), s20 = .int .i64 i ∧ s21 = .int .i64 j ∧ lo ≤ i ∧ i ≤ j ∧ j ≤ mid ∧ j - i ≤ kx ∧ Aside (SWK enc k w0 blk off d wr) ∧ Aside (∀ t, lo ≤ t → t < i → key d[t]! ≤ key d[mid + m - 1 - t]!) ∧ Aside (∀ t, j ≤ t → t < mid → key d[mid + m - 1 - t]! < key d[t]!))
    case atStart => exact ⟨lo, mid, by first | rfl | go_num | (congr 1; omega), by first | rfl | go_num | (congr 1; omega), Nat.le_refl _, by omega, Nat.le_refl _, by omega, S0, (show Aside _ from fun t h1 h2 => by omega), (show Aside _ from fun t h1 h2 => by omega)⟩
    case round =>
      clear S0
      obtain ⟨i, j, rfl, rfl, hmi, hij, hjb, hkx, S1, HL, HR⟩ := hrel
      by_cases hlt : i < j
      · have hltz : (i : Int) < (j : Int) := by omega
        obtain ⟨h, hh⟩ : ∃ h : Nat, (h : Int) = ((i : Int) + (j : Int)) / 2 := ⟨(i + j) / 2, by omega⟩
        have hh1 : i ≤ h := by omega
        have hh2 : h < j := by omega
        go_wp2_with fail
        rw [← hh]
        have HHH : Aside _ := hh
        clear hh
        obtain ⟨z, hz⟩ : ∃ z : Nat, (z : Int) = (mid : Int) + (m : Int) - 1 - (h : Int) := ⟨mid + m - 1 - h, by omega⟩
        have hz1 : z < d.size := by omega
        have hz2 : z + h + 1 = mid + m := by omega
        have raz : IntKind.i64.wrap ((mid : Int) + (m : Int) - 1 - (h : Int)) = (z : Int) := by rw [IntKind.wrap_i64]; omega
        have HZ : Aside _ := hz
        clear hz
        have ea : ((z : Int) : Int).toNat = z := by omega
        have pa : (0 : Int) ≤ ((z : Int) : Int) := by omega
        have ba : ((z : Int) : Int) < (d.size : Int) := by omega
        have ra : IntKind.i64.wrap ((z : Int) : Int) = ((z : Int) : Int) := by rw [IntKind.wrap_i64]; omega
        have ec : ((h : Int) : Int).toNat = h := by omega
        have pc : (0 : Int) ≤ ((h : Int) : Int) := by omega
        have bc : ((h : Int) : Int) < (d.size : Int) := by omega
        have rc : IntKind.i64.wrap ((h : Int) : Int) = ((h : Int) : Int) := by rw [IntKind.wrap_i64]; omega
        obtain ⟨x38, hx38⟩ : ∃ x, x = d[z]! := ⟨_, rfl⟩
        obtain ⟨y38, hy38⟩ : ∃ x, x = d[h]! := ⟨_, rfl⟩
        have l38a := S1.out.ld R (by have := HS.out; omega) P (z) (by omega)
        have l38b := S1.out.ld R (by have := HS.out; omega) P (h) (by omega)
        rw [← hx38] at l38a
        rw [← hy38] at l38b
        have hc38 := S1.out.cmp HC.out (by have := HS.out; omega) x38 y38
        have hkey : cf x38 y38 < 0 ↔ key d[z]! < key d[h]! := by rw [hx38, hy38]; exact HCF.out _ _
        have HK : Aside _ := hkey
        clear hx38 hy38 hkey
        by_cases hv38 : cf x38 y38 < 0
        · have hd38 : decide (cf x38 y38 < 0) = true := decide_eq_true hv38
          have HL2 : Aside _ := HK.out.1 hv38
          go_wp2_with fail
          go_quiet_grown (first | (go_at_fn g; refine Calls.grown_of (hc38 _ _)))
          have S2 : Aside (SWK enc k w0 blk off d (grow (wr.drewN nq) osq)) := S1.out.grown nq osq
          clear l38a l38b hc38 S1
          generalize grow (wr.drewN nq) osq = w2 at S2 ⊢
          clear nq osq
          go_wp2
          go_roundg (h - i)
          case measure => omega
          case rel => exact ⟨i, h, rfl, by first | rfl | go_num | (congr 1; omega), hmi, by omega, by omega, Nat.le_refl _, S2, HL, (show Aside _ from fun t h3 h4 => by
              have q1 := HX.out h t (by omega) h3 (by omega)
              have q2 := HY.out (mid + m - 1 - t) z (by omega) (by omega) (by omega)
              have q3 := HL2.out
              omega)⟩
        · have hd38 : decide (cf x38 y38 < 0) = false := decide_eq_false hv38
          have HL2 : Aside _ := fun h => hv38 (HK.out.2 h)
          go_wp2_with fail
          go_quiet_grown (first | (go_at_fn g; refine Calls.grown_of (hc38 _ _)))
          have S2 : Aside (SWK enc k w0 blk off d (grow (wr.drewN nq) osq)) := S1.out.grown nq osq
          clear l38a l38b hc38 S1
          generalize grow (wr.drewN nq) osq = w2 at S2 ⊢
          clear nq osq
          go_wp2
          go_roundg (j - (h + 1))
          case measure => omega
          case rel => exact ⟨h + 1, j, by first | rfl | go_num | (congr 1; omega), rfl, by omega, by omega, hjb, Nat.le_refl _, S2, (show Aside _ from fun t h3 h4 => by
              have q1 := HX.out t h (by omega) (by omega) (by omega)
              have q2 := HY.out z (mid + m - 1 - t) (by omega) (by omega) (by omega)
              have q3 := Int.not_lt.1 HL2.out
              omega), HR⟩
      · have hltz : ¬ (i : Int) < (j : Int) := by omega
        obtain rfl : i = j := by omega
        obtain ⟨e, he⟩ : ∃ e : Nat, (e : Int) = (mid : Int) + (m : Int) - (i : Int) := ⟨mid + m - i, by omega⟩
        have hei : e + i = mid + m := by omega
        have PLO : Aside (∀ q r, i ≤ q → q < m → m ≤ r → r < e → key d[r]! < key d[q]!) := cut_lo (lo := lo) (hi := mid) HX.out HY.out (by omega) hmi hjb (by omega) (by omega) (by omega) (by omega) hei HR.out
        have PHI : Aside (∀ q r, a ≤ q → q < i → e ≤ r → r < b → key d[q]! ≤ key d[r]!) := cut_hi (lo := lo) (hi := mid) HX.out HY.out (by omega) hmi hjb (by omega) (by omega) (by omega) (by omega) hei HL.out
        have him : i ≤ m := by omega
        have hai : a ≤ i := by omega
        have himid : i ≤ mid := by omega
        have hme : m ≤ e := by omega
        have heb : e ≤ b := by omega
        have HSZ : Aside (d.size = d0.size) := HS
        have hn2 : b ≤ a + n + 1 := by omega
        clear HL HR HC HCF
        go_upto_region 39 with fail
        rw [← he]
        have HEE : Aside _ := he
        clear he
        have SA := S1
        clear S1
        by_cases hL : mid ≤ i
        · skip
          have f1 : (i : Int) < (m : Int) := by omega
          have f2 : ¬ (m : Int) < (e : Int) := by omega
          have f3 : (a : Int) < (i : Int) := by omega
          have f4 : ¬ (i : Int) < (mid : Int) := by omega
          have f5 : (mid : Int) < (e : Int) := by omega
          have f6 : (e : Int) < (b : Int) := by omega
          have R1 : Aside (Rot i m e d d) := by
            obtain rfl : m = e := by omega
            exact (Rot.none d i m him).2
          obtain ⟨wA, hwA⟩ : ∃ wA : World, wA = wr := ⟨_, rfl⟩
          clear hwA wA
          have S2 := SA
          have PS0 : Aside _ := rot_pieces HX.out HY.out hai him hme heb hei R1.out
          go_upto_region 41 with fail
          have hds1 : Aside (d.size = d.size) := (show Aside _ from rfl)
          have PS : Aside _ := rot_pieces HX.out HY.out hai him hme heb hei R1.out
          have G2 : Aside (Seg key a mid d d) := Seg.refl
          have T2 : Aside (Srt key a mid d) := srt_none PS.out.1 PS.out.2.1 (by omega) hai himid
          have S3 := S2
          have hds2 := hds1
          go_upto_region 43 with fail
          have PS2 : Aside (Srt key mid e d ∧ Srt key e b d) := ⟨PS.out.2.2.1.congr fun t h1 h2 => G2.out.out t (.inr h1), PS.out.2.2.2.congr fun t h1 h2 => G2.out.out t (.inr (by omega))⟩
          have hcall := IH.out mid e b d wr (hds2.out.trans HSZ.out) S3.out (by omega) (by omega) (by rw [hds2.out]; omega) (by omega) PS2.out.1 PS2.out.2
          rw [hds2.out] at hcall
          go_wp2_with (go_at_fn 68; refine hcall.mono ?_; rintro e' w1 ⟨rfl, d3, hG, hT, S4⟩)
          go_end0
          have hfin := merge_parts (key := key) hai him hme heb (show mid = i + (e - m) by omega) HX.out HY.out PLO.out PHI.out R1.out G2.out T2.out hG hT
          exact ⟨rfl, d3, hfin.1, hfin.2, S4⟩
        by_cases hL : a < i ∧ e < b
        · skip
          have f1 : (i : Int) < (m : Int) := by omega
          have f2 : (m : Int) < (e : Int) := by omega
          have f3 : (a : Int) < (i : Int) := by omega
          have f4 : (i : Int) < (mid : Int) := by omega
          have f5 : (mid : Int) < (e : Int) := by omega
          have f6 : (e : Int) < (b : Int) := by omega
          have hcall := rotate k L enc g cb blk off cap i m e d0 d w0 wr R HSZ.out.symm SA.out (by omega) (by omega) (by omega) (by omega)
          go_upto_region 41 with (go_at_fn 91; refine hcall.mono ?_; rintro e' wA ⟨rfl, d1, hR1, hS2⟩)
          have R1 : Aside (Rot i m e d d1) := hR1
          have S2 : Aside (SWK enc k w0 blk off d1 wA) := hS2
          clear hR1 hS2 hcall
          have hds1 : Aside (d1.size = d.size) := R1.out.size
          have PS : Aside _ := rot_pieces HX.out HY.out hai him hme heb hei R1.out
          have hcall := IH.out a i mid d1 wA (hds1.out.trans HSZ.out) S2.out (by omega) (by omega) (by rw [hds1.out]; omega) (by omega) PS.out.1 PS.out.2.1
          rw [hds1.out] at hcall
          go_upto_region 43 with (go_at_fn 68; refine hcall.mono ?_; rintro e' wB ⟨rfl, d2, hG, hT, hS3⟩)
          have G2 : Aside (Seg key a mid d1 d2) := hG
          have T2 : Aside (Srt key a mid d2) := hT
          have S3 : Aside (SWK enc k w0 blk off d2 wB) := hS3
          have hds2 : Aside (d2.size = d.size) := hG.size.trans hds1.out
          clear hG hT hS3 hcall
          have PS2 : Aside (Srt key mid e d2 ∧ Srt key e b d2) := ⟨PS.out.2.2.1.congr fun t h1 h2 => G2.out.out t (.inr h1), PS.out.2.2.2.congr fun t h1 h2 => G2.out.out t (.inr (by omega))⟩
          have hcall := IH.out mid e b d2 wB (hds2.out.trans HSZ.out) S3.out (by omega) (by omega) (by rw [hds2.out]; omega) (by omega) PS2.out.1 PS2.out.2
          rw [hds2.out] at hcall
          go_wp2_with (go_at_fn 68; refine hcall.mono ?_; rintro e' w1 ⟨rfl, d3, hG, hT, S4⟩)
          go_end0
          have hfin := merge_parts (key := key) hai him hme heb (show mid = i + (e - m) by omega) HX.out HY.out PLO.out PHI.out R1.out G2.out T2.out hG hT
          exact ⟨rfl, d3, hfin.1, hfin.2, S4⟩
        by_cases hL : a < i
        · skip
          have f1 : (i : Int) < (m : Int) := by omega
          have f2 : (m : Int) < (e : Int) := by omega
          have f3 : (a : Int) < (i : Int) := by omega
          have f4 : (i : Int) < (mid : Int) := by omega
          have f5 : (mid : Int) < (e : Int) := by omega
          have f6 : ¬ (e : Int) < (b : Int) := by omega
          have hcall := rotate k L enc g cb blk off cap i m e d0 d w0 wr R HSZ.out.symm SA.out (by omega) (by omega) (by omega) (by omega)
          go_upto_region 41 with (go_at_fn 91; refine hcall.mono ?_; rintro e' wA ⟨rfl, d1, hR1, hS2⟩)
          have R1 : Aside (Rot i m e d d1) := hR1
          have S2 : Aside (SWK enc k w0 blk off d1 wA) := hS2
          clear hR1 hS2 hcall
          have hds1 : Aside (d1.size = d.size) := R1.out.size
          have PS : Aside _ := rot_pieces HX.out HY.out hai him hme heb hei R1.out
          have hcall := IH.out a i mid d1 wA (hds1.out.trans HSZ.out) S2.out (by omega) (by omega) (by rw [hds1.out]; omega) (by omega) PS.out.1 PS.out.2.1
          rw [hds1.out] at hcall
          go_upto_region 43 with (go_at_fn 68; refine hcall.mono ?_; rintro e' wB ⟨rfl, d2, hG, hT, hS3⟩)
          have G2 : Aside (Seg key a mid d1 d2) := hG
          have T2 : Aside (Srt key a mid d2) := hT
          have S3 : Aside (SWK enc k w0 blk off d2 wB) := hS3
          have hds2 : Aside (d2.size = d.size) := hG.size.trans hds1.out
          clear hG hT hS3 hcall
          have PS2 : Aside (Srt key mid e d2 ∧ Srt key e b d2) := ⟨PS.out.2.2.1.congr fun t h1 h2 => G2.out.out t (.inr h1), PS.out.2.2.2.congr fun t h1 h2 => G2.out.out t (.inr (by omega))⟩
          have HFIN : Aside (Seg key a b d d2 ∧ Srt key a b d2) := merge_parts (key := key) hai him hme heb (show mid = i + (e - m) by omega) HX.out HY.out PLO.out PHI.out R1.out G2.out T2.out Seg.refl (srt_none PS2.out.1 PS2.out.2 (by omega) (by omega) heb)
          go_wp2
          go_end0
          exact ⟨rfl, d2, HFIN.out.1, HFIN.out.2, S3.out⟩
        by_cases hL : e < b
        · skip
          have f1 : (i : Int) < (m : Int) := by omega
          have f2 : (m : Int) < (e : Int) := by omega
          have f3 : ¬ (a : Int) < (i : Int) := by omega
          have f5 : (mid : Int) < (e : Int) := by omega
          have f6 : (e : Int) < (b : Int) := by omega
          have hcall := rotate k L enc g cb blk off cap i m e d0 d w0 wr R HSZ.out.symm SA.out (by omega) (by omega) (by omega) (by omega)
          go_upto_region 41 with (go_at_fn 91; refine hcall.mono ?_; rintro e' wA ⟨rfl, d1, hR1, hS2⟩)
          have R1 : Aside (Rot i m e d d1) := hR1
          have S2 : Aside (SWK enc k w0 blk off d1 wA) := hS2
          clear hR1 hS2 hcall
          have hds1 : Aside (d1.size = d.size) := R1.out.size
          have PS : Aside _ := rot_pieces HX.out HY.out hai him hme heb hei R1.out
          have G2 : Aside (Seg key a mid d1 d1) := Seg.refl
          have T2 : Aside (Srt key a mid d1) := srt_none PS.out.1 PS.out.2.1 (by omega) hai himid
          have S3 := S2
          have hds2 := hds1
          go_upto_region 43 with fail
          have PS2 : Aside (Srt key mid e d1 ∧ Srt key e b d1) := ⟨PS.out.2.2.1.congr fun t h1 h2 => G2.out.out t (.inr h1), PS.out.2.2.2.congr fun t h1 h2 => G2.out.out t (.inr (by omega))⟩
          have hcall := IH.out mid e b d1 wA (hds2.out.trans HSZ.out) S3.out (by omega) (by omega) (by rw [hds2.out]; omega) (by omega) PS2.out.1 PS2.out.2
          rw [hds2.out] at hcall
          go_wp2_with (go_at_fn 68; refine hcall.mono ?_; rintro e' w1 ⟨rfl, d3, hG, hT, S4⟩)
          go_end0
          have hfin := merge_parts (key := key) hai him hme heb (show mid = i + (e - m) by omega) HX.out HY.out PLO.out PHI.out R1.out G2.out T2.out hG hT
          exact ⟨rfl, d3, hfin.1, hfin.2, S4⟩
        by_cases hL : b ≤ e
        · skip
          have f1 : (i : Int) < (m : Int) := by omega
          have f2 : (m : Int) < (e : Int) := by omega
          have f3 : ¬ (a : Int) < (i : Int) := by omega
          have f5 : (mid : Int) < (e : Int) := by omega
          have f6 : ¬ (e : Int) < (b : Int) := by omega
          have hcall := rotate k L enc g cb blk off cap i m e d0 d w0 wr R HSZ.out.symm SA.out (by omega) (by omega) (by omega) (by omega)
          go_upto_region 41 with (go_at_fn 91; refine hcall.mono ?_; rintro e' wA ⟨rfl, d1, hR1, hS2⟩)
          have R1 : Aside (Rot i m e d d1) := hR1
          have S2 : Aside (SWK enc k w0 blk off d1 wA) := hS2
          clear hR1 hS2 hcall
          have hds1 : Aside (d1.size = d.size) := R1.out.size
          have PS : Aside _ := rot_pieces HX.out HY.out hai him hme heb hei R1.out
          have G2 : Aside (Seg key a mid d1 d1) := Seg.refl
          have T2 : Aside (Srt key a mid d1) := srt_none PS.out.1 PS.out.2.1 (by omega) hai himid
          have S3 := S2
          have hds2 := hds1
          go_upto_region 43 with fail
          have PS2 : Aside (Srt key mid e d1 ∧ Srt key e b d1) := ⟨PS.out.2.2.1.congr fun t h1 h2 => G2.out.out t (.inr h1), PS.out.2.2.2.congr fun t h1 h2 => G2.out.out t (.inr (by omega))⟩
          have HFIN : Aside (Seg key a b d d1 ∧ Srt key a b d1) := merge_parts (key := key) hai him hme heb (show mid = i + (e - m) by omega) HX.out HY.out PLO.out PHI.out R1.out G2.out T2.out Seg.refl (srt_none PS2.out.1 PS2.out.2 (by omega) (by omega) heb)
          go_wp2
          go_end0
          exact ⟨rfl, d1, HFIN.out.1, HFIN.out.2, S3.out⟩
        exfalso; omega
end Go.Proofs.YtdfndbegifdejaaDoorStab

/-! ### SymB -/
/- symMergeCmpFunc, the general case, the middle right of the seam. -/
namespace Go.Proofs.YtdfndbegifdejaaDoorStab
set_option linter.unusedVariables false
set_option linter.unusedSimpArgs false
set_option linter.unusedSectionVars false
open Go Go.Proofs Go.Shelf Go.RowKit Go.Lib Go.Sort
variable {P : Program} {α : Type} [Inhabited α]
set_option maxHeartbeats 4000000 in
set_option maxRecDepth 1000000 in
theorem symB (k : Nat) (L : Lays P k) (enc : α → List Value) (key : α → Int) (cf : α → α → Int) (hcf : ∀ x y, cf x y < 0 ↔ key x < key y) (g : Nat) (cb : Array Value) (eg : ∀ args w, (callFunc g args).run P w = .ok (.enter g args) w) (blk off cap : Nat) (d0 : Array α) (w0 : World)
    (hcmp : CmpLays P g cb enc k cf blk off d0.size w0) (R : RowK enc k w0 blk off d0) (hsz : d0.size < 4611686018427387904) (n a m b : Nat) (d : Array α) (w : World) (IH : Aside (∀ (a m b : Nat) (d : Array α) (w : World), d.size = d0.size → SWK enc k w0 blk off d w → a < m → m < b → b ≤ d.size → b - a ≤ n → Srt key a m d → Srt key m b d → Calls P 68 #[.slice (some ⟨blk, off, none⟩) d.size cap, .int .i64 a, .int .i64 m, .int .i64 b, .func (.func g) #[] cb] w fun e w' =>
      e = .returned (.tuple #[]) ∧ ∃ dk : Array α, Seg key a b d dk ∧ Srt key a b dk ∧ SWK enc k w0 blk off dk w')) (hs : d.size = d0.size) (S : SWK enc k w0 blk off d w) (ham : a < m) (hmb : m < b) (hb : b ≤ d.size) (hn : b - a ≤ n + 1) (hX : Srt key a m d) (hY : Srt key m b d) (h1 : Aside (¬ m = a + 1)) (h2 : Aside (¬ b = m + 1)) (mid : Nat) (HMID : Aside ((mid : Int) = ((a : Int) + (b : Int)) / 2)) (hc : ¬ mid < m) :
    Calls P 68 #[.slice (some ⟨blk, off, none⟩) d.size cap, .int .i64 a, .int .i64 m, .int .i64 b, .func (.func g) #[] cb] w fun e w' =>
      e = .returned (.tuple #[]) ∧ ∃ dk : Array α, Seg key a b d dk ∧ Srt key a b dk ∧ SWK enc k w0 blk off dk w' := by
    have h1z : ((m : Int) - (a : Int) == 1) = false := by rw [beq_eq_false_iff_ne]; have := h1.out; omega
    have h2z : ((b : Int) - (m : Int) == 1) = false := by rw [beq_eq_false_iff_ne]; have := h2.out; omega
    have hb4 : a + 4 ≤ b := by have := h1.out; have := h2.out; omega
    have hmid1 : a + b < 2 * mid + 2 := by have := HMID.out; omega
    have hmid2 : 2 * mid ≤ a + b := by have := HMID.out; omega
    have mixed := L.mixed; have t0 := L.t0; have a0 := L.a0; have z0 := L.z0; have v0 := L.v0; have t3 := L.t3; have a3 := L.a3; have z3 := L.z3; have v3 := L.v3; have t4 := L.t4; have a4 := L.a4; have z4 := L.z4; have v4 := L.v4; have t22 := L.t22; have a22 := L.a22; have z22 := L.z22; have v22 := L.v22; have t35 := L.t35; have a35 := L.a35; have z35 := L.z35; have v35 := L.v35; have aE := L.aE; have zE := L.zE; have t115 := L.t115; have a115 := L.a115; have z115 := L.z115
    have u3 := run_underlying L.t3
    have u115 := run_underlying L.t115
    have FG := L.f68
    have e74 : ∀ args w, (callFunc 91 args).run P w = .ok (.enter 91 args) w := enters_of L.f74 (by kernel_rfl) rfl
    have e68 : ∀ args w, (callFunc 68 args).run P w = .ok (.enter 68 args) w := enters_of L.f68 (by kernel_rfl) rfl
    have HC : Aside _ := hcmp
    have S0 : Aside (SWK enc k w0 blk off d w) := S
    have HX : Aside _ := hX
    have HY : Aside _ := hY
    have HS : Aside (d.size = d0.size) := hs
    have hsz2 : d.size < 4611686018427387904 := by omega
    have HCF : Aside _ := hcf
    clear S hcmp hX hY hs hcf
    go_enter FG, Tryd.ntmps68
    go_upto_region 27 with fail
    rw [← HMID.out]
    
    have hcz : ¬ (mid : Int) < (m : Int) := by omega
    go_wp2_with fail
    skip
    go_loopg [20, 21] (b - a) (fun kx s20 s21 wr => ∃ (i j : Nat), s20 = .int .i64 i ∧ s21 = .int .i64 j ∧ a ≤ i ∧ i ≤ j ∧ j ≤ m ∧ j - i ≤ kx ∧ Aside (SWK enc k w0 blk off d wr) ∧ Aside (∀ t, a ≤ t → t < i → key d[t]! ≤ key d[mid + m - 1 - t]!) ∧ Aside (∀ t, j ≤ t → t < m → key d[mid + m - 1 - t]! < key d[t]!))
    case atStart => exact ⟨a, m, by first | rfl | go_num | (congr 1; omega), by first | rfl | go_num | (congr 1; omega), Nat.le_refl _, by omega, Nat.le_refl _, by omega, S0, (show Aside _ from fun t h1 h2 => by omega), (show Aside _ from fun t h1 h2 => by omega)⟩
    case round =>
      clear S0
      obtain ⟨i, j, rfl, rfl, hmi, hij, hjb, hkx, S1, HL, HR⟩ := hrel
      by_cases hlt : i < j
      · have hltz : (i : Int) < (j : Int) := by omega
        obtain ⟨h, hh⟩ : ∃ h : Nat, (h : Int) = ((i : Int) + (j : Int)) / 2 := ⟨(i + j) / 2, by omega⟩
        have hh1 : i ≤ h := by omega
        have hh2 : h < j := by omega
        go_wp2_with fail
        rw [← hh]
        have HHH : Aside _ := hh
        clear hh
        obtain ⟨z, hz⟩ : ∃ z : Nat, (z : Int) = (mid : Int) + (m : Int) - 1 - (h : Int) := ⟨mid + m - 1 - h, by omega⟩
        have hz1 : z < d.size := by omega
        have hz2 : z + h + 1 = mid + m := by omega
        have raz : IntKind.i64.wrap ((mid : Int) + (m : Int) - 1 - (h : Int)) = (z : Int) := by rw [IntKind.wrap_i64]; omega
        have HZ : Aside _ := hz
        clear hz
        have ea : ((z : Int) : Int).toNat = z := by omega
        have pa : (0 : Int) ≤ ((z : Int) : Int) := by omega
        have ba : ((z : Int) : Int) < (d.size : Int) := by omega
        have ra : IntKind.i64.wrap ((z : Int) : Int) = ((z : Int) : Int) := by rw [IntKind.wrap_i64]; omega
        have ec : ((h : Int) : Int).toNat = h := by omega
        have pc : (0 : Int) ≤ ((h : Int) : Int) := by omega
        have bc : ((h : Int) : Int) < (d.size : Int) := by omega
        have rc : IntKind.i64.wrap ((h : Int) : Int) = ((h : Int) : Int) := by rw [IntKind.wrap_i64]; omega
        obtain ⟨x38, hx38⟩ : ∃ x, x = d[z]! := ⟨_, rfl⟩
        obtain ⟨y38, hy38⟩ : ∃ x, x = d[h]! := ⟨_, rfl⟩
        have l38a := S1.out.ld R (by have := HS.out; omega) P (z) (by omega)
        have l38b := S1.out.ld R (by have := HS.out; omega) P (h) (by omega)
        rw [← hx38] at l38a
        rw [← hy38] at l38b
        have hc38 := S1.out.cmp HC.out (by have := HS.out; omega) x38 y38
        have hkey : cf x38 y38 < 0 ↔ key d[z]! < key d[h]! := by rw [hx38, hy38]; exact HCF.out _ _
        have HK : Aside _ := hkey
        clear hx38 hy38 hkey
        by_cases hv38 : cf x38 y38 < 0
        · have hd38 : decide (cf x38 y38 < 0) = true := decide_eq_true hv38
          have HL2 : Aside _ := HK.out.1 hv38
          go_wp2_with fail
          go_quiet_grown (first | (go_at_fn g; refine Calls.grown_of (hc38 _ _)))
          have S2 : Aside (SWK enc k w0 blk off d (grow (wr.drewN nq) osq)) := S1.out.grown nq osq
          clear l38a l38b hc38 S1
          generalize grow (wr.drewN nq) osq = w2 at S2 ⊢
          clear nq osq
          go_wp2
          go_roundg (h - i)
          case measure => omega
          case rel => exact ⟨i, h, rfl, by first | rfl | go_num | (congr 1; omega), hmi, by omega, by omega, Nat.le_refl _, S2, HL, (show Aside _ from fun t h3 h4 => by
              have q1 := HX.out h t (by omega) h3 (by omega)
              have q2 := HY.out (mid + m - 1 - t) z (by omega) (by omega) (by omega)
              have q3 := HL2.out
              omega)⟩
        · have hd38 : decide (cf x38 y38 < 0) = false := decide_eq_false hv38
          have HL2 : Aside _ := fun h => hv38 (HK.out.2 h)
          go_wp2_with fail
          go_quiet_grown (first | (go_at_fn g; refine Calls.grown_of (hc38 _ _)))
          have S2 : Aside (SWK enc k w0 blk off d (grow (wr.drewN nq) osq)) := S1.out.grown nq osq
          clear l38a l38b hc38 S1
          generalize grow (wr.drewN nq) osq = w2 at S2 ⊢
          clear nq osq
          go_wp2
          go_roundg (j - (h + 1))
          case measure => omega
          case rel => exact ⟨h + 1, j, by first | rfl | go_num | (congr 1; omega), rfl, by omega, by omega, hjb, Nat.le_refl _, S2, (show Aside _ from fun t h3 h4 => by
              have q1 := HX.out t h (by omega) (by omega) (by omega)
              have q2 := HY.out z (mid + m - 1 - t) (by omega) (by omega) (by omega)
              have q3 := Int.not_lt.1 HL2.out
              omega), HR⟩
      · have hltz : ¬ (i : Int) < (j : Int) := by omega
        obtain rfl : i = j := by omega
        obtain ⟨e, he⟩ : ∃ e : Nat, (e : Int) = (mid : Int) + (m : Int) - (i : Int) := ⟨mid + m - i, by omega⟩
        have hei : e + i = mid + m := by omega
        have PLO : Aside (∀ q r, i ≤ q → q < m → m ≤ r → r < e → key d[r]! < key d[q]!) := cut_lo (lo := a) (hi := m) HX.out HY.out (by omega) hmi hjb (by omega) (by omega) (by omega) (by omega) hei HR.out
        have PHI : Aside (∀ q r, a ≤ q → q < i → e ≤ r → r < b → key d[q]! ≤ key d[r]!) := cut_hi (lo := a) (hi := m) HX.out HY.out (by omega) hmi hjb (by omega) (by omega) (by omega) (by omega) hei HL.out
        have him : i ≤ m := by omega
        have hai : a ≤ i := by omega
        have himid : i ≤ mid := by omega
        have hme : m ≤ e := by omega
        have heb : e ≤ b := by omega
        have HSZ : Aside (d.size = d0.size) := HS
        have hn2 : b ≤ a + n + 1 := by omega
        clear HL HR HC HCF
        go_upto_region 39 with fail
        rw [← he]
        have HEE : Aside _ := he
        clear he
        have SA := S1
        clear S1
        by_cases hL : m ≤ i ∧ m < mid
        · skip
          have f1 : ¬ (i : Int) < (m : Int) := by omega
          have f3 : (a : Int) < (i : Int) := by omega
          have f4 : (i : Int) < (mid : Int) := by omega
          have f5 : ¬ (mid : Int) < (e : Int) := by omega
          have R1 : Aside (Rot i m e d d) := by
            obtain rfl : i = m := by omega
            exact (Rot.none d i e hme).1
          obtain ⟨wA, hwA⟩ : ∃ wA : World, wA = wr := ⟨_, rfl⟩
          clear hwA wA
          have S2 := SA
          have PS0 : Aside _ := rot_pieces HX.out HY.out hai him hme heb hei R1.out
          go_upto_region 41 with fail
          have hds1 : Aside (d.size = d.size) := (show Aside _ from rfl)
          have PS : Aside _ := rot_pieces HX.out HY.out hai him hme heb hei R1.out
          have hcall := IH.out a i mid d wr (hds1.out.trans HSZ.out) S2.out (by omega) (by omega) (by rw [hds1.out]; omega) (by omega) PS.out.1 PS.out.2.1
          rw [hds1.out] at hcall
          go_upto_region 43 with (go_at_fn 68; refine hcall.mono ?_; rintro e' wB ⟨rfl, d2, hG, hT, hS3⟩)
          have G2 : Aside (Seg key a mid d d2) := hG
          have T2 : Aside (Srt key a mid d2) := hT
          have S3 : Aside (SWK enc k w0 blk off d2 wB) := hS3
          have hds2 : Aside (d2.size = d.size) := hG.size
          clear hG hT hS3 hcall
          have PS2 : Aside (Srt key mid e d2 ∧ Srt key e b d2) := ⟨PS.out.2.2.1.congr fun t h1 h2 => G2.out.out t (.inr h1), PS.out.2.2.2.congr fun t h1 h2 => G2.out.out t (.inr (by omega))⟩
          have HFIN : Aside (Seg key a b d d2 ∧ Srt key a b d2) := merge_parts (key := key) hai him hme heb (show mid = i + (e - m) by omega) HX.out HY.out PLO.out PHI.out R1.out G2.out T2.out Seg.refl (srt_none PS2.out.1 PS2.out.2 (by omega) (by omega) heb)
          go_wp2
          go_end0
          exact ⟨rfl, d2, HFIN.out.1, HFIN.out.2, S3.out⟩
        by_cases hL : m ≤ i
        · skip
          have f1 : ¬ (i : Int) < (m : Int) := by omega
          have f3 : (a : Int) < (i : Int) := by omega
          have f4 : ¬ (i : Int) < (mid : Int) := by omega
          have f5 : ¬ (mid : Int) < (e : Int) := by omega
          have R1 : Aside (Rot i m e d d) := by
            obtain rfl : i = m := by omega
            exact (Rot.none d i e hme).1
          obtain ⟨wA, hwA⟩ : ∃ wA : World, wA = wr := ⟨_, rfl⟩
          clear hwA wA
          have S2 := SA
          have PS0 : Aside _ := rot_pieces HX.out HY.out hai him hme heb hei R1.out
          go_upto_region 41 with fail
          have hds1 : Aside (d.size = d.size) := (show Aside _ from rfl)
          have PS : Aside _ := rot_pieces HX.out HY.out hai him hme heb hei R1.out
          have G2 : Aside (Seg key a mid d d) := Seg.refl
          have T2 : Aside (Srt key a mid d) := srt_none PS.out.1 PS.out.2.1 (by omega) hai himid
          have S3 := S2
          have hds2 := hds1
          go_upto_region 43 with fail
          have PS2 : Aside (Srt key mid e d ∧ Srt key e b d) := ⟨PS.out.2.2.1.congr fun t h1 h2 => G2.out.out t (.inr h1), PS.out.2.2.2.congr fun t h1 h2 => G2.out.out t (.inr (by omega))⟩
          have HFIN : Aside (Seg key a b d d ∧ Srt key a b d) := merge_parts (key := key) hai him hme heb (show mid = i + (e - m) by omega) HX.out HY.out PLO.out PHI.out R1.out G2.out T2.out Seg.refl (srt_none PS2.out.1 PS2.out.2 (by omega) (by omega) heb)
          go_wp2
          go_end0
          exact ⟨rfl, d, HFIN.out.1, HFIN.out.2, S3.out⟩
        by_cases hL : a < i ∧ e < b
        · skip
          have f1 : (i : Int) < (m : Int) := by omega
          have f2 : (m : Int) < (e : Int) := by omega
          have f3 : (a : Int) < (i : Int) := by omega
          have f4 : (i : Int) < (mid : Int) := by omega
          have f5 : (mid : Int) < (e : Int) := by omega
          have f6 : (e : Int) < (b : Int) := by omega
          have hcall := rotate k L enc g cb blk off cap i m e d0 d w0 wr R HSZ.out.symm SA.out (by omega) (by omega) (by omega) (by omega)
          go_upto_region 41 with (go_at_fn 91; refine hcall.mono ?_; rintro e' wA ⟨rfl, d1, hR1, hS2⟩)
          have R1 : Aside (Rot i m e d d1) := hR1
          have S2 : Aside (SWK enc k w0 blk off d1 wA) := hS2
          clear hR1 hS2 hcall
          have hds1 : Aside (d1.size = d.size) := R1.out.size
          have PS : Aside _ := rot_pieces HX.out HY.out hai him hme heb hei R1.out
          have hcall := IH.out a i mid d1 wA (hds1.out.trans HSZ.out) S2.out (by omega) (by omega) (by rw [hds1.out]; omega) (by omega) PS.out.1 PS.out.2.1
          rw [hds1.out] at hcall
          go_upto_region 43 with (go_at_fn 68; refine hcall.mono ?_; rintro e' wB ⟨rfl, d2, hG, hT, hS3⟩)
          have G2 : Aside (Seg key a mid d1 d2) := hG
          have T2 : Aside (Srt key a mid d2) := hT
          have S3 : Aside (SWK enc k w0 blk off d2 wB) := hS3
          have hds2 : Aside (d2.size = d.size) := hG.size.trans hds1.out
          clear hG hT hS3 hcall
          have PS2 : Aside (Srt key mid e d2 ∧ Srt key e b d2) := ⟨PS.out.2.2.1.congr fun t h1 h2 => G2.out.out t (.inr h1), PS.out.2.2.2.congr fun t h1 h2 => G2.out.out t (.inr (by omega))⟩
          have hcall := IH.out mid e b d2 wB (hds2.out.trans HSZ.out) S3.out (by omega) (by omega) (by rw [hds2.out]; omega) (by omega) PS2.out.1 PS2.out.2
          rw [hds2.out] at hcall
          go_wp2_with (go_at_fn 68; refine hcall.mono ?_; rintro e' w1 ⟨rfl, d3, hG, hT, S4⟩)
          go_end0
          have hfin := merge_parts (key := key) hai him hme heb (show mid = i + (e - m) by omega) HX.out HY.out PLO.out PHI.out R1.out G2.out T2.out hG hT
          exact ⟨rfl, d3, hfin.1, hfin.2, S4⟩
        by_cases hL : e < b
        · skip
          have f1 : (i : Int) < (m : Int) := by omega
          have f2 : (m : Int) < (e : Int) := by omega
          have f3 : ¬ (a : Int) < (i : Int) := by omega
          have f5 : (mid : Int) < (e : Int) := by omega
          have f6 : (e : Int) < (b : Int) := by omega
          have hcall := rotate k L enc g cb blk off cap i m e d0 d w0 wr R HSZ.out.symm SA.out (by omega) (by omega) (by omega) (by omega)
          go_upto_region 41 with (go_at_fn 91; refine hcall.mono ?_; rintro e' wA ⟨rfl, d1, hR1, hS2⟩)
          have R1 : Aside (Rot i m e d d1) := hR1
          have S2 : Aside (SWK enc k w0 blk off d1 wA) := hS2
          clear hR1 hS2 hcall
          have hds1 : Aside (d1.size = d.size) := R1.out.size
          have PS : Aside _ := rot_pieces HX.out HY.out hai him hme heb hei R1.out
          have G2 : Aside (Seg key a mid d1 d1) := Seg.refl
          have T2 : Aside (Srt key a mid d1) := srt_none PS.out.1 PS.out.2.1 (by omega) hai himid
          have S3 := S2
          have hds2 := hds1
          go_upto_region 43 with fail
          have PS2 : Aside (Srt key mid e d1 ∧ Srt key e b d1) := ⟨PS.out.2.2.1.congr fun t h1 h2 => G2.out.out t (.inr h1), PS.out.2.2.2.congr fun t h1 h2 => G2.out.out t (.inr (by omega))⟩
          have hcall := IH.out mid e b d1 wA (hds2.out.trans HSZ.out) S3.out (by omega) (by omega) (by rw [hds2.out]; omega) (by omega) PS2.out.1 PS2.out.2
          rw [hds2.out] at hcall
          go_wp2_with (go_at_fn 68; refine hcall.mono ?_; rintro e' w1 ⟨rfl, d3, hG, hT, S4⟩)
          go_end0
          have hfin := merge_parts (key := key) hai him hme heb (show mid = i + (e - m) by omega) HX.out HY.out PLO.out PHI.out R1.out G2.out T2.out hG hT
          exact ⟨rfl, d3, hfin.1, hfin.2, S4⟩
        by_cases hL : b ≤ e ∧ i ≤ a
        · skip
          have f1 : (i : Int) < (m : Int) := by omega
          have f2 : (m : Int) < (e : Int) := by omega
          have f3 : ¬ (a : Int) < (i : Int) := by omega
          have f5 : (mid : Int) < (e : Int) := by omega
          have f6 : ¬ (e : Int) < (b : Int) := by omega
          have hcall := rotate k L enc g cb blk off cap i m e d0 d w0 wr R HSZ.out.symm SA.out (by omega) (by omega) (by omega) (by omega)
          go_upto_region 41 with (go_at_fn 91; refine hcall.mono ?_; rintro e' wA ⟨rfl, d1, hR1, hS2⟩)
          have R1 : Aside (Rot i m e d d1) := hR1
          have S2 : Aside (SWK enc k w0 blk off d1 wA) := hS2
          clear hR1 hS2 hcall
          have hds1 : Aside (d1.size = d.size) := R1.out.size
          have PS : Aside _ := rot_pieces HX.out HY.out hai him hme heb hei R1.out
          have G2 : Aside (Seg key a mid d1 d1) := Seg.refl
          have T2 : Aside (Srt key a mid d1) := srt_none PS.out.1 PS.out.2.1 (by omega) hai himid
          have S3 := S2
          have hds2 := hds1
          go_upto_region 43 with fail
          have PS2 : Aside (Srt key mid e d1 ∧ Srt key e b d1) := ⟨PS.out.2.2.1.congr fun t h1 h2 => G2.out.out t (.inr h1), PS.out.2.2.2.congr fun t h1 h2 => G2.out.out t (.inr (by omega))⟩
          have HFIN : Aside (Seg key a b d d1 ∧ Srt key a b d1) := merge_parts (key := key) hai him hme heb (show mid = i + (e - m) by omega) HX.out HY.out PLO.out PHI.out R1.out G2.out T2.out Seg.refl (srt_none PS2.out.1 PS2.out.2 (by omega) (by omega) heb)
          go_wp2
          go_end0
          exact ⟨rfl, d1, HFIN.out.1, HFIN.out.2, S3.out⟩
        exfalso; omega
end Go.Proofs.YtdfndbegifdejaaDoorStab

/-! ### SymR -/
/- symMergeCmpFunc, whole. -/
namespace Go.Proofs.YtdfndbegifdejaaDoorStab
set_option linter.unusedVariables false
set_option linter.unusedSimpArgs false
set_option linter.unusedSectionVars false
open Go Go.Proofs Go.Shelf Go.RowKit Go.Lib Go.Sort
variable {P : Program} {α : Type} [Inhabited α]
set_option maxHeartbeats 4000000 in
set_option maxRecDepth 1000000 in
theorem symMerge (k : Nat) (L : Lays P k) (enc : α → List Value) (key : α → Int) (cf : α → α → Int) (hcf : ∀ x y, cf x y < 0 ↔ key x < key y) (g : Nat) (cb : Array Value) (eg : ∀ args w, (callFunc g args).run P w = .ok (.enter g args) w) (blk off cap : Nat) (d0 : Array α) (w0 : World)
    (hcmp : CmpLays P g cb enc k cf blk off d0.size w0) (R : RowK enc k w0 blk off d0) (hsz : d0.size < 4611686018427387904) : ∀ (n : Nat), ∀ (a m b : Nat) (d : Array α) (w : World), d.size = d0.size → SWK enc k w0 blk off d w → a < m → m < b → b ≤ d.size → b - a ≤ n → Srt key a m d → Srt key m b d → Calls P 68 #[.slice (some ⟨blk, off, none⟩) d.size cap, .int .i64 a, .int .i64 m, .int .i64 b, .func (.func g) #[] cb] w fun e w' =>
      e = .returned (.tuple #[]) ∧ ∃ dk : Array α, Seg key a b d dk ∧ Srt key a b dk ∧ SWK enc k w0 blk off dk w'
  | 0, a, m, b, d, w, hs, S, ham, hmb, hb, hn, hX, hY => absurd hn (by omega)
  | n + 1, a, m, b, d, w, hs, S, ham, hmb, hb, hn, hX, hY => by
    by_cases h1 : m = a + 1
    · exact symL k L enc key cf hcf g cb eg blk off cap d0 w0 hcmp R hsz a m b d w hs S ham hmb hb hX hY h1
    by_cases h2 : b = m + 1
    · exact symO k L enc key cf hcf g cb eg blk off cap d0 w0 hcmp R hsz a m b d w hs S ham hmb hb hX hY h1 h2
    have hmid : (((a + b) / 2 : Nat) : Int) = ((a : Int) + (b : Int)) / 2 := by omega
    have IH := symMerge k L enc key cf hcf g cb eg blk off cap d0 w0 hcmp R hsz n
    by_cases hc : (a + b) / 2 < m
    · exact symA k L enc key cf hcf g cb eg blk off cap d0 w0 hcmp R hsz n a m b d w IH hs S ham hmb hb hn hX hY h1 h2 _ hmid hc
    · exact symB k L enc key cf hcf g cb eg blk off cap d0 w0 hcmp R hsz n a m b d w IH hs S ham hmb hb hn hX hY h1 h2 _ hmid hc

end Go.Proofs.YtdfndbegifdejaaDoorStab

/-! ### StabR -/
/- The library's stable sort at a slice of structs: stableCmpFunc, SortStableFunc, over the contracts of the insertion sort and of the merge. -/
namespace Go.Proofs.YtdfndbegifdejaaDoorStab
set_option linter.unusedVariables false
set_option linter.unusedSimpArgs false
set_option linter.unusedSectionVars false
open Go Go.Proofs Go.Shelf Go.RowKit Go.Lib Go.Sort
variable {P : Program} {α : Type} [Inhabited α]

/-- What the insertion sort, and the merge, come to. -/
def InsC (P : Program) (k : Nat) (enc : α → List Value) (key : α → Int) (g : Nat) (cb : Array Value) (blk off cap sz : Nat) (w0 : World) : Prop :=
  ∀ (a b : Nat) (d : Array α) (w : World), d.size = sz → SWK enc k w0 blk off d w → a ≤ b → b ≤ d.size →
    Calls P 67 #[.slice (some ⟨blk, off, none⟩) d.size cap, .int .i64 a, .int .i64 b, .func (.func g) #[] cb] w fun e w' =>
      e = .returned (.tuple #[]) ∧ ∃ dk : Array α, Seg key a b d dk ∧ Srt key a b dk ∧ SWK enc k w0 blk off dk w'
def SymC (P : Program) (k : Nat) (enc : α → List Value) (key : α → Int) (g : Nat) (cb : Array Value) (blk off cap sz : Nat) (w0 : World) : Prop :=
  ∀ (a m b : Nat) (d : Array α) (w : World), d.size = sz → SWK enc k w0 blk off d w → a < m → m < b → b ≤ d.size → Srt key a m d → Srt key m b d →
    Calls P 68 #[.slice (some ⟨blk, off, none⟩) d.size cap, .int .i64 a, .int .i64 m, .int .i64 b, .func (.func g) #[] cb] w fun e w' =>
      e = .returned (.tuple #[]) ∧ ∃ dk : Array α, Seg key a b d dk ∧ Srt key a b dk ∧ SWK enc k w0 blk off dk w'

set_option maxHeartbeats 4000000 in
set_option maxRecDepth 1000000 in
theorem stable (k : Nat) (L : Lays P k) (enc : α → List Value) (key : α → Int) (g : Nat) (cb : Array Value) (blk off cap n : Nat) (d : Array α) (w0 w : World)
    (hI : Aside (InsC P k enc key g cb blk off cap d.size w0)) (hM : Aside (SymC P k enc key g cb blk off cap d.size w0)) (hn : n = d.size) (hsz : n < 140737488351233) (S : SWK enc k w0 blk off d w) :
    Calls P 59 #[.slice (some ⟨blk, off, none⟩) d.size cap, .int .i64 n, .func (.func g) #[] cb] w fun e w' =>
      e = .returned (.tuple #[]) ∧ ∃ dk : Array α, Seg key 0 n d dk ∧ Srt key 0 n dk ∧ SWK enc k w0 blk off dk w' := by
  have mixed := L.mixed; have t0 := L.t0; have a0 := L.a0; have z0 := L.z0; have v0 := L.v0; have t3 := L.t3; have a3 := L.a3; have z3 := L.z3; have v3 := L.v3; have t4 := L.t4; have a4 := L.a4; have z4 := L.z4; have v4 := L.v4; have t22 := L.t22; have a22 := L.a22; have z22 := L.z22; have v22 := L.v22; have t35 := L.t35; have a35 := L.a35; have z35 := L.z35; have v35 := L.v35; have aE := L.aE; have zE := L.zE
  have FG := L.f59
  have e67 : ∀ args w, (callFunc 67 args).run P w = .ok (.enter 67 args) w := enters_of L.f67 (by kernel_rfl) rfl
  have e68 : ∀ args w, (callFunc 68 args).run P w = .ok (.enter 68 args) w := enters_of L.f68 (by kernel_rfl) rfl
  have S0 : Aside (SWK enc k w0 blk off d w) := S
  have HN : Aside (n = d.size) := hn
  clear S L hn
  go_enter FG, Tryd.ntmps59
  go_wp2
  go_loopg [7, 8] n (fun kx s7 s8 wr => ∃ (a : Nat) (dk : Array α), s7 = .int .i64 a ∧ s8 = .int .i64 ((a : Int) + 20) ∧ a ≤ n ∧ n - a ≤ kx ∧ Aside (dk.size = d.size) ∧ Aside (SWK enc k w0 blk off dk wr) ∧ Aside (Seg key 0 n d dk) ∧ Aside (Ini key 20 a dk))
  case atStart => exact ⟨0, d, rfl, rfl, Nat.zero_le _, by omega, (show Aside _ from rfl), S0, (show Aside _ from Seg.refl), (show Aside _ from Ini.start)⟩
  case round =>
    clear S0
    obtain ⟨a, dk, rfl, rfl, ha, hkx, hds, S1, HG, HI⟩ := hrel
    by_cases hlt : a + 20 ≤ n
    · have hltz : (a : Int) + 20 ≤ (n : Int) := by omega
      have hcall := hI.out a (a + 20) dk wr hds.out S1.out (by omega) (by rw [hds.out, ← HN.out]; exact hlt)
      rw [hds.out, show ((a + 20 : Nat) : Int) = (a : Int) + 20 from by omega] at hcall
      go_wp2_with (go_at_fn 67; refine hcall.mono ?_; rintro e' w1 ⟨rfl, d2, hG, hT, S2⟩)
      go_roundg (n - (a + 20))
      case measure => omega
      case rel =>
        exact ⟨a + 20, d2, by first | rfl | go_num | (congr 1; omega), by first | rfl | go_num | (congr 1; omega), hlt, Nat.le_refl _, (show Aside _ from hG.size.trans hds.out), S2,
          (show Aside _ from HG.out.trans (hG.widen 0 n (Nat.zero_le _) (by omega) hlt)), (show Aside _ from HI.out.step (by omega) hG hT)⟩
    · have hltz : ¬ (a : Int) + 20 ≤ (n : Int) := by omega
      have hcall := hI.out a n dk wr hds.out S1.out ha (by rw [hds.out, ← HN.out]; exact Nat.le_refl _)
      rw [hds.out] at hcall
      go_wp2_with (go_at_fn 67; refine hcall.mono ?_; rintro e' w1 ⟨rfl, d1, hG, hT, hS⟩)
      have S2 : Aside (SWK enc k w0 blk off d1 w1) := hS
      have HG1 : Aside (Seg key 0 n d d1) := HG.out.trans (hG.widen 0 n (Nat.zero_le _) ha (Nat.le_refl _))
      have HB1 : Aside (Blk key 20 n d1) := HI.out.fin (by omega) ha (by omega) hG hT
      have hds1 : Aside (d1.size = d.size) := hG.size.trans hds.out
      clear hG hT hS hcall HG HI S1 hds hlt hltz
      go_wp2
      go_loopg [6, 7, 8, 9] n (fun kx s6 s7 s8 s9 wr => ∃ (bs : Nat) (dk : Array α), s6 = .int .i64 bs ∧ 20 ≤ bs ∧ bs ≤ 2 * n + 20 ∧ n - bs ≤ kx ∧ Aside (dk.size = d.size) ∧ Aside (SWK enc k w0 blk off dk wr) ∧ Aside (Seg key 0 n d dk) ∧ Aside (Blk key bs n dk))
      case atStart => exact ⟨20, d1, rfl, Nat.le_refl _, by omega, by omega, hds1, S2, HG1, HB1⟩
      case round =>
        clear S2 HG1 HB1 hds1
        obtain ⟨bs, d2, rfl, hbs, hbn, hkx2, hds, S1, HG, HB⟩ := hrel
        obtain ⟨wo, rfl⟩ : ∃ wo : World, wo = wr := ⟨_, rfl⟩
        by_cases hlt : bs < n
        · have hltz : (bs : Int) < (n : Int) := by omega
          go_wp2
          go_loopg [7, 8] n (fun kx s7 s8 wr => ∃ (a : Nat) (dk : Array α), s7 = .int .i64 a ∧ s8 = .int .i64 ((a : Int) + 2 * (bs : Int)) ∧ a ≤ n ∧ n - a ≤ kx ∧ Aside (dk.size = d.size) ∧ Aside (SWK enc k w0 blk off dk wr) ∧ Aside (Seg key 0 n d dk) ∧ Aside (Mgd key bs n a dk))
          case atStart => exact ⟨0, d2, rfl, by first | rfl | go_num | (congr 1; omega), Nat.zero_le _, by omega, hds, S1, HG, (show Aside _ from Mgd.start HB.out)⟩
          case round =>
            clear S1 HG HB hds
            obtain ⟨a, dk, rfl, rfl, ha, hkx3, hds, S1, HG, HM⟩ := hrel
            by_cases hle : a + 2 * bs ≤ n
            · have hlez : (a : Int) + 2 * (bs : Int) ≤ (n : Int) := by omega
              have hp := HM.out.pre hle
              have hcall := hM.out a (a + bs) (a + 2 * bs) dk wr hds.out S1.out (by omega) (by omega) (by rw [hds.out, ← HN.out]; exact hle) hp.1 hp.2
              rw [hds.out, show ((a + bs : Nat) : Int) = (a : Int) + (bs : Int) from by omega, show ((a + 2 * bs : Nat) : Int) = (a : Int) + 2 * (bs : Int) from by omega] at hcall
              clear hp
              go_wp2_with (go_at_fn 68; refine hcall.mono ?_; rintro e' w1 ⟨rfl, d3, hG, hT, S2⟩)
              go_roundg (n - (a + 2 * bs))
              case measure => omega
              case rel =>
                exact ⟨a + 2 * bs, d3, by first | rfl | go_num | (congr 1; omega), by first | rfl | go_num | (congr 1; omega), hle, Nat.le_refl _, (show Aside _ from hG.size.trans hds.out), S2,
                  (show Aside _ from HG.out.trans (hG.widen 0 n (Nat.zero_le _) (by omega) hle)), (show Aside _ from HM.out.step (by omega) hG hT)⟩
            · have hlez : ¬ (a : Int) + 2 * (bs : Int) ≤ (n : Int) := by omega
              by_cases hm : a + bs < n
              · have hmz : (a : Int) + (bs : Int) < (n : Int) := by omega
                have hp := HM.out.pre_last hm (by omega)
                have hcall := hM.out a (a + bs) n dk wr hds.out S1.out (by omega) hm (by rw [hds.out, ← HN.out]; exact Nat.le_refl _) hp.1 hp.2
                rw [hds.out, show ((a + bs : Nat) : Int) = (a : Int) + (bs : Int) from by omega] at hcall
                clear hp
                go_wp2_with (go_at_fn 68; refine hcall.mono ?_; rintro e' w1 ⟨rfl, d3, hG, hT, S2⟩)
                go_roundg (n - (bs * 2))
                case measure => omega
                case rel =>
                  exact ⟨bs * 2, d3, by first | rfl | go_num | (congr 1; omega), by omega, by omega, Nat.le_refl _, (show Aside _ from hG.size.trans hds.out), S2,
                    (show Aside _ from HG.out.trans (hG.widen 0 n (Nat.zero_le _) (by omega) (Nat.le_refl _))), (show Aside _ from HM.out.fin (by omega) ha (by omega) hG hT)⟩
              · have hmz : ¬ (a : Int) + (bs : Int) < (n : Int) := by omega
                have HB2 : Aside (Blk key (bs * 2) n dk) := HM.out.fin_none (by omega) ha (by omega)
                go_wp2
                go_roundg (n - (bs * 2))
                case measure => omega
                case rel =>
                  exact ⟨bs * 2, dk, by first | rfl | go_num | (congr 1; omega), by omega, by omega, Nat.le_refl _, hds, S1, HG, HB2⟩
        · have hltz : ¬ (bs : Int) < (n : Int) := by omega
          go_wp2
          go_end0
          exact ⟨rfl, d2, HG.out, HB.out.whole (by omega), S1.out⟩

set_option maxHeartbeats 4000000 in
set_option maxRecDepth 1000000 in
theorem sortStable (k : Nat) (L : Lays P k) (enc : α → List Value) (key : α → Int) (g : Nat) (cb : Array Value) (blk off cap : Nat) (d : Array α) (w0 w : World)
    (hI : Aside (InsC P k enc key g cb blk off cap d.size w0)) (hM : Aside (SymC P k enc key g cb blk off cap d.size w0)) (hsz : d.size < 140737488351233) (S : SWK enc k w0 blk off d w) :
    Calls P 43 #[.slice (some ⟨blk, off, none⟩) d.size cap, .func (.func g) #[] cb] w fun e w' =>
      e = .returned (.tuple #[]) ∧ ∃ dk : Array α, Seg key 0 d.size d dk ∧ Srt key 0 d.size dk ∧ SWK enc k w0 blk off dk w' := by
  have mixed := L.mixed; have t0 := L.t0; have a0 := L.a0; have z0 := L.z0; have v0 := L.v0; have t3 := L.t3; have a3 := L.a3; have z3 := L.z3; have v3 := L.v3; have t22 := L.t22; have a22 := L.a22; have z22 := L.z22; have v22 := L.v22; have t35 := L.t35; have a35 := L.a35; have z35 := L.z35; have v35 := L.v35
  have FG := L.f40
  have e59 : ∀ args w, (callFunc 59 args).run P w = .ok (.enter 59 args) w := enters_of L.f59 (by kernel_rfl) rfl
  have hcall := stable k L enc key g cb blk off cap d.size d w0 w hI hM rfl hsz S
  clear S L
  go_enter FG, Tryd.ntmps43
  go_wp2_with (go_at_fn 59; refine hcall.mono ?_; rintro e' w1 ⟨rfl, d3, hG, hT, S2⟩)
  go_end0
  exact ⟨rfl, d3, hG, hT, S2⟩
end Go.Proofs.YtdfndbegifdejaaDoorStab
