/- The library's stable sort at a slice of structs: stableCmpFunc, SortStableFunc, over the contracts of the insertion sort and of the merge. -/
import Derived.Test.YtdfndbegifdejaaSymR
import Derived.Test.YtdfndbegifdejaaStabQ
namespace Go.Proofs.YtdfndbegifdejaaStab
set_option linter.unusedVariables false
set_option linter.unusedSimpArgs false
set_option linter.unusedSectionVars false
open Go Go.Proofs Go.Shelf Go.RowKit Go.Lib Go.Sort
variable {P : Program} {α : Type} [Inhabited α]

/-- What the insertion sort, and the merge, come to. -/
def InsC (P : Program) (k : Nat) (enc : α → List Value) (key : α → Int) (g : Nat) (cb : Array Value) (blk off cap sz : Nat) (w0 : World) : Prop :=
  ∀ (a b : Nat) (d : Array α) (w : World), d.size = sz → SWK enc k w0 blk off d w → a ≤ b → b ≤ d.size →
    Calls P 67 #[.slice (some ⟨blk, off, none⟩) d.size cap, .int .i64 a, .int .i64 b, .func (.func g) #[] cb] w fun e w' =>
      e = .returned (.tuple #[]) ∧ ∃ dk : Array α, Seg key a b d dk ∧ Srt key a b dk ∧ SWK enc k w0 blk off dk w'
def SymC (P : Program) (k : Nat) (enc : α → List Value) (key : α → Int) (g : Nat) (cb : Array Value) (blk off cap sz : Nat) (w0 : World) : Prop :=
  ∀ (a m b : Nat) (d : Array α) (w : World), d.size = sz → SWK enc k w0 blk off d w → a < m → m < b → b ≤ d.size → Srt key a m d → Srt key m b d →
    Calls P 68 #[.slice (some ⟨blk, off, none⟩) d.size cap, .int .i64 a, .int .i64 m, .int .i64 b, .func (.func g) #[] cb] w fun e w' =>
      e = .returned (.tuple #[]) ∧ ∃ dk : Array α, Seg key a b d dk ∧ Srt key a b dk ∧ SWK enc k w0 blk off dk w'

set_option maxHeartbeats 4000000 in
set_option maxRecDepth 1000000 in
theorem stable (k : Nat) (L : Lays P k) (enc : α → List Value) (key : α → Int) (g : Nat) (cb : Array Value) (blk off cap n : Nat) (d : Array α) (w0 w : World)
    (hI : Aside (InsC P k enc key g cb blk off cap d.size w0)) (hM : Aside (SymC P k enc key g cb blk off cap d.size w0)) (hn : n = d.size) (hsz : n < 140737488351233) (S : SWK enc k w0 blk off d w) :
    Calls P 59 #[.slice (some ⟨blk, off, none⟩) d.size cap, .int .i64 n, .func (.func g) #[] cb] w fun e w' =>
      e = .returned (.tuple #[]) ∧ ∃ dk : Array α, Seg key 0 n d dk ∧ Srt key 0 n dk ∧ SWK enc k w0 blk off dk w' := by
  have mixed := L.mixed; have t0 := L.t0; have a0 := L.a0; have z0 := L.z0; have v0 := L.v0; have t3 := L.t3; have a3 := L.a3; have z3 := L.z3; have v3 := L.v3; have t4 := L.t4; have a4 := L.a4; have z4 := L.z4; have v4 := L.v4; have t22 := L.t22; have a22 := L.a22; have z22 := L.z22; have v22 := L.v22; have t35 := L.t35; have a35 := L.a35; have z35 := L.z35; have v35 := L.v35; have aE := L.aE; have zE := L.zE
  have FG := L.f59
  have e67 : ∀ args w, (callFunc 67 args).run P w = .ok (.enter 67 args) w := enters_of L.f67 (by kernel_rfl) rfl
  have e68 : ∀ args w, (callFunc 68 args).run P w = .ok (.enter 68 args) w := enters_of L.f68 (by kernel_rfl) rfl
  have S0 : Aside (SWK enc k w0 blk off d w) := S
  have HN : Aside (n = d.size) := hn
  clear S L hn
  go_enter FG, Try.ntmps59
  go_wp2
  go_loopg [7, 8] n (fun kx s7 s8 wr => ∃ (a : Nat) (dk : Array α), s7 = .int .i64 a ∧ s8 = .int .i64 ((a : Int) + 20) ∧ a ≤ n ∧ n - a ≤ kx ∧ Aside (dk.size = d.size) ∧ Aside (SWK enc k w0 blk off dk wr) ∧ Aside (Seg key 0 n d dk) ∧ Aside (Ini key 20 a dk))
  case atStart => exact ⟨0, d, rfl, rfl, Nat.zero_le _, by omega, (show Aside _ from rfl), S0, (show Aside _ from Seg.refl), (show Aside _ from Ini.start)⟩
  case round =>
    clear S0
    obtain ⟨a, dk, rfl, rfl, ha, hkx, hds, S1, HG, HI⟩ := hrel
    by_cases hlt : a + 20 ≤ n
    · have hltz : (a : Int) + 20 ≤ (n : Int) := by omega
      have hcall := hI.out a (a + 20) dk wr hds.out S1.out (by omega) (by rw [hds.out, ← HN.out]; exact hlt)
      rw [hds.out, show ((a + 20 : Nat) : Int) = (a : Int) + 20 from by omega] at hcall
      go_wp2_with (go_at_fn 67; refine hcall.mono ?_; rintro e' w1 ⟨rfl, d2, hG, hT, S2⟩)
      go_roundg (n - (a + 20))
      case measure => omega
      case rel =>
        exact ⟨a + 20, d2, by first | rfl | go_num | (congr 1; omega), by first | rfl | go_num | (congr 1; omega), hlt, Nat.le_refl _, (show Aside _ from hG.size.trans hds.out), S2,
          (show Aside _ from HG.out.trans (hG.widen 0 n (Nat.zero_le _) (by omega) hlt)), (show Aside _ from HI.out.step (by omega) hG hT)⟩
    · have hltz : ¬ (a : Int) + 20 ≤ (n : Int) := by omega
      have hcall := hI.out a n dk wr hds.out S1.out ha (by rw [hds.out, ← HN.out]; exact Nat.le_refl _)
      rw [hds.out] at hcall
      go_wp2_with (go_at_fn 67; refine hcall.mono ?_; rintro e' w1 ⟨rfl, d1, hG, hT, hS⟩)
      have S2 : Aside (SWK enc k w0 blk off d1 w1) := hS
      have HG1 : Aside (Seg key 0 n d d1) := HG.out.trans (hG.widen 0 n (Nat.zero_le _) ha (Nat.le_refl _))
      have HB1 : Aside (Blk key 20 n d1) := HI.out.fin (by omega) ha (by omega) hG hT
      have hds1 : Aside (d1.size = d.size) := hG.size.trans hds.out
      clear hG hT hS hcall HG HI S1 hds hlt hltz
      go_wp2
      go_loopg [6, 7, 8, 9] n (fun kx s6 s7 s8 s9 wr => ∃ (bs : Nat) (dk : Array α), s6 = .int .i64 bs ∧ 20 ≤ bs ∧ bs ≤ 2 * n + 20 ∧ n - bs ≤ kx ∧ Aside (dk.size = d.size) ∧ Aside (SWK enc k w0 blk off dk wr) ∧ Aside (Seg key 0 n d dk) ∧ Aside (Blk key bs n dk))
      case atStart => exact ⟨20, d1, rfl, Nat.le_refl _, by omega, by omega, hds1, S2, HG1, HB1⟩
      case round =>
        clear S2 HG1 HB1 hds1
        obtain ⟨bs, d2, rfl, hbs, hbn, hkx2, hds, S1, HG, HB⟩ := hrel
        obtain ⟨wo, rfl⟩ : ∃ wo : World, wo = wr := ⟨_, rfl⟩
        by_cases hlt : bs < n
        · have hltz : (bs : Int) < (n : Int) := by omega
          go_wp2
          go_loopg [7, 8] n (fun kx s7 s8 wr => ∃ (a : Nat) (dk : Array α), s7 = .int .i64 a ∧ s8 = .int .i64 ((a : Int) + 2 * (bs : Int)) ∧ a ≤ n ∧ n - a ≤ kx ∧ Aside (dk.size = d.size) ∧ Aside (SWK enc k w0 blk off dk wr) ∧ Aside (Seg key 0 n d dk) ∧ Aside (Mgd key bs n a dk))
          case atStart => exact ⟨0, d2, rfl, by first | rfl | go_num | (congr 1; omega), Nat.zero_le _, by omega, hds, S1, HG, (show Aside _ from Mgd.start HB.out)⟩
          case round =>
            clear S1 HG HB hds
            obtain ⟨a, dk, rfl, rfl, ha, hkx3, hds, S1, HG, HM⟩ := hrel
            by_cases hle : a + 2 * bs ≤ n
            · have hlez : (a : Int) + 2 * (bs : Int) ≤ (n : Int) := by omega
              have hp := HM.out.pre hle
              have hcall := hM.out a (a + bs) (a + 2 * bs) dk wr hds.out S1.out (by omega) (by omega) (by rw [hds.out, ← HN.out]; exact hle) hp.1 hp.2
              rw [hds.out, show ((a + bs : Nat) : Int) = (a : Int) + (bs : Int) from by omega, show ((a + 2 * bs : Nat) : Int) = (a : Int) + 2 * (bs : Int) from by omega] at hcall
              clear hp
              go_wp2_with (go_at_fn 68; refine hcall.mono ?_; rintro e' w1 ⟨rfl, d3, hG, hT, S2⟩)
              go_roundg (n - (a + 2 * bs))
              case measure => omega
              case rel =>
                exact ⟨a + 2 * bs, d3, by first | rfl | go_num | (congr 1; omega), by first | rfl | go_num | (congr 1; omega), hle, Nat.le_refl _, (show Aside _ from hG.size.trans hds.out), S2,
                  (show Aside _ from HG.out.trans (hG.widen 0 n (Nat.zero_le _) (by omega) hle)), (show Aside _ from HM.out.step (by omega) hG hT)⟩
            · have hlez : ¬ (a : Int) + 2 * (bs : Int) ≤ (n : Int) := by omega
              by_cases hm : a + bs < n
              · have hmz : (a : Int) + (bs : Int) < (n : Int) := by omega
                have hp := HM.out.pre_last hm (by omega)
                have hcall := hM.out a (a + bs) n dk wr hds.out S1.out (by omega) hm (by rw [hds.out, ← HN.out]; exact Nat.le_refl _) hp.1 hp.2
                rw [hds.out, show ((a + bs : Nat) : Int) = (a : Int) + (bs : Int) from by omega] at hcall
                clear hp
                go_wp2_with (go_at_fn 68; refine hcall.mono ?_; rintro e' w1 ⟨rfl, d3, hG, hT, S2⟩)
                go_roundg (n - (bs * 2))
                case measure => omega
                case rel =>
                  exact ⟨bs * 2, d3, by first | rfl | go_num | (congr 1; omega), by omega, by omega, Nat.le_refl _, (show Aside _ from hG.size.trans hds.out), S2,
                    (show Aside _ from HG.out.trans (hG.widen 0 n (Nat.zero_le _) (by omega) (Nat.le_refl _))), (show Aside _ from HM.out.fin (by omega) ha (by omega) hG hT)⟩
              · have hmz : ¬ (a : Int) + (bs : Int) < (n : Int) := by omega
                have HB2 : Aside (Blk key (bs * 2) n dk) := HM.out.fin_none (by omega) ha (by omega)
                go_wp2
                go_roundg (n - (bs * 2))
                case measure => omega
                case rel =>
                  exact ⟨bs * 2, dk, by first | rfl | go_num | (congr 1; omega), by omega, by omega, Nat.le_refl _, hds, S1, HG, HB2⟩
        · have hltz : ¬ (bs : Int) < (n : Int) := by omega
          go_wp2
          go_end0
          exact ⟨rfl, d2, HG.out, HB.out.whole (by omega), S1.out⟩

set_option maxHeartbeats 4000000 in
set_option maxRecDepth 1000000 in
theorem sortStable (k : Nat) (L : Lays P k) (enc : α → List Value) (key : α → Int) (g : Nat) (cb : Array Value) (blk off cap : Nat) (d : Array α) (w0 w : World)
    (hI : Aside (InsC P k enc key g cb blk off cap d.size w0)) (hM : Aside (SymC P k enc key g cb blk off cap d.size w0)) (hsz : d.size < 140737488351233) (S : SWK enc k w0 blk off d w) :
    Calls P 40 #[.slice (some ⟨blk, off, none⟩) d.size cap, .func (.func g) #[] cb] w fun e w' =>
      e = .returned (.tuple #[]) ∧ ∃ dk : Array α, Seg key 0 d.size d dk ∧ Srt key 0 d.size dk ∧ SWK enc k w0 blk off dk w' := by
  have mixed := L.mixed; have t0 := L.t0; have a0 := L.a0; have z0 := L.z0; have v0 := L.v0; have t3 := L.t3; have a3 := L.a3; have z3 := L.z3; have v3 := L.v3; have t22 := L.t22; have a22 := L.a22; have z22 := L.z22; have v22 := L.v22; have t35 := L.t35; have a35 := L.a35; have z35 := L.z35; have v35 := L.v35
  have FG := L.f40
  have e59 : ∀ args w, (callFunc 59 args).run P w = .ok (.enter 59 args) w := enters_of L.f59 (by kernel_rfl) rfl
  have hcall := stable k L enc key g cb blk off cap d.size d w0 w hI hM rfl hsz S
  clear S L
  go_enter FG, Try.ntmps40
  go_wp2_with (go_at_fn 59; refine hcall.mono ?_; rintro e' w1 ⟨rfl, d3, hG, hT, S2⟩)
  go_end0
  exact ⟨rfl, d3, hG, hT, S2⟩
end Go.Proofs.YtdfndbegifdejaaStab
