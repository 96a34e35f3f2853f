/- symMergeCmpFunc, whole. -/
import Derived.Test.YtdfndbegifdejaaRotR
import Derived.Test.YtdfndbegifdejaaSymQ
import Derived.Test.YtdfndbegifdejaaSymL
import Derived.Test.YtdfndbegifdejaaSymO
import Derived.Test.YtdfndbegifdejaaSymA
import Derived.Test.YtdfndbegifdejaaSymB

namespace Go.Proofs.YtdfndbegifdejaaStab
set_option linter.unusedVariables false
set_option linter.unusedSimpArgs false
set_option linter.unusedSectionVars false
open Go Go.Proofs Go.Shelf Go.RowKit Go.Lib Go.Sort
variable {P : Program} {α : Type} [Inhabited α]
set_option maxHeartbeats 4000000 in
set_option maxRecDepth 1000000 in
theorem symMerge (k : Nat) (L : Lays P k) (enc : α → List Value) (key : α → Int) (cf : α → α → Int) (hcf : ∀ x y, cf x y < 0 ↔ key x < key y) (g : Nat) (cb : Array Value) (eg : ∀ args w, (callFunc g args).run P w = .ok (.enter g args) w) (blk off cap : Nat) (d0 : Array α) (w0 : World)
    (hcmp : CmpLays P g cb enc k cf blk off d0.size w0) (R : RowK enc k w0 blk off d0) (hsz : d0.size < 4611686018427387904) : ∀ (n : Nat), ∀ (a m b : Nat) (d : Array α) (w : World), d.size = d0.size → SWK enc k w0 blk off d w → a < m → m < b → b ≤ d.size → b - a ≤ n → Srt key a m d → Srt key m b d → Calls P 68 #[.slice (some ⟨blk, off, none⟩) d.size cap, .int .i64 a, .int .i64 m, .int .i64 b, .func (.func g) #[] cb] w fun e w' =>
      e = .returned (.tuple #[]) ∧ ∃ dk : Array α, Seg key a b d dk ∧ Srt key a b dk ∧ SWK enc k w0 blk off dk w'
  | 0, a, m, b, d, w, hs, S, ham, hmb, hb, hn, hX, hY => absurd hn (by omega)
  | n + 1, a, m, b, d, w, hs, S, ham, hmb, hb, hn, hX, hY => by
    by_cases h1 : m = a + 1
    · exact symL k L enc key cf hcf g cb eg blk off cap d0 w0 hcmp R hsz a m b d w hs S ham hmb hb hX hY h1
    by_cases h2 : b = m + 1
    · exact symO k L enc key cf hcf g cb eg blk off cap d0 w0 hcmp R hsz a m b d w hs S ham hmb hb hX hY h1 h2
    have hmid : (((a + b) / 2 : Nat) : Int) = ((a : Int) + (b : Int)) / 2 := by omega
    have IH := symMerge k L enc key cf hcf g cb eg blk off cap d0 w0 hcmp R hsz n
    by_cases hc : (a + b) / 2 < m
    · exact symA k L enc key cf hcf g cb eg blk off cap d0 w0 hcmp R hsz n a m b d w IH hs S ham hmb hb hn hX hY h1 h2 _ hmid hc
    · exact symB k L enc key cf hcf g cb eg blk off cap d0 w0 hcmp R hsz n a m b d w IH hs S ham hmb hb hn hX hY h1 h2 _ hmid hc

end Go.Proofs.YtdfndbegifdejaaStab
