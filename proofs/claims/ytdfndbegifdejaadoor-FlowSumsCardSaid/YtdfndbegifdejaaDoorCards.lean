/-
  DERIVED. GIVEN WITH THE SEED: THE CARDS: each row of YtdfndbegifdejaaDoorRows.lean that lists a variable, with what it lists TIED to the program's text (the seventh form; the later family's looks); each row that meets fmt, with fmt's text TOLD by the authors' own Lean function (tested against real Go, not proved from fmt's source: count such statements apart). THE CARD IS WHAT COUNTS. Prove the row's statement (the work); the ties are given (YtdfndbegifdejaaDoorTie.lean); close each card by the builder's one call (the guide's Derived/Test/ToyasCard.lean, 'card_holds'). Laid BY PROGRAM, IN A SANDBOX (cutbox-door.mjs). By AI agents, Wed Nov 11 2026. No macro, syntax, notation, axiom, sorry.
-/
import Derived.Test.YtdfndbegifdejaaDoorRows
import GoSem.ClaimSeven
namespace Go.Proofs.YtdfndbegifdejaaDoor
namespace Rows

/-- THE TIED CARD OF 'payofflaw03.FlowPrints'. -/
def flowPrintsCard : Claim7 := { stood := { row := flowPrintsRow, standIns := [], harness := (true, "96dfd3cc0dd30d178d18a8d62c1e514877b89140a12bb0026e79dab2b843e5ce"), looks := false }, kinds := [], alts := [], laidByText := true, laidKinds := [.data, .data, .data], laidTests := true, laidLooks := .later }
def FlowPrintsCardSaid : Prop := Claim7.holds Tryd.pinned (.plain (OpenSpec.ofChange flowPrintsSpec)) flowPrintsCard

/-- THE TIED CARD OF 'payofflaw03.FlowBack'. -/
def flowBackCard : Claim7 := { stood := { row := flowBackRow, standIns := [], harness := (true, "96dfd3cc0dd30d178d18a8d62c1e514877b89140a12bb0026e79dab2b843e5ce"), looks := false }, kinds := [], alts := [], laidByText := true, laidKinds := [.data, .data, .data], laidTests := true, laidLooks := .later }
def FlowBackCardSaid : Prop := Claim7.holds Tryd.pinned (.plain (OpenSpec.ofChange flowBackSpec)) flowBackCard

/-- THE TIED CARD OF 'payofflaw03.FlowOnly'. -/
def flowOnlyCard : Claim7 := { stood := { row := flowOnlyRow, standIns := [], harness := (true, "96dfd3cc0dd30d178d18a8d62c1e514877b89140a12bb0026e79dab2b843e5ce"), looks := false }, kinds := [], alts := [], laidByText := true, laidKinds := [.data, .data, .data], laidTests := true, laidLooks := .later }
def FlowOnlyCardSaid : Prop := Claim7.holds Tryd.pinned (.plain (OpenSpec.ofChange flowOnlySpec)) flowOnlyCard

/-- THE TIED CARD OF 'payofflaw03.FlowSums'. -/
def flowSumsCard : Claim7 := { stood := { row := flowSumsRow, standIns := [], harness := (true, "96dfd3cc0dd30d178d18a8d62c1e514877b89140a12bb0026e79dab2b843e5ce"), looks := false }, kinds := [], alts := [], laidByText := true, laidKinds := [.data, .data, .data], laidTests := true, laidLooks := .later }
def FlowSumsCardSaid : Prop := Claim7.holds Tryd.pinned (.plain (OpenSpec.ofChange flowSumsSpec)) flowSumsCard

/-- THE TIED CARD OF 'payofflaw03.FlowCut'. -/
def flowCutCard : Claim7 := { stood := { row := flowCutRow, standIns := [], harness := (true, "96dfd3cc0dd30d178d18a8d62c1e514877b89140a12bb0026e79dab2b843e5ce"), looks := false }, kinds := [], alts := [], laidByText := true, laidKinds := [.data, .data, .data], laidTests := true, laidLooks := .later }
def FlowCutCardSaid : Prop := Claim7.holds Tryd.pinned (.plain (OpenSpec.ofChange flowCutSpec)) flowCutCard

/-- THE TIED CARD OF 'payofflaw03.FlowStable'. -/
def flowStableCard : Claim7 := { stood := { row := flowStableRow, standIns := [], harness := (true, "96dfd3cc0dd30d178d18a8d62c1e514877b89140a12bb0026e79dab2b843e5ce"), looks := false }, kinds := [], alts := [], laidByText := true, laidKinds := [.data, .data, .data], laidTests := true, laidLooks := .later }
def FlowStableCardSaid : Prop := Claim7.holds Tryd.pinned (.plain (OpenSpec.ofChange flowStableSpec)) flowStableCard

/-- THE SECOND FORM's CARD OF 'payofflaw03.FlowPrints'. -/
def flowPrintsUptoCard : Claim7 := { stood := { row := flowPrintsUptoRow, standIns := [], harness := (true, "96dfd3cc0dd30d178d18a8d62c1e514877b89140a12bb0026e79dab2b843e5ce"), looks := false }, kinds := [], alts := [], laidByText := true, laidKinds := [.data, .data, .data], laidTests := true, laidLooks := .later }
def FlowPrintsUptoCardSaid : Prop := Claim7.holds Tryd.pinned (.plain (OpenSpec.upto flowPrintsSpec)) flowPrintsUptoCard

/-- THE SECOND FORM's CARD OF 'payofflaw03.FlowBack'. -/
def flowBackUptoCard : Claim7 := { stood := { row := flowBackUptoRow, standIns := [], harness := (true, "96dfd3cc0dd30d178d18a8d62c1e514877b89140a12bb0026e79dab2b843e5ce"), looks := false }, kinds := [], alts := [], laidByText := true, laidKinds := [.data, .data, .data], laidTests := true, laidLooks := .later }
def FlowBackUptoCardSaid : Prop := Claim7.holds Tryd.pinned (.plain (OpenSpec.upto flowBackSpec)) flowBackUptoCard

/-- THE SECOND FORM's CARD OF 'payofflaw03.FlowOnly'. -/
def flowOnlyUptoCard : Claim7 := { stood := { row := flowOnlyUptoRow, standIns := [], harness := (true, "96dfd3cc0dd30d178d18a8d62c1e514877b89140a12bb0026e79dab2b843e5ce"), looks := false }, kinds := [], alts := [], laidByText := true, laidKinds := [.data, .data, .data], laidTests := true, laidLooks := .later }
def FlowOnlyUptoCardSaid : Prop := Claim7.holds Tryd.pinned (.plain (OpenSpec.upto flowOnlySpec)) flowOnlyUptoCard

/-- THE SECOND FORM's CARD OF 'payofflaw03.FlowSums'. -/
def flowSumsUptoCard : Claim7 := { stood := { row := flowSumsUptoRow, standIns := [], harness := (true, "96dfd3cc0dd30d178d18a8d62c1e514877b89140a12bb0026e79dab2b843e5ce"), looks := false }, kinds := [], alts := [], laidByText := true, laidKinds := [.data, .data, .data], laidTests := true, laidLooks := .later }
def FlowSumsUptoCardSaid : Prop := Claim7.holds Tryd.pinned (.plain (OpenSpec.upto flowSumsSpec)) flowSumsUptoCard

/-- THE SECOND FORM's CARD OF 'payofflaw03.FlowCut'. -/
def flowCutUptoCard : Claim7 := { stood := { row := flowCutUptoRow, standIns := [], harness := (true, "96dfd3cc0dd30d178d18a8d62c1e514877b89140a12bb0026e79dab2b843e5ce"), looks := false }, kinds := [], alts := [], laidByText := true, laidKinds := [.data, .data, .data], laidTests := true, laidLooks := .later }
def FlowCutUptoCardSaid : Prop := Claim7.holds Tryd.pinned (.plain (OpenSpec.upto flowCutSpec)) flowCutUptoCard

/-- THE SECOND FORM's CARD OF 'payofflaw03.FlowStable'. -/
def flowStableUptoCard : Claim7 := { stood := { row := flowStableUptoRow, standIns := [], harness := (true, "96dfd3cc0dd30d178d18a8d62c1e514877b89140a12bb0026e79dab2b843e5ce"), looks := false }, kinds := [], alts := [], laidByText := true, laidKinds := [.data, .data, .data], laidTests := true, laidLooks := .later }
def FlowStableUptoCardSaid : Prop := Claim7.holds Tryd.pinned (.plain (OpenSpec.upto flowStableSpec)) flowStableUptoCard
end Rows
end Go.Proofs.YtdfndbegifdejaaDoor
