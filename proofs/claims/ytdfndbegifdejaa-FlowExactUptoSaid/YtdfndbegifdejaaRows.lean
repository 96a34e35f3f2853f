/-
  No cell of these rows narrows 'for every input' (looked for: loops, veiled, ifaces, maps, wideKeys, modest, calm, conditions, laid).
  DERIVED. THE GIVEN ROWS OF THIS SEAT. 7 by the template 'for every input the law returns true; each argument reads behind the call as it read before'; 0 by the template 'total and deterministic' (their statements: YtdfndbegifdejaaTotals.lean).
  GIVEN WITH THE SEED: the statements are not yours to turn. If you find one false, say at which input.
  Laid BY PROGRAM, IN A SANDBOX (cutbox-rows.mjs): the forced cells as the released guide's own fill.sh prints them over the translation 5a37df4d538244b1… (all of the seat's roots in one cut). By AI agents, Wed Nov 11 2026. No macro, syntax, notation, axiom, sorry.
-/
import Derived.Test.YtdfndbegifdejaaChecked
import GoSem.Claim
import GoSem.ClaimJoined
import GoSem.ClaimMapViews
import Derived.JoinedTies
import Derived.KernelRfl
namespace Go.Proofs.Ytdfndbegifdejaa
/- THE CELL 'sum', in the pinned program and in every row, IS THE sha256 OF THE DUMP (.gsa) THAT YtdfndbegifdejaaProg.lean LOADS. Nothing in Lean hashes anything: it is a label: what it is worth is what the hold of that sum in a sandbox is worth. -/
noncomputable def Try.pinned : Pinned := { name := "ytdfndbegifdejaa", sum := "5a37df4d538244b194d249ad53d6c6a8e2bfc1dbe794649f21d65333c7515138", checked := Try.checked }
namespace Rows
def none {H : Type} : Left H := { results := [], args := [] }

/-- 'payofflaw03.FlowUntils': WHATEVER THE INPUT: true; the input reads as it did. -/
def flowUntilsSpec : ChangeSpec := { name := "flowUntils", fn := fun _ => fun
  | [d1, d2] => { results := [.lit (.bool true)], args := [d1, d2] }
  | _ => none }
def flowUntilsRow : OpenClaim := { program := "ytdfndbegifdejaa", sum := "5a37df4d538244b194d249ad53d6c6a8e2bfc1dbe794649f21d65333c7515138", func := "payoff/payofflaw03.FlowUntils", spec := "flowUntils", plainKeys := false, apart := false }
def FlowUntilsSaid : Prop := flowUntilsRow.holds Try.pinned (OpenSpec.ofChange flowUntilsSpec)

/-- ITS FALSE NEIGHBOUR: 'it returns false'. Refute it at one input. -/
def flowUntilsWrong : ChangeSpec := { name := "flowUntils", fn := fun _ => fun
  | [d1, d2] => { results := [.lit (.bool false)], args := [d1, d2] }
  | _ => none }
def FlowUntilsWrongFalsely : Prop := flowUntilsRow.holds Try.pinned (OpenSpec.ofChange flowUntilsWrong)

/-- 'payofflaw03.FlowOrders': WHATEVER THE INPUT: true; the input reads as it did. -/
def flowOrdersSpec : ChangeSpec := { name := "flowOrders", fn := fun _ => fun
  | [d1, d2] => { results := [.lit (.bool true)], args := [d1, d2] }
  | _ => none }
def flowOrdersRow : OpenClaim := { program := "ytdfndbegifdejaa", sum := "5a37df4d538244b194d249ad53d6c6a8e2bfc1dbe794649f21d65333c7515138", func := "payoff/payofflaw03.FlowOrders", spec := "flowOrders", inPlace := ["internal/bytealg.abigen_runtime_cmpstring"], plainKeys := false, apart := false }
def FlowOrdersSaid : Prop := flowOrdersRow.holds Try.pinned (OpenSpec.ofChange flowOrdersSpec)

/-- ITS FALSE NEIGHBOUR: 'it returns false'. Refute it at one input. -/
def flowOrdersWrong : ChangeSpec := { name := "flowOrders", fn := fun _ => fun
  | [d1, d2] => { results := [.lit (.bool false)], args := [d1, d2] }
  | _ => none }
def FlowOrdersWrongFalsely : Prop := flowOrdersRow.holds Try.pinned (OpenSpec.ofChange flowOrdersWrong)

/-- 'payofflaw03.FlowParses': WHATEVER THE INPUT: true; the input reads as it did. -/
def flowParsesSpec : ChangeSpec := { name := "flowParses", fn := fun _ => fun
  | [d] => { results := [.lit (.bool true)], args := [d] }
  | _ => none }
def flowParsesRow : OpenClaim := { program := "ytdfndbegifdejaa", sum := "5a37df4d538244b194d249ad53d6c6a8e2bfc1dbe794649f21d65333c7515138", func := "payoff/payofflaw03.FlowParses", spec := "flowParses", plainKeys := false, apart := false }
def FlowParsesSaid : Prop := flowParsesRow.holds Try.pinned (OpenSpec.ofChange flowParsesSpec)

/-- ITS FALSE NEIGHBOUR: 'it returns false'. Refute it at one input. -/
def flowParsesWrong : ChangeSpec := { name := "flowParses", fn := fun _ => fun
  | [d] => { results := [.lit (.bool false)], args := [d] }
  | _ => none }
def FlowParsesWrongFalsely : Prop := flowParsesRow.holds Try.pinned (OpenSpec.ofChange flowParsesWrong)

/-- 'payofflaw03.FlowMerges': WHATEVER THE INPUT: true; the input reads as it did. -/
def flowMergesSpec : ChangeSpec := { name := "flowMerges", fn := fun _ => fun
  | [d] => { results := [.lit (.bool true)], args := [d] }
  | _ => none }
def flowMergesRow : OpenClaim := { program := "ytdfndbegifdejaa", sum := "5a37df4d538244b194d249ad53d6c6a8e2bfc1dbe794649f21d65333c7515138", func := "payoff/payofflaw03.FlowMerges", spec := "flowMerges", unfollowed := true, recurses := true, plainKeys := false, apart := false }
def FlowMergesSaid : Prop := flowMergesRow.holds Try.pinned (OpenSpec.ofChange flowMergesSpec)

/-- ITS FALSE NEIGHBOUR: 'it returns false'. Refute it at one input. -/
def flowMergesWrong : ChangeSpec := { name := "flowMerges", fn := fun _ => fun
  | [d] => { results := [.lit (.bool false)], args := [d] }
  | _ => none }
def FlowMergesWrongFalsely : Prop := flowMergesRow.holds Try.pinned (OpenSpec.ofChange flowMergesWrong)

/-- 'payofflaw03.FlowTotals': WHATEVER THE INPUT: true; the input reads as it did. -/
def flowTotalsSpec : ChangeSpec := { name := "flowTotals", fn := fun _ => fun
  | [d] => { results := [.lit (.bool true)], args := [d] }
  | _ => none }
def flowTotalsRow : OpenClaim := { program := "ytdfndbegifdejaa", sum := "5a37df4d538244b194d249ad53d6c6a8e2bfc1dbe794649f21d65333c7515138", func := "payoff/payofflaw03.FlowTotals", spec := "flowTotals", inPlace := ["internal/bytealg.abigen_runtime_cmpstring"], unfollowed := true, recurses := true, plainKeys := false, apart := false }
def FlowTotalsSaid : Prop := flowTotalsRow.holds Try.pinned (OpenSpec.ofChange flowTotalsSpec)

/-- ITS FALSE NEIGHBOUR: 'it returns false'. Refute it at one input. -/
def flowTotalsWrong : ChangeSpec := { name := "flowTotals", fn := fun _ => fun
  | [d] => { results := [.lit (.bool false)], args := [d] }
  | _ => none }
def FlowTotalsWrongFalsely : Prop := flowTotalsRow.holds Try.pinned (OpenSpec.ofChange flowTotalsWrong)

/-- 'payofflaw03.FlowNets': WHATEVER THE INPUT: true; the input reads as it did. -/
def flowNetsSpec : ChangeSpec := { name := "flowNets", fn := fun _ => fun
  | [d] => { results := [.lit (.bool true)], args := [d] }
  | _ => none }
def flowNetsRow : OpenClaim := { program := "ytdfndbegifdejaa", sum := "5a37df4d538244b194d249ad53d6c6a8e2bfc1dbe794649f21d65333c7515138", func := "payoff/payofflaw03.FlowNets", spec := "flowNets", inPlace := ["internal/bytealg.abigen_runtime_cmpstring"], unfollowed := true, recurses := true, plainKeys := false, apart := false }
def FlowNetsSaid : Prop := flowNetsRow.holds Try.pinned (OpenSpec.ofChange flowNetsSpec)

/-- ITS FALSE NEIGHBOUR: 'it returns false'. Refute it at one input. -/
def flowNetsWrong : ChangeSpec := { name := "flowNets", fn := fun _ => fun
  | [d] => { results := [.lit (.bool false)], args := [d] }
  | _ => none }
def FlowNetsWrongFalsely : Prop := flowNetsRow.holds Try.pinned (OpenSpec.ofChange flowNetsWrong)

/-- 'payofflaw03.FlowExact': WHATEVER THE INPUT: true; the input reads as it did. -/
def flowExactSpec : ChangeSpec := { name := "flowExact", fn := fun _ => fun
  | [d] => { results := [.lit (.bool true)], args := [d] }
  | _ => none }
def flowExactRow : OpenClaim := { program := "ytdfndbegifdejaa", sum := "5a37df4d538244b194d249ad53d6c6a8e2bfc1dbe794649f21d65333c7515138", func := "payoff/payofflaw03.FlowExact", spec := "flowExact", inPlace := ["internal/bytealg.abigen_runtime_cmpstring"], unfollowed := true, recurses := true, plainKeys := false, apart := false }
def FlowExactSaid : Prop := flowExactRow.holds Try.pinned (OpenSpec.ofChange flowExactSpec)

/-- ITS FALSE NEIGHBOUR: 'it returns false'. Refute it at one input. -/
def flowExactWrong : ChangeSpec := { name := "flowExact", fn := fun _ => fun
  | [d] => { results := [.lit (.bool false)], args := [d] }
  | _ => none }
def FlowExactWrongFalsely : Prop := flowExactRow.holds Try.pinned (OpenSpec.ofChange flowExactWrong)

/- THE SECOND FORM. 'bulk': how many values and letters a reading holds, each counted each time it is reached (what is shared counts as often as it is met; a slice's spare places count too). A statement '..UptoSaid' is the law's where the arguments, and the package variables that the reading takes, are together of bulk at most 1048576: NARROWER than '..Said'. Prove '..Said' where nothing that the law and all that it calls make is longer than what came in: it says more and counts as full. Else prove '..UptoSaid'. A law counts once. -/
mutual
def uptoBulk {H : Type} : DataW H → Nat
  | .lit (.string bytes) => bytes.length + 1
  | .lit _ => 1
  | .nil => 1
  | .ptr d => uptoBulk d + 1
  | .slice elems spare => uptoBulkAll elems + uptoBulkAll spare + 1
  | .agg parts => uptoBulkAll parts + 1
  | .iface _ d => uptoBulk d + 1
  | .map entries => uptoBulkEntries entries + 1
  | .held _ => 1
def uptoBulkAll {H : Type} : List (DataW H) → Nat
  | [] => 0
  | d :: r => uptoBulk d + uptoBulkAll r
def uptoBulkEntries {H : Type} : List (Lit × DataW H) → Nat
  | [] => 0
  | x :: r => uptoBulkEntry x + uptoBulkEntries r
def uptoBulkEntry {H : Type} : Lit × DataW H → Nat
  | (.string bytes, d) => bytes.length + uptoBulk d + 1
  | (_, d) => uptoBulk d + 1
 end
def uptoSmall : (H : Type) → List (DataW H) → Bool := fun _ ds => decide (uptoBulkAll ds ≤ 1048576)
def OpenSpec.upto (s : _root_.Go.ChangeSpec) : _root_.Go.OpenSpec := { _root_.Go.OpenSpec.ofChange s with cond := some uptoSmall }

/-- 'payofflaw03.FlowUntils', WHERE WHAT IT READS IS OF BULK AT MOST 1048576: true; the input reads as it did. -/
def flowUntilsUptoRow : OpenClaim := { program := "ytdfndbegifdejaa", sum := "5a37df4d538244b194d249ad53d6c6a8e2bfc1dbe794649f21d65333c7515138", func := "payoff/payofflaw03.FlowUntils", spec := "flowUntils", plainKeys := false, apart := false, narrowed := true }
def FlowUntilsUptoSaid : Prop := flowUntilsUptoRow.holds Try.pinned (OpenSpec.upto flowUntilsSpec)

/-- 'payofflaw03.FlowOrders', WHERE WHAT IT READS IS OF BULK AT MOST 1048576: true; the input reads as it did. -/
def flowOrdersUptoRow : OpenClaim := { program := "ytdfndbegifdejaa", sum := "5a37df4d538244b194d249ad53d6c6a8e2bfc1dbe794649f21d65333c7515138", func := "payoff/payofflaw03.FlowOrders", spec := "flowOrders", inPlace := ["internal/bytealg.abigen_runtime_cmpstring"], plainKeys := false, apart := false, narrowed := true }
def FlowOrdersUptoSaid : Prop := flowOrdersUptoRow.holds Try.pinned (OpenSpec.upto flowOrdersSpec)

/-- 'payofflaw03.FlowParses', WHERE WHAT IT READS IS OF BULK AT MOST 1048576: true; the input reads as it did. -/
def flowParsesUptoRow : OpenClaim := { program := "ytdfndbegifdejaa", sum := "5a37df4d538244b194d249ad53d6c6a8e2bfc1dbe794649f21d65333c7515138", func := "payoff/payofflaw03.FlowParses", spec := "flowParses", plainKeys := false, apart := false, narrowed := true }
def FlowParsesUptoSaid : Prop := flowParsesUptoRow.holds Try.pinned (OpenSpec.upto flowParsesSpec)

/-- 'payofflaw03.FlowMerges', WHERE WHAT IT READS IS OF BULK AT MOST 1048576: true; the input reads as it did. -/
def flowMergesUptoRow : OpenClaim := { program := "ytdfndbegifdejaa", sum := "5a37df4d538244b194d249ad53d6c6a8e2bfc1dbe794649f21d65333c7515138", func := "payoff/payofflaw03.FlowMerges", spec := "flowMerges", unfollowed := true, recurses := true, plainKeys := false, apart := false, narrowed := true }
def FlowMergesUptoSaid : Prop := flowMergesUptoRow.holds Try.pinned (OpenSpec.upto flowMergesSpec)

/-- 'payofflaw03.FlowTotals', WHERE WHAT IT READS IS OF BULK AT MOST 1048576: true; the input reads as it did. -/
def flowTotalsUptoRow : OpenClaim := { program := "ytdfndbegifdejaa", sum := "5a37df4d538244b194d249ad53d6c6a8e2bfc1dbe794649f21d65333c7515138", func := "payoff/payofflaw03.FlowTotals", spec := "flowTotals", inPlace := ["internal/bytealg.abigen_runtime_cmpstring"], unfollowed := true, recurses := true, plainKeys := false, apart := false, narrowed := true }
def FlowTotalsUptoSaid : Prop := flowTotalsUptoRow.holds Try.pinned (OpenSpec.upto flowTotalsSpec)

/-- 'payofflaw03.FlowNets', WHERE WHAT IT READS IS OF BULK AT MOST 1048576: true; the input reads as it did. -/
def flowNetsUptoRow : OpenClaim := { program := "ytdfndbegifdejaa", sum := "5a37df4d538244b194d249ad53d6c6a8e2bfc1dbe794649f21d65333c7515138", func := "payoff/payofflaw03.FlowNets", spec := "flowNets", inPlace := ["internal/bytealg.abigen_runtime_cmpstring"], unfollowed := true, recurses := true, plainKeys := false, apart := false, narrowed := true }
def FlowNetsUptoSaid : Prop := flowNetsUptoRow.holds Try.pinned (OpenSpec.upto flowNetsSpec)

/-- 'payofflaw03.FlowExact', WHERE WHAT IT READS IS OF BULK AT MOST 1048576: true; the input reads as it did. -/
def flowExactUptoRow : OpenClaim := { program := "ytdfndbegifdejaa", sum := "5a37df4d538244b194d249ad53d6c6a8e2bfc1dbe794649f21d65333c7515138", func := "payoff/payofflaw03.FlowExact", spec := "flowExact", inPlace := ["internal/bytealg.abigen_runtime_cmpstring"], unfollowed := true, recurses := true, plainKeys := false, apart := false, narrowed := true }
def FlowExactUptoSaid : Prop := flowExactUptoRow.holds Try.pinned (OpenSpec.upto flowExactSpec)

end Rows
end Go.Proofs.Ytdfndbegifdejaa
