/- What the arguments of the law FlowParses read as. -/
import Derived.Test.YtdfndbegifdejaaGParsesx0
import Derived.Test.YtdfndbegifdejaaOpens
namespace Go.Proofs.Ytdfndbegifdejaa.GParses
set_option linter.unusedVariables false
open Go.RowKit Go.Proofs.YtdfndbegifdejaaW.PrintWords Go.Proofs.YtdfndbegifdejaaMine
end Go.Proofs.Ytdfndbegifdejaa.GParses
