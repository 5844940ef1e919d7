/- The laws' helpers: to. -/
import Derived.Test.YtimbmhglengjcaaFnCs
namespace Go.Proofs.Ytimbmhglengjcaa
open Go Go.ChangeShapes Go.WideShapes Go.ChangeAt Go.RowKit
set_option linter.unusedVariables false
set_option maxRecDepth 100000


end Go.Proofs.Ytimbmhglengjcaa
