/- The laws' helpers: to. -/
import Derived.Test.YtfkfoidojmjacaaFnCs
namespace Go.Proofs.Ytfkfoidojmjacaa
open Go Go.ChangeShapes Go.WideShapes Go.ChangeAt Go.RowKit
set_option linter.unusedVariables false
set_option linter.unusedSimpArgs false
set_option maxRecDepth 100000


end Go.Proofs.Ytfkfoidojmjacaa
