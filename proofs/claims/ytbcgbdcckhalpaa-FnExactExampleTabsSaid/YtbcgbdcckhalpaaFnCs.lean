/- The laws' helpers: sz. -/
import Derived.Test.YtbcgbdcckhalpaaFnC
namespace Go.Proofs.Ytbcgbdcckhalpaa
open Go Go.ChangeShapes Go.WideShapes Go.ChangeAt Go.RowKit
set_option linter.unusedVariables false
set_option maxRecDepth 100000


end Go.Proofs.Ytbcgbdcckhalpaa
