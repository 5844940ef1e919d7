/- Rules and requests; comparisons. -/
import Derived.Test.YtibglkkmjigooaaGreatAeM
import Derived.Test.YtibglkkmjigooaaGreatFnN
import Derived.Test.YtibglkkmjigooaaGreatAeQ
namespace Go.Proofs.YtibglkkmjigooaaGreat
set_option linter.unusedVariables false
set_option linter.unusedSimpArgs false
set_option maxRecDepth 100000
section
open Go Go.ChangeShapes Go.WideShapes Go.ChangeAt Go.RowKit
def isOp (x : GOp) : Bool := inR x.A 0 5 && (((decide (x.Kind = 1) || decide (x.Kind = 5)) && inR x.B 1 9 && decide (x.C = 0)) || (decide (x.Kind = 2) && inR x.B 0 999 && decide (x.C = 0)) || ((decide (x.Kind = 3) || decide (x.Kind = 4)) && inR x.B 0 5 && inR x.C 0 5))
end
end Go.Proofs.YtibglkkmjigooaaGreat
