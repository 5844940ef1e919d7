/- The values that an extension reads. -/
import Derived.Test.YtibglkkmjigooaaGreatFnI
namespace Go.Proofs.YtibglkkmjigooaaGreat
open Go Go.ChangeShapes Go.WideShapes Go.ChangeAt Go.RowKit
set_option linter.unusedVariables false
set_option linter.unusedSimpArgs false
set_option maxRecDepth 100000
def valueOf (l : List Int) (o : Int) : Int := if 1 ≤ o ∧ o ≤ l.length then (if inR (l.getD (o.toNat - 1) 0) 0 999 then l.getD (o.toNat - 1) 0 else 0) else 0
end Go.Proofs.YtibglkkmjigooaaGreat
