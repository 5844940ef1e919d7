/- Lists that are filtered. -/
import Derived.Test.YtkobbiflijaklaaGreatFnE
namespace Go.Proofs.YtkobbiflijaklaaGreat
open Go Go.ChangeShapes Go.WideShapes Go.ChangeAt Go.RowKit
set_option linter.unusedVariables false
set_option maxRecDepth 100000

def edBy (by' : Int) (is : Bool) (x : GEdit) : Bool := (decide (x.By = by') == is)
def edBy1 (by' : Int) (x : GEdit) : Bool := decide (x.By = by')
def edNot (by' : Int) (x : GEdit) : Bool := !decide (x.By = by')
def grOf (ext : Int) (x : GGrant) : Bool := decide (x.Ext = ext)
def ruOf (ext : Int) (x : GRule) : Bool := decide (x.Ext = ext)
def stNot (ext : Int) (x : GStored) : Bool := !decide (x.Ext = ext)
def stOf (ext : Int) (x : GStored) : Bool := decide (x.Ext = ext)
end Go.Proofs.YtkobbiflijaklaaGreat
