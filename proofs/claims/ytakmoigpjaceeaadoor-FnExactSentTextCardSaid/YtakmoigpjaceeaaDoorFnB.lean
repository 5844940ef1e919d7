/- Documents. -/
import Derived.Test.YtakmoigpjaceeaaDoorFnA
namespace Go.Proofs.YtakmoigpjaceeaaDoor
open Go Go.ChangeShapes Go.WideShapes Go.ChangeAt Go.RowKit
set_option linter.unusedVariables false
set_option maxRecDepth 100000

def nodeOfGo (id : Int) : List GNode → Nat → Int
  | [], _ => -1
  | x :: r, i => if x.Id = id then i else nodeOfGo id r (i + 1)
def nodeOf (d : List GNode) (id : Int) : Int := nodeOfGo id d 0
def okNode (d : List GNode) (x : GNode) (i : Nat) : Bool := inR x.Tag 0 9 && inR x.Text 0 999 && inR x.By 0 5 &&
  (if i = 0 then decide (x.Id = 0) && decide (x.Parent = -1) else decide ((d.getD (i - 1) default).Id < x.Id) && decide (0 ≤ nodeOf (d.take i) x.Parent))
def docGo (d : List GNode) : List GNode → Nat → Bool
  | [], _ => true
  | x :: r, i => if okNode d x i then docGo d r (i + 1) else false
def isDoc (d : List GNode) : Bool := decide (1 ≤ d.length) && decide (d.length ≤ 16) && docGo d d 0
theorem pred_toNat {i : Nat} (h : 0 < i) : ((i : Int) - 1).toNat = i - 1 := by omega
theorem okNode_zero (d : List GNode) (x : GNode) : okNode d x 0 = (inR x.Tag 0 9 && inR x.Text 0 999 && inR x.By 0 5 && (decide (x.Id = 0) && decide (x.Parent = -1))) := rfl
theorem okNode_pos {d : List GNode} {x : GNode} {i : Nat} (h0 : 0 < i) (hl : i ≤ d.length) : okNode d x i = (inR x.Tag 0 9 && inR x.Text 0 999 && inR x.By 0 5 && (decide ((d[i - 1]'(by omega)).Id < x.Id) && decide (0 ≤ nodeOf (d.take i) x.Parent))) := by
  unfold okNode
  rw [if_neg (by omega)]
  congr 3
  rw [List.getD_eq_getElem?_getD, List.getElem?_eq_getElem (by omega)]; rfl
theorem getD_at {α : Type} {l : List α} {i : Nat} {d : α} (h : i < l.length) : l.getD i d = l[i] := by simp [h]
end Go.Proofs.YtakmoigpjaceeaaDoor
