/- Browsers: what is looked up. -/
import Derived.Test.YtakmoigpjaceeaaDoorFnF
namespace Go.Proofs.YtakmoigpjaceeaaDoor
open Go Go.ChangeShapes Go.WideShapes Go.ChangeAt Go.RowKit
set_option linter.unusedVariables false
set_option maxRecDepth 100000

def packGo (ext : Int) : List GPackage → Nat → Int
  | [], _ => -1
  | p :: r, i => if p.Ext = ext then i else packGo ext r (i + 1)
def packOf (b : GBrowser) (ext : Int) : Int := packGo ext b.Packs 0
theorem packGo_lt (ext : Int) : ∀ (l : List GPackage) (i : Nat), -1 ≤ packGo ext l i ∧ packGo ext l i < i + l.length
  | [], i => by simp only [packGo, List.length_nil]; omega
  | p :: r, i => by
    have := packGo_lt ext r (i + 1)
    simp only [packGo, List.length_cons]
    split <;> omega
theorem packOf_lt (b : GBrowser) (ext : Int) : -1 ≤ packOf b ext ∧ packOf b ext < b.Packs.length := by
  have := packGo_lt ext b.Packs 0
  unfold packOf; omega
def isClicked (t : GTab) (tick : Int) : Bool := inR t.Click 0 10000 && inR tick t.Click (t.Click + 2)
def tabNo (b : GBrowser) (tab : Int) : Option GTab := if 0 ≤ tab then b.Tabs[tab.toNat]? else none
theorem tabNo_in {b : GBrowser} {tab : Int} (h : 0 ≤ tab ∧ tab.toNat < b.Tabs.length) : tabNo b tab = some (b.Tabs[tab.toNat]'h.2) := by
  unfold tabNo; rw [if_pos h.1, List.getElem?_eq_getElem h.2]
theorem tabNo_out {b : GBrowser} {tab : Int} (h : ¬ (0 ≤ tab ∧ tab.toNat < b.Tabs.length)) : tabNo b tab = none := by
  unfold tabNo
  split
  · rw [List.getElem?_eq_none (by omega)]
  · rfl
def mayAct (b : GBrowser) (ext tab kind : Int) : Bool := decide (0 ≤ packOf b ext) && (match tabNo b tab with
  | some t => mayDo b.Grants b.Limits ext t.Site kind b.Now (isClicked t b.Now)
  | none => false)
def rulesLeft (b : GBrowser) : Int := maxI 0 (20 - b.Rules.length)
theorem maxI_def (x y : Int) : maxI x y = if y > x then y else x := by unfold maxI; rfl
theorem flen {α : Type} (P : α → Bool) : ∀ l : List α, (l.filter P).length + (l.filter fun x => !P x).length = l.length
  | [] => rfl
  | x :: l => by
    have := flen P l
    simp only [List.filter_cons]
    cases P x <;> simp <;> omega
def storedBy (b : GBrowser) (ext : Int) : Int := (b.Store.filter (stOf ext)).length
theorem stNot_eq (ext : Int) : stNot ext = fun x => !stOf ext x := rfl
theorem edNot_eq (by' : Int) : edBy by' false = edNot by' := by funext x; simp only [edBy, edNot]; cases decide (x.By = by') <;> rfl
theorem edBy1_eq (by' : Int) : edBy by' true = edBy1 by' := by funext x; simp only [edBy, edBy1]; cases decide (x.By = by') <;> rfl
def editShare (b : GBrowser) (tab : Int) : Int × Int := match tabNo b tab with
  | some t => (((t.Edits.filter (edNot 0)).length : Int), (t.Edits.length : Int))
  | none => (0, 0)
end Go.Proofs.YtakmoigpjaceeaaDoor
