/- Tabs. -/
import Derived.Test.YtimbmhglengjcaaFnCt
namespace Go.Proofs.Ytimbmhglengjcaa
open Go Go.ChangeShapes Go.WideShapes Go.ChangeAt Go.RowKit
set_option linter.unusedVariables false
set_option maxRecDepth 100000

def okHid (l : List Int) (n : Int) (i : Nat) : Bool := inR n 0 9 && (if i = 0 then true else decide (l.getD (i - 1) 0 < n))
theorem okHid_zero (l : List Int) (n : Int) : okHid l n 0 = inR n 0 9 := by simp [okHid]
theorem okHid_pos {l : List Int} {n : Int} {i : Nat} (h0 : 0 < i) (hl : i ≤ l.length) : okHid l n i = (inR n 0 9 && decide (l[i - 1]'(by omega) < n)) := by
  unfold okHid
  rw [if_neg (by omega), List.getD_eq_getElem?_getD, List.getElem?_eq_getElem (by omega)]; rfl
def hidGo (l : List Int) : List Int → Nat → Bool
  | [], _ => true
  | n :: r, i => if okHid l n i then hidGo l r (i + 1) else false
def isTab (t : GTab) : Bool := isSite t.Site && isDoc t.Base && decide (t.Edits.length ≤ 40) && inR t.Click (-1) 10000 && t.Edits.all isEdit && hidGo t.Hidden t.Hidden 0
theorem and6 {a b c d e f : Bool} (h : (a = false ∨ b = false ∨ c = false ∨ d = false ∨ e = false ∨ f = false)) : (a && b && c && d && e && f) = false := by
  cases a <;> cases b <;> cases c <;> cases d <;> cases e <;> cases f <;> simp at h ⊢
end Go.Proofs.Ytimbmhglengjcaa
