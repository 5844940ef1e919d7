/- Packages of a browser; what is granted, what is ruled. -/
import Derived.Test.YtkobbiflijaklaaGreatFnG
namespace Go.Proofs.YtkobbiflijaklaaGreat
open Go Go.ChangeShapes Go.WideShapes Go.ChangeAt Go.RowKit
set_option linter.unusedVariables false
set_option maxRecDepth 100000

def packageOf (b : GBrowser) (ext : Int) : GPackage := if 0 ≤ packOf b ext then b.Packs.getD (packOf b ext).toNat default else default
theorem rd_empty {S : Store} {k : Nat} : Rd S [.sl k []] [.nil] := rd_one (q := false) (ids := []) (by unfold Rep; exact ⟨Nat.zero_le _, .inl ⟨rfl, .inl rfl, rfl⟩⟩)
theorem packageOf_in {b : GBrowser} {ext : Int} (h : 0 ≤ packOf b ext) (h2 : (packOf b ext).toNat < b.Packs.length) : packageOf b ext = b.Packs[(packOf b ext).toNat] := by
  unfold packageOf; rw [if_pos h, List.getD_eq_getElem?_getD, List.getElem?_eq_getElem h2]; rfl
theorem packageOf_out {b : GBrowser} {ext : Int} (h : ¬ 0 ≤ packOf b ext) : packageOf b ext = default := by unfold packageOf; rw [if_neg h]
def idxGo (v : GRule) : List GRule → Nat → Int
  | [], _ => -1
  | x :: r, i => if v = x then i else idxGo v r (i + 1)
theorem idxGo_mem (v : GRule) : ∀ (l : List GRule) (i : Nat), (0 ≤ idxGo v l i) ↔ v ∈ l
  | [], i => by simp [idxGo]
  | x :: r, i => by
    rw [idxGo, List.mem_cons]
    split
    · rename_i h; subst h; simp
    · rename_i h; rw [idxGo_mem v r (i + 1)]; simp [h]
def isRuled (b : GBrowser) : Bool := b.Rules.all fun r => decide (r ∈ (packageOf b r.Ext).Rules)
theorem mem_any {α : Type} [DecidableEq α] (v : α) (l : List α) : decide (v ∈ l) = l.any fun x => decide (x = v) := by
  rw [Bool.eq_iff_iff]; simp
theorem any_take {α : Type} (P : α → Bool) (l : List α) (j : Nat) (h : j < l.length) : (l.take (j + 1)).any P = ((l.take j).any P || P l[j]) := by
  rw [List.take_succ_eq_append_getElem h, List.any_append]; simp
end Go.Proofs.YtkobbiflijaklaaGreat
