/- Programs, flows, packages; hashes and seals. -/
import Derived.Test.YtkobbiflijaklaaGreatFnO
import Derived.Test.YtkobbiflijaklaaGreatFnN
import Derived.Test.YtkobbiflijaklaaGreatAeQ
namespace Go.Proofs.YtkobbiflijaklaaGreat
open Go Go.ChangeShapes Go.WideShapes Go.ChangeAt Go.RowKit
set_option linter.unusedVariables false
set_option maxRecDepth 100000

def isFlow (f : GFlow) : Bool := inR f.Ext 1 5 && inR f.From 1 9 && inR f.To 1 9
def isReg (n : Int) : Bool := inR n 0 5
def isOp (x : GOp) : Bool := inR x.A 0 5 && (((decide (x.Kind = 1) || decide (x.Kind = 5)) && inR x.B 1 9 && decide (x.C = 0)) || (decide (x.Kind = 2) && inR x.B 0 999 && decide (x.C = 0)) || ((decide (x.Kind = 3) || decide (x.Kind = 4)) && inR x.B 0 5 && inR x.C 0 5))
def areOps (l : List GOp) : Bool := decide (l.length ≤ 16) && l.all fun x => isOp x
def pack0 (p : GPackage) : Bool := inR p.Ext 1 5 && inR p.Author 1 9 && inR p.Version 1 999 && decide (p.Grants.length ≤ 6) && decide (p.Flows.length ≤ 6) && decide (p.Rules.length ≤ 6) && areOps p.Ops
def isPackage (p : GPackage) : Bool := pack0 p && (p.Grants.all fun x => isGrant x && decide (x.Ext = p.Ext)) && (p.Flows.all fun x => isFlow x && decide (x.Ext = p.Ext)) && (p.Rules.all fun x => isRule x && decide (x.Ext = p.Ext))
theorem tmodM (p : Int) : Int.tmod p 2147483647 = p % 2147483647 ∨ Int.tmod p 2147483647 = p % 2147483647 - 2147483647 := by
  rw [Int.tmod_eq_emod]
  split
  · left; simp
  · right; rfl
theorem tmodM0 {p : Int} (h : 0 ≤ p) : Int.tmod p 2147483647 = p % 2147483647 := Int.tmod_eq_emod_of_nonneg h
def foldH (acc v : Int) : Int := (acc * 1000003 + v % 2147483647 + 13) % 2147483647
def hashL (acc : Int) (l : List Int) : Int := l.foldl foldH acc
def keyed (key : Int) (l : List Int) : Int := foldH (hashL (foldH 11 key) l) key
theorem foldH_in (acc v : Int) : 0 ≤ foldH acc v ∧ foldH acc v < 2147483647 := by unfold foldH; omega
theorem hashL_in {acc : Int} (h : 0 ≤ acc ∧ acc < 2147483647) : ∀ l : List Int, 0 ≤ hashL acc l ∧ hashL acc l < 2147483647
  | [] => h
  | v :: l => hashL_in (foldH_in acc v) l
theorem hashL_take {acc : Int} {l : List Int} {i : Nat} (h : i < l.length) : hashL acc (l.take (i + 1)) = foldH (hashL acc (l.take i)) l[i] := by
  unfold hashL; rw [List.take_succ_eq_append_getElem h, List.foldl_append]; rfl
theorem keyed_hash (key : Int) (l : List Int) : hashL 11 ((key :: l) ++ [key]) = keyed key l := by
  unfold keyed hashL; rw [List.cons_append, List.foldl_cons, List.foldl_append]; rfl
def isKey (key : Int) : Bool := inR key 1 2147483646
end Go.Proofs.YtkobbiflijaklaaGreat
