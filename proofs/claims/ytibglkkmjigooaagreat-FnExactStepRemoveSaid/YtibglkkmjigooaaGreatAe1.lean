/- An abstract evaluator over the model's code: abstract values, rows, what one operation and a piece of code do with them. -/
import Derived.Calls
import Derived.Lib.ItoaNum
import Derived.Control
import Derived.KernelRfl
import Derived.Maps.AppendAt
import Derived.Deep.AppendLies
import Derived.ArgAppend
import Derived.Laws.Rows
import Derived.Laws.IdiomCopy
import Derived.Tactics
import Derived.IntWalk
namespace Go.Proofs.YtibglkkmjigooaaGreat
open Go
set_option linter.unusedVariables false
set_option linter.unusedSimpArgs false
inductive C where
  | int (k : IntKind) (n : Int)
  | bool (b : Bool)
  | str (s : ByteArray)
  | sl (id off len tot : Nat)
  | nil
  | zc
  | pt (id : Nat)
  | fn (f : Nat)
  | junk
  deriving Inhabited
inductive V where
  | s (c : C)
  | agg (xs : List C)
  deriving Inhabited
inductive AV where
  | v (x : V)
  | tup (vs : List V)
  | box (xs : List C)
  | plc (d off : Nat)
  | el (c : C) (i : Int) (off : Nat)
  | pe (id off : Nat)
  | lst (k : Nat) (xs : List (List C))
  | nb (xs : List C)
  | tt
  | ff
  | und
  | top
  deriving Inhabited
structure Row where
  own : Bool
  k : Nat
  xs : List (List C)
  deriving Inhabited
abbrev Store := List Row
abbrev Env := List AV
def elems (S : Store) : C → Option (List (List C))
  | .nil => some []
  | .zc => some []
  | .sl id o n t => match S[id]? with
    | some row => if row.xs.length = t ∧ o + n ≤ t then some ((row.xs.drop o).take n) else none
    | none => none
  | _ => none
def putCells (cs : List C) (off : Nat) (ys : List C) : List C := cs.take off ++ ys ++ cs.drop (off + ys.length)
def V.cells : V → List C
  | .s c => [c]
  | .agg xs => xs
def tabAt : Option (Nat × Array Value) := none
inductive TK where
  | scalar (d : Nat)
  | struct (offs : List Nat)
  | array (len el : Nat)
  | slice (el : Nat)
  deriving Inhabited
structure TI where
  kd : TK
  sz : Nat
  by' : Nat
  zero : List C
  eq : List Nat := []
  ft : List Nat := []
  deriving Inhabited
def TK.agg : TK → Bool
  | .struct _ | .array _ _ => true
  | _ => false
abbrev TT := Nat → Option TI
@[irreducible] def wrapI (k : IntKind) (n : Int) : Int := k.wrap n
@[irreducible] def bitsI (op : BinOp) (k : IntKind) (x y : Int) : Int :=
  let a := BitVec.ofInt k.bits x
  let b := BitVec.ofInt k.bits y
  match op with
  | .and => k.wrap (a &&& b).toNat
  | .or => k.wrap (a ||| b).toNat
  | .xor => k.wrap (a ^^^ b).toNat
  | _ => k.wrap (a &&& ~~~b).toNat
@[irreducible] def shlI (k : IntKind) (x y : Int) : Int := k.wrap (x * 2 ^ (min y.toNat k.bits))
@[irreducible] def shrI (k : IntKind) (x y : Int) : Int := x.fdiv (2 ^ (min y.toNat k.bits))
@[irreducible] def catS (a b : ByteArray) : ByteArray := a ++ b
@[irreducible] def eqS (a b : ByteArray) : Bool := a.toList == b.toList
@[irreducible] def ltS (a b : ByteArray) : Bool := Op.bytesLess a.toList b.toList
@[irreducible] def cutS (s : ByteArray) (l h : Int) : ByteArray := s.extract l.toNat h.toNat
@[irreducible] def byteS (s : ByteArray) (i : Int) : Int := ((s[i.toNat]?.getD 0).toNat : Int)
@[irreducible] def maxI (x y : Int) : Int := if y > x then y else x
@[irreducible] def minI (x y : Int) : Int := if y < x then y else x
@[irreducible] def CondP (b : Bool) (A B : Prop) : Prop := (b = true → A) ∧ (b = false → B)
@[irreducible] def NeedP (p : Prop) (A : Prop) : Prop := p ∧ A
@[irreducible] def LoadP (S : Store) (c : C) (i : Int) (K : List C → Prop) : Prop := ∃ l, elems S c = some l ∧ ∃ cs, l[i.toNat]? = some cs ∧ 0 ≤ i ∧ K cs
@[irreducible] def RowP (S : Store) (id : Nat) (K : List C → Prop) : Prop := ∃ row cs, S[id]? = some row ∧ row.own = true ∧ row.xs = [cs] ∧ K cs
@[irreducible] def ElemsP (S : Store) (c : C) (K : List (List C) → Prop) : Prop := ∃ l, elems S c = some l ∧ K l
theorem condP_intro {b : Bool} {A B : Prop} (h1 : b = true → A) (h2 : b = false → B) : CondP b A B := by unfold CondP; exact ⟨h1, h2⟩
theorem condP_true {b : Bool} {A B : Prop} (h : b = true) (h1 : A) : CondP b A B := by unfold CondP; exact ⟨fun _ => h1, fun h' => (by rw [h] at h'; cases h')⟩
theorem condP_false {b : Bool} {A B : Prop} (h : b = false) (h1 : B) : CondP b A B := by unfold CondP; exact ⟨fun h' => (by rw [h] at h'; cases h'), fun _ => h1⟩
theorem needP_intro {p A : Prop} (h1 : p) (h2 : A) : NeedP p A := by unfold NeedP; exact ⟨h1, h2⟩
theorem loadP_intro {S : Store} {c : C} {i : Int} {K : List C → Prop} {l : List (List C)} {cs : List C} (h : elems S c = some l) (h1 : l[i.toNat]? = some cs) (h0 : 0 ≤ i) (hK : K cs) : LoadP S c i K := by
  unfold LoadP; exact ⟨l, h, cs, h1, h0, hK⟩
end Go.Proofs.YtibglkkmjigooaaGreat
