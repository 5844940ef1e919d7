/- An abstract evaluator over the model's code: abstract values, rows, what one operation and a piece of code do with them. -/
import Derived.Calls
import Derived.Lib.ItoaNum
import Derived.Control
import Derived.KernelRfl
import Derived.Maps.AppendAt
import Derived.Deep.AppendLies
import Derived.ArgAppend
import Derived.Laws.Rows
import Derived.Laws.IdiomCopy
import Derived.Tactics
import Derived.IntWalk
namespace Go.Proofs.Ytfkfoidojmjacaa
open Go
set_option linter.unusedVariables false
set_option linter.unusedSimpArgs false

/-- What lies in one cell. A slice: its row, where it begins there, its length, the row's length when it was made. -/
inductive C where
  | int (k : IntKind) (n : Int)
  | bool (b : Bool)
  | str (s : ByteArray)
  | sl (id off len tot : Nat)
  | nil
  | zc
  | pt (id : Nat)
  | fn (f : Nat)
  | junk
  deriving Inhabited

inductive V where
  | s (c : C)
  | agg (xs : List C)
  deriving Inhabited

/-- What a temporary holds. 'box': the address of a variable of the frame's own, with what lies there; 'plc': an address inside such a variable; 'el': an address inside an element of a slice; 'pe': inside what 'pt' points to. 'lst': a slice literal that was not yet handed on. 'tt', 'ff': a test that was decided. 'und': nothing was put there. -/
inductive AV where
  | v (x : V)
  | tup (vs : List V)
  | box (xs : List C)
  | plc (d off : Nat)
  | el (c : C) (i : Int) (off : Nat)
  | pe (id off : Nat)
  | lst (k : Nat) (xs : List (List C))
  | nb (xs : List C)
  | tt
  | ff
  | und
  | top
  deriving Inhabited

structure Row where
  own : Bool
  k : Nat
  xs : List (List C)
  deriving Inhabited

abbrev Store := List Row
abbrev Env := List AV

def elems (S : Store) : C → Option (List (List C))
  | .nil => some []
  | .zc => some []
  | .sl id o n t => match S[id]? with
    | some row => if row.xs.length = t ∧ o + n ≤ t then some ((row.xs.drop o).take n) else none
    | none => none
  | _ => none

/-- Go's len of a slice or a string. -/
def clen : C → Int
  | .sl _ _ n _ => n
  | .str s => s.size
  | _ => 0

def rowOf : C → Nat
  | .sl id _ _ _ => id
  | _ => 0

/-- A slice of a row that the call may write, and of all of it. -/
def OwnAll (S : Store) : C → Prop
  | .sl id o n t => o = 0 ∧ n = t ∧ ∃ row, S[id]? = some row ∧ row.own = true ∧ row.xs.length = t
  | _ => False

/-- A slice of a row that the call may write. -/
def OwnRow (S : Store) : C → Prop
  | .sl id o n t => ∃ row, S[id]? = some row ∧ row.own = true ∧ row.xs.length = t ∧ o + n ≤ t
  | _ => False

/-- the row of a slice gets these elements -/
def setXs (S : Store) (c : C) (xs : List (List C)) : Store :=
  match c with
  | .sl id _ _ _ => S.set id ⟨true, ((S[id]?).map Row.k).getD 0, xs⟩
  | _ => S

def rowK (S : Store) (c : C) : Nat := ((S[rowOf c]?).map Row.k).getD 0

/-- the row's element i (of the slice) written from cell 'off' on -/
def putCells (cs : List C) (off : Nat) (ys : List C) : List C := cs.take off ++ ys ++ cs.drop (off + ys.length)

def setEl (S : Store) (c : C) (i : Nat) (off : Nat) (ys : List C) : Store :=
  match c with
  | .sl id o _ _ => match S[id]? with
    | some row => S.set id ⟨row.own, row.k, row.xs.modify (o + i) (fun cs => putCells cs off ys)⟩
    | none => S
  | _ => S

def V.cells : V → List C
  | .s c => [c]
  | .agg xs => xs

/-- the block of the one table that the program's start lays and that the walk leans on, and what lies there (if there is one) -/
def tabAt : Option (Nat × Array Value) := none

/-! ### types: what the operations ask of them -/
inductive TK where
  | scalar (d : Nat)
  | struct (offs : List Nat)
  | array (len el : Nat)
  | slice (el : Nat)
  deriving Inhabited

structure TI where
  kd : TK
  sz : Nat
  by' : Nat
  zero : List C
  eq : List Nat := []
  ft : List Nat := []
  deriving Inhabited

def TK.agg : TK → Bool
  | .struct _ | .array _ _ => true
  | _ => false

abbrev TT := Nat → Option TI

def mkV (agg : Bool) (cs : List C) : V := if agg then .agg cs else .s (cs.headD .junk)

/-! ### what is left open for the proofs: heads at which the computation stands still -/
@[irreducible] def wrapI (k : IntKind) (n : Int) : Int := k.wrap n
@[irreducible] def bitsI (op : BinOp) (k : IntKind) (x y : Int) : Int :=
  let a := BitVec.ofInt k.bits x
  let b := BitVec.ofInt k.bits y
  match op with
  | .and => k.wrap (a &&& b).toNat
  | .or => k.wrap (a ||| b).toNat
  | .xor => k.wrap (a ^^^ b).toNat
  | _ => k.wrap (a &&& ~~~b).toNat
@[irreducible] def shlI (k : IntKind) (x y : Int) : Int := k.wrap (x * 2 ^ (min y.toNat k.bits))
@[irreducible] def shrI (k : IntKind) (x y : Int) : Int := x.fdiv (2 ^ (min y.toNat k.bits))
@[irreducible] def catS (a b : ByteArray) : ByteArray := a ++ b
@[irreducible] def eqS (a b : ByteArray) : Bool := a.toList == b.toList
@[irreducible] def ltS (a b : ByteArray) : Bool := Op.bytesLess a.toList b.toList
@[irreducible] def cutS (s : ByteArray) (l h : Int) : ByteArray := s.extract l.toNat h.toNat
@[irreducible] def byteS (s : ByteArray) (i : Int) : Int := ((s[i.toNat]?.getD 0).toNat : Int)
@[irreducible] def maxI (x y : Int) : Int := if y > x then y else x
@[irreducible] def minI (x y : Int) : Int := if y < x then y else x
@[irreducible] def CondP (b : Bool) (A B : Prop) : Prop := (b = true → A) ∧ (b = false → B)
@[irreducible] def NeedP (p : Prop) (A : Prop) : Prop := p ∧ A
@[irreducible] def LoadP (S : Store) (c : C) (i : Int) (K : List C → Prop) : Prop := ∃ l, elems S c = some l ∧ ∃ cs, l[i.toNat]? = some cs ∧ 0 ≤ i ∧ K cs
@[irreducible] def RowP (S : Store) (id : Nat) (K : List C → Prop) : Prop := ∃ row cs, S[id]? = some row ∧ row.own = true ∧ row.xs = [cs] ∧ K cs
@[irreducible] def ElemsP (S : Store) (c : C) (K : List (List C) → Prop) : Prop := ∃ l, elems S c = some l ∧ K l

theorem condP_intro {b : Bool} {A B : Prop} (h1 : b = true → A) (h2 : b = false → B) : CondP b A B := by unfold CondP; exact ⟨h1, h2⟩
theorem condP_true {b : Bool} {A B : Prop} (h : b = true) (h1 : A) : CondP b A B := by unfold CondP; exact ⟨fun _ => h1, fun h' => (by rw [h] at h'; cases h')⟩
theorem condP_false {b : Bool} {A B : Prop} (h : b = false) (h1 : B) : CondP b A B := by unfold CondP; exact ⟨fun h' => (by rw [h] at h'; cases h'), fun _ => h1⟩
theorem needP_intro {p A : Prop} (h1 : p) (h2 : A) : NeedP p A := by unfold NeedP; exact ⟨h1, h2⟩
theorem loadP_intro {S : Store} {c : C} {i : Int} {K : List C → Prop} {l : List (List C)} {cs : List C} (h : elems S c = some l) (h1 : l[i.toNat]? = some cs) (h0 : 0 ≤ i) (hK : K cs) : LoadP S c i K := by
  unfold LoadP; exact ⟨l, h, cs, h1, h0, hK⟩
theorem rowP_intro {S : Store} {id : Nat} {K : List C → Prop} {row : Row} {cs : List C} (h : S[id]? = some row) (ho : row.own = true) (h1 : row.xs = [cs]) (hK : K cs) : RowP S id K := by
  unfold RowP; exact ⟨row, cs, h, ho, h1, hK⟩
theorem elemsP_intro {S : Store} {c : C} {K : List (List C) → Prop} {l : List (List C)} (h : elems S c = some l) (hK : K l) : ElemsP S c K := by
  unfold ElemsP; exact ⟨l, h, hK⟩
end Go.Proofs.Ytfkfoidojmjacaa
