/-
  No cell of these rows narrows 'for every input' (looked for: loops, veiled, ifaces, maps, wideKeys, modest, calm, conditions, laid).
  DERIVED. THE GIVEN ROWS OF THIS SEAT. 4 by the template 'for every input the law returns true; each argument reads behind the call as it read before'; 0 by the template 'total and deterministic' (their statements: YtkobbiflijaklaaGreatTotals.lean).
  GIVEN WITH THE SEED: the statements are not yours to turn. If you find one false, say at which input.
  Laid BY PROGRAM, IN A SANDBOX (cutbox-rows.mjs): the forced cells as the released guide's own fill.sh prints them over the translation 97f977fe12648e88… (all of the seat's roots in one cut). By AI agents, Wed Nov 11 2026. No macro, syntax, notation, axiom, sorry.
-/
import Derived.Test.YtkobbiflijaklaaGreatChecked
import GoSem.Claim
import GoSem.ClaimJoined
import GoSem.ClaimMapViews
import Derived.JoinedTies
import Derived.KernelRfl
namespace Go.Proofs.YtkobbiflijaklaaGreat
/- THE CELL 'sum', in the pinned program and in every row, IS THE sha256 OF THE DUMP (.gsa) THAT YtkobbiflijaklaaGreatProg.lean LOADS. Nothing in Lean hashes anything: it is a label: what it is worth is what the hold of that sum in a sandbox is worth. -/
noncomputable def Tryz.pinned : Pinned := { name := "ytkobbiflijaklaagreat", sum := "97f977fe12648e88aecff4d719149bb09e8b72347c60e64596c425e3d1528af8", checked := Tryz.checked }
namespace Rows
def none {H : Type} : Left H := { results := [], args := [] }

/-- 'laws.FnExactReadTab': WHATEVER THE INPUT: true; the input reads as it did. -/
def fnExactReadTabSpec : ChangeSpec := { name := "fnExactReadTab", fn := fun _ => fun
  | [d1, d2, d3] => { results := [.lit (.bool true)], args := [d1, d2, d3] }
  | _ => none }
def fnExactReadTabRow : OpenClaim := { program := "ytkobbiflijaklaagreat", sum := "97f977fe12648e88aecff4d719149bb09e8b72347c60e64596c425e3d1528af8", func := "loop.example/g03001/laws.FnExactReadTab", spec := "fnExactReadTab", inPlace := ["slices.overlaps[loop.example/g03001/impl.Node]"], apart := false }
def FnExactReadTabSaid : Prop := fnExactReadTabRow.holds Tryz.pinned (OpenSpec.ofChange fnExactReadTabSpec)

/-- ITS FALSE NEIGHBOUR: 'it returns false'. Refute it at one input. -/
def fnExactReadTabWrong : ChangeSpec := { name := "fnExactReadTab", fn := fun _ => fun
  | [d1, d2, d3] => { results := [.lit (.bool false)], args := [d1, d2, d3] }
  | _ => none }
def FnExactReadTabWrongFalsely : Prop := fnExactReadTabRow.holds Tryz.pinned (OpenSpec.ofChange fnExactReadTabWrong)

/-- 'laws.FnExactPageEdit': WHATEVER THE INPUT: true; the input reads as it did. -/
def fnExactPageEditSpec : ChangeSpec := { name := "fnExactPageEdit", fn := fun _ => fun
  | [d1, d2, d3] => { results := [.lit (.bool true)], args := [d1, d2, d3] }
  | _ => none }
def fnExactPageEditRow : OpenClaim := { program := "ytkobbiflijaklaagreat", sum := "97f977fe12648e88aecff4d719149bb09e8b72347c60e64596c425e3d1528af8", func := "loop.example/g03001/laws.FnExactPageEdit", spec := "fnExactPageEdit", inPlace := ["slices.overlaps[loop.example/g03001/impl.Node]"], apart := false }
def FnExactPageEditSaid : Prop := fnExactPageEditRow.holds Tryz.pinned (OpenSpec.ofChange fnExactPageEditSpec)

/-- ITS FALSE NEIGHBOUR: 'it returns false'. Refute it at one input. -/
def fnExactPageEditWrong : ChangeSpec := { name := "fnExactPageEdit", fn := fun _ => fun
  | [d1, d2, d3] => { results := [.lit (.bool false)], args := [d1, d2, d3] }
  | _ => none }
def FnExactPageEditWrongFalsely : Prop := fnExactPageEditRow.holds Tryz.pinned (OpenSpec.ofChange fnExactPageEditWrong)

/-- 'laws.FnExactWriteTab': WHATEVER THE INPUT: true; the input reads as it did. -/
def fnExactWriteTabSpec : ChangeSpec := { name := "fnExactWriteTab", fn := fun _ => fun
  | [d1, d2, d3, d4] => { results := [.lit (.bool true)], args := [d1, d2, d3, d4] }
  | _ => none }
def fnExactWriteTabRow : OpenClaim := { program := "ytkobbiflijaklaagreat", sum := "97f977fe12648e88aecff4d719149bb09e8b72347c60e64596c425e3d1528af8", func := "loop.example/g03001/laws.FnExactWriteTab", spec := "fnExactWriteTab", inPlace := ["slices.overlaps[loop.example/g03001/impl.Node]"], apart := false }
def FnExactWriteTabSaid : Prop := fnExactWriteTabRow.holds Tryz.pinned (OpenSpec.ofChange fnExactWriteTabSpec)

/-- ITS FALSE NEIGHBOUR: 'it returns false'. Refute it at one input. -/
def fnExactWriteTabWrong : ChangeSpec := { name := "fnExactWriteTab", fn := fun _ => fun
  | [d1, d2, d3, d4] => { results := [.lit (.bool false)], args := [d1, d2, d3, d4] }
  | _ => none }
def FnExactWriteTabWrongFalsely : Prop := fnExactWriteTabRow.holds Tryz.pinned (OpenSpec.ofChange fnExactWriteTabWrong)

/-- 'laws.FnExactChangedNodes': WHATEVER THE INPUT: true; the input reads as it did. -/
def fnExactChangedNodesSpec : ChangeSpec := { name := "fnExactChangedNodes", fn := fun _ => fun
  | [d1, d2] => { results := [.lit (.bool true)], args := [d1, d2] }
  | _ => none }
def fnExactChangedNodesRow : OpenClaim := { program := "ytkobbiflijaklaagreat", sum := "97f977fe12648e88aecff4d719149bb09e8b72347c60e64596c425e3d1528af8", func := "loop.example/g03001/laws.FnExactChangedNodes", spec := "fnExactChangedNodes", inPlace := ["slices.overlaps[loop.example/g03001/impl.Node]"], recurses := true, apart := false }
def FnExactChangedNodesSaid : Prop := fnExactChangedNodesRow.holds Tryz.pinned (OpenSpec.ofChange fnExactChangedNodesSpec)

/-- ITS FALSE NEIGHBOUR: 'it returns false'. Refute it at one input. -/
def fnExactChangedNodesWrong : ChangeSpec := { name := "fnExactChangedNodes", fn := fun _ => fun
  | [d1, d2] => { results := [.lit (.bool false)], args := [d1, d2] }
  | _ => none }
def FnExactChangedNodesWrongFalsely : Prop := fnExactChangedNodesRow.holds Tryz.pinned (OpenSpec.ofChange fnExactChangedNodesWrong)

/- THE SECOND FORM. 'bulk': how many values and letters a reading holds, each counted each time it is reached (what is shared counts as often as it is met; a slice's spare places count too). A statement '..UptoSaid' is the law's where the arguments, and the package variables that the reading takes, are together of bulk at most 1048576: NARROWER than '..Said'. Prove '..Said' where nothing that the law and all that it calls make is longer than what came in: it says more and counts as full. Else prove '..UptoSaid'. A law counts once. -/
mutual
def uptoBulk {H : Type} : DataW H → Nat
  | .lit (.string bytes) => bytes.length + 1
  | .lit _ => 1
  | .nil => 1
  | .ptr d => uptoBulk d + 1
  | .slice elems spare => uptoBulkAll elems + uptoBulkAll spare + 1
  | .agg parts => uptoBulkAll parts + 1
  | .iface _ d => uptoBulk d + 1
  | .map entries => uptoBulkEntries entries + 1
  | .held _ => 1
def uptoBulkAll {H : Type} : List (DataW H) → Nat
  | [] => 0
  | d :: r => uptoBulk d + uptoBulkAll r
def uptoBulkEntries {H : Type} : List (Lit × DataW H) → Nat
  | [] => 0
  | x :: r => uptoBulkEntry x + uptoBulkEntries r
def uptoBulkEntry {H : Type} : Lit × DataW H → Nat
  | (.string bytes, d) => bytes.length + uptoBulk d + 1
  | (_, d) => uptoBulk d + 1
 end
def uptoSmall : (H : Type) → List (DataW H) → Bool := fun _ ds => decide (uptoBulkAll ds ≤ 1048576)
def OpenSpec.upto (s : _root_.Go.ChangeSpec) : _root_.Go.OpenSpec := { _root_.Go.OpenSpec.ofChange s with cond := some uptoSmall }

/-- 'laws.FnExactReadTab', WHERE WHAT IT READS IS OF BULK AT MOST 1048576: true; the input reads as it did. -/
def fnExactReadTabUptoRow : OpenClaim := { program := "ytkobbiflijaklaagreat", sum := "97f977fe12648e88aecff4d719149bb09e8b72347c60e64596c425e3d1528af8", func := "loop.example/g03001/laws.FnExactReadTab", spec := "fnExactReadTab", inPlace := ["slices.overlaps[loop.example/g03001/impl.Node]"], apart := false, narrowed := true }
def FnExactReadTabUptoSaid : Prop := fnExactReadTabUptoRow.holds Tryz.pinned (OpenSpec.upto fnExactReadTabSpec)

/-- 'laws.FnExactPageEdit', WHERE WHAT IT READS IS OF BULK AT MOST 1048576: true; the input reads as it did. -/
def fnExactPageEditUptoRow : OpenClaim := { program := "ytkobbiflijaklaagreat", sum := "97f977fe12648e88aecff4d719149bb09e8b72347c60e64596c425e3d1528af8", func := "loop.example/g03001/laws.FnExactPageEdit", spec := "fnExactPageEdit", inPlace := ["slices.overlaps[loop.example/g03001/impl.Node]"], apart := false, narrowed := true }
def FnExactPageEditUptoSaid : Prop := fnExactPageEditUptoRow.holds Tryz.pinned (OpenSpec.upto fnExactPageEditSpec)

/-- 'laws.FnExactWriteTab', WHERE WHAT IT READS IS OF BULK AT MOST 1048576: true; the input reads as it did. -/
def fnExactWriteTabUptoRow : OpenClaim := { program := "ytkobbiflijaklaagreat", sum := "97f977fe12648e88aecff4d719149bb09e8b72347c60e64596c425e3d1528af8", func := "loop.example/g03001/laws.FnExactWriteTab", spec := "fnExactWriteTab", inPlace := ["slices.overlaps[loop.example/g03001/impl.Node]"], apart := false, narrowed := true }
def FnExactWriteTabUptoSaid : Prop := fnExactWriteTabUptoRow.holds Tryz.pinned (OpenSpec.upto fnExactWriteTabSpec)

/-- 'laws.FnExactChangedNodes', WHERE WHAT IT READS IS OF BULK AT MOST 1048576: true; the input reads as it did. -/
def fnExactChangedNodesUptoRow : OpenClaim := { program := "ytkobbiflijaklaagreat", sum := "97f977fe12648e88aecff4d719149bb09e8b72347c60e64596c425e3d1528af8", func := "loop.example/g03001/laws.FnExactChangedNodes", spec := "fnExactChangedNodes", inPlace := ["slices.overlaps[loop.example/g03001/impl.Node]"], recurses := true, apart := false, narrowed := true }
def FnExactChangedNodesUptoSaid : Prop := fnExactChangedNodesUptoRow.holds Tryz.pinned (OpenSpec.upto fnExactChangedNodesSpec)

end Rows
end Go.Proofs.YtkobbiflijaklaaGreat
