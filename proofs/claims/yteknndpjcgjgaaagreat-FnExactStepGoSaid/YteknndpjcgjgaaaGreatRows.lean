/-
  No cell of these rows narrows 'for every input' (looked for: loops, veiled, ifaces, maps, wideKeys, modest, calm, conditions, laid).
  DERIVED. THE GIVEN ROWS OF THIS SEAT. 3 by the template 'for every input the law returns true; each argument reads behind the call as it read before'; 0 by the template 'total and deterministic' (their statements: YteknndpjcgjgaaaGreatTotals.lean).
  GIVEN WITH THE SEED: the statements are not yours to turn. If you find one false, say at which input.
  Laid BY PROGRAM, IN A SANDBOX (cutbox-rows.mjs): the forced cells as the released guide's own fill.sh prints them over the translation dab49805474e7246… (all of the seat's roots in one cut). By AI agents, Wed Nov 11 2026. No macro, syntax, notation, axiom, sorry.
-/
import Derived.Test.YteknndpjcgjgaaaGreatChecked
import GoSem.Claim
import GoSem.ClaimJoined
import GoSem.ClaimMapViews
import Derived.JoinedTies
import Derived.KernelRfl
namespace Go.Proofs.YteknndpjcgjgaaaGreat
/- THE CELL 'sum', in the pinned program and in every row, IS THE sha256 OF THE DUMP (.gsa) THAT YteknndpjcgjgaaaGreatProg.lean LOADS. Nothing in Lean hashes anything: it is a label: what it is worth is what the hold of that sum in a sandbox is worth. -/
noncomputable def Tryz.pinned : Pinned := { name := "yteknndpjcgjgaaagreat", sum := "dab49805474e72462d508ef4efd7f8050e8fbeb7c828ca557f0fde45589e6756", checked := Tryz.checked }
namespace Rows
def none {H : Type} : Left H := { results := [], args := [] }

/-- 'laws.FnExactStepLimit': WHATEVER THE INPUT: true; the input reads as it did. -/
def fnExactStepLimitSpec : ChangeSpec := { name := "fnExactStepLimit", fn := fun _ => fun
  | [d1, d2] => { results := [.lit (.bool true)], args := [d1, d2] }
  | _ => none }
def fnExactStepLimitRow : OpenClaim := { program := "yteknndpjcgjgaaagreat", sum := "dab49805474e72462d508ef4efd7f8050e8fbeb7c828ca557f0fde45589e6756", func := "loop.example/g03001/laws.FnExactStepLimit", spec := "fnExactStepLimit", apart := false }
def FnExactStepLimitSaid : Prop := fnExactStepLimitRow.holds Tryz.pinned (OpenSpec.ofChange fnExactStepLimitSpec)

/-- ITS FALSE NEIGHBOUR: 'it returns false'. Refute it at one input. -/
def fnExactStepLimitWrong : ChangeSpec := { name := "fnExactStepLimit", fn := fun _ => fun
  | [d1, d2] => { results := [.lit (.bool false)], args := [d1, d2] }
  | _ => none }
def FnExactStepLimitWrongFalsely : Prop := fnExactStepLimitRow.holds Tryz.pinned (OpenSpec.ofChange fnExactStepLimitWrong)

/-- 'laws.FnExactStepClick': WHATEVER THE INPUT: true; the input reads as it did. -/
def fnExactStepClickSpec : ChangeSpec := { name := "fnExactStepClick", fn := fun _ => fun
  | [d1, d2, d3] => { results := [.lit (.bool true)], args := [d1, d2, d3] }
  | _ => none }
def fnExactStepClickRow : OpenClaim := { program := "yteknndpjcgjgaaagreat", sum := "dab49805474e72462d508ef4efd7f8050e8fbeb7c828ca557f0fde45589e6756", func := "loop.example/g03001/laws.FnExactStepClick", spec := "fnExactStepClick", apart := false }
def FnExactStepClickSaid : Prop := fnExactStepClickRow.holds Tryz.pinned (OpenSpec.ofChange fnExactStepClickSpec)

/-- ITS FALSE NEIGHBOUR: 'it returns false'. Refute it at one input. -/
def fnExactStepClickWrong : ChangeSpec := { name := "fnExactStepClick", fn := fun _ => fun
  | [d1, d2, d3] => { results := [.lit (.bool false)], args := [d1, d2, d3] }
  | _ => none }
def FnExactStepClickWrongFalsely : Prop := fnExactStepClickRow.holds Tryz.pinned (OpenSpec.ofChange fnExactStepClickWrong)

/-- 'laws.FnExactStepGo': WHATEVER THE INPUT: true; the input reads as it did. -/
def fnExactStepGoSpec : ChangeSpec := { name := "fnExactStepGo", fn := fun _ => fun
  | [d1, d2, d3] => { results := [.lit (.bool true)], args := [d1, d2, d3] }
  | _ => none }
def fnExactStepGoRow : OpenClaim := { program := "yteknndpjcgjgaaagreat", sum := "dab49805474e72462d508ef4efd7f8050e8fbeb7c828ca557f0fde45589e6756", func := "loop.example/g03001/laws.FnExactStepGo", spec := "fnExactStepGo", apart := false }
def FnExactStepGoSaid : Prop := fnExactStepGoRow.holds Tryz.pinned (OpenSpec.ofChange fnExactStepGoSpec)

/-- ITS FALSE NEIGHBOUR: 'it returns false'. Refute it at one input. -/
def fnExactStepGoWrong : ChangeSpec := { name := "fnExactStepGo", fn := fun _ => fun
  | [d1, d2, d3] => { results := [.lit (.bool false)], args := [d1, d2, d3] }
  | _ => none }
def FnExactStepGoWrongFalsely : Prop := fnExactStepGoRow.holds Tryz.pinned (OpenSpec.ofChange fnExactStepGoWrong)

/- THE SECOND FORM. 'bulk': how many values and letters a reading holds, each counted each time it is reached (what is shared counts as often as it is met; a slice's spare places count too). A statement '..UptoSaid' is the law's where the arguments, and the package variables that the reading takes, are together of bulk at most 1048576: NARROWER than '..Said'. Prove '..Said' where nothing that the law and all that it calls make is longer than what came in: it says more and counts as full. Else prove '..UptoSaid'. A law counts once. -/
mutual
def uptoBulk {H : Type} : DataW H → Nat
  | .lit (.string bytes) => bytes.length + 1
  | .lit _ => 1
  | .nil => 1
  | .ptr d => uptoBulk d + 1
  | .slice elems spare => uptoBulkAll elems + uptoBulkAll spare + 1
  | .agg parts => uptoBulkAll parts + 1
  | .iface _ d => uptoBulk d + 1
  | .map entries => uptoBulkEntries entries + 1
  | .held _ => 1
def uptoBulkAll {H : Type} : List (DataW H) → Nat
  | [] => 0
  | d :: r => uptoBulk d + uptoBulkAll r
def uptoBulkEntries {H : Type} : List (Lit × DataW H) → Nat
  | [] => 0
  | x :: r => uptoBulkEntry x + uptoBulkEntries r
def uptoBulkEntry {H : Type} : Lit × DataW H → Nat
  | (.string bytes, d) => bytes.length + uptoBulk d + 1
  | (_, d) => uptoBulk d + 1
 end
def uptoSmall : (H : Type) → List (DataW H) → Bool := fun _ ds => decide (uptoBulkAll ds ≤ 1048576)
def OpenSpec.upto (s : _root_.Go.ChangeSpec) : _root_.Go.OpenSpec := { _root_.Go.OpenSpec.ofChange s with cond := some uptoSmall }

/-- 'laws.FnExactStepLimit', WHERE WHAT IT READS IS OF BULK AT MOST 1048576: true; the input reads as it did. -/
def fnExactStepLimitUptoRow : OpenClaim := { program := "yteknndpjcgjgaaagreat", sum := "dab49805474e72462d508ef4efd7f8050e8fbeb7c828ca557f0fde45589e6756", func := "loop.example/g03001/laws.FnExactStepLimit", spec := "fnExactStepLimit", apart := false, narrowed := true }
def FnExactStepLimitUptoSaid : Prop := fnExactStepLimitUptoRow.holds Tryz.pinned (OpenSpec.upto fnExactStepLimitSpec)

/-- 'laws.FnExactStepClick', WHERE WHAT IT READS IS OF BULK AT MOST 1048576: true; the input reads as it did. -/
def fnExactStepClickUptoRow : OpenClaim := { program := "yteknndpjcgjgaaagreat", sum := "dab49805474e72462d508ef4efd7f8050e8fbeb7c828ca557f0fde45589e6756", func := "loop.example/g03001/laws.FnExactStepClick", spec := "fnExactStepClick", apart := false, narrowed := true }
def FnExactStepClickUptoSaid : Prop := fnExactStepClickUptoRow.holds Tryz.pinned (OpenSpec.upto fnExactStepClickSpec)

/-- 'laws.FnExactStepGo', WHERE WHAT IT READS IS OF BULK AT MOST 1048576: true; the input reads as it did. -/
def fnExactStepGoUptoRow : OpenClaim := { program := "yteknndpjcgjgaaagreat", sum := "dab49805474e72462d508ef4efd7f8050e8fbeb7c828ca557f0fde45589e6756", func := "loop.example/g03001/laws.FnExactStepGo", spec := "fnExactStepGo", apart := false, narrowed := true }
def FnExactStepGoUptoSaid : Prop := fnExactStepGoUptoRow.holds Tryz.pinned (OpenSpec.upto fnExactStepGoSpec)

end Rows
end Go.Proofs.YteknndpjcgjgaaaGreat
