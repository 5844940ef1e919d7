/-
  No cell of these rows narrows 'for every input' (looked for: loops, veiled, ifaces, maps, wideKeys, modest, calm, conditions, laid).
  DERIVED. THE GIVEN ROWS OF THIS SEAT. 5 by the template 'for every input the law returns true; each argument reads behind the call as it read before'; 0 by the template 'total and deterministic' (their statements: YtibglkkmjigooaaGreatTotals.lean).
  GIVEN WITH THE SEED: the statements are not yours to turn. If you find one false, say at which input.
  Laid BY PROGRAM, IN A SANDBOX (cutbox-rows.mjs): the forced cells as the released guide's own fill.sh prints them over the translation f6c53347165c2938… (all of the seat's roots in one cut). By AI agents, Wed Nov 11 2026. No macro, syntax, notation, axiom, sorry.
-/
import Derived.Test.YtibglkkmjigooaaGreatChecked
import GoSem.Claim
import GoSem.ClaimJoined
import GoSem.ClaimMapViews
import Derived.JoinedTies
import Derived.KernelRfl
namespace Go.Proofs.YtibglkkmjigooaaGreat
/- THE CELL 'sum', in the pinned program and in every row, IS THE sha256 OF THE DUMP (.gsa) THAT YtibglkkmjigooaaGreatProg.lean LOADS. Nothing in Lean hashes anything: it is a label: what it is worth is what the hold of that sum in a sandbox is worth. -/
noncomputable def Tryz.pinned : Pinned := { name := "ytibglkkmjigooaagreat", sum := "f6c53347165c2938de0df3665ab22805410cbf8211b3c0097b450558822b93cf", checked := Tryz.checked }
namespace Rows
def none {H : Type} : Left H := { results := [], args := [] }

/-- 'laws.FnExactStepRemove': WHATEVER THE INPUT: true; the input reads as it did. -/
def fnExactStepRemoveSpec : ChangeSpec := { name := "fnExactStepRemove", fn := fun _ => fun
  | [d1, d2] => { results := [.lit (.bool true)], args := [d1, d2] }
  | _ => none }
def fnExactStepRemoveRow : OpenClaim := { program := "ytibglkkmjigooaagreat", sum := "f6c53347165c2938de0df3665ab22805410cbf8211b3c0097b450558822b93cf", func := "loop.example/g03001/laws.FnExactStepRemove", spec := "fnExactStepRemove", apart := false }
def FnExactStepRemoveSaid : Prop := fnExactStepRemoveRow.holds Tryz.pinned (OpenSpec.ofChange fnExactStepRemoveSpec)

/-- ITS FALSE NEIGHBOUR: 'it returns false'. Refute it at one input. -/
def fnExactStepRemoveWrong : ChangeSpec := { name := "fnExactStepRemove", fn := fun _ => fun
  | [d1, d2] => { results := [.lit (.bool false)], args := [d1, d2] }
  | _ => none }
def FnExactStepRemoveWrongFalsely : Prop := fnExactStepRemoveRow.holds Tryz.pinned (OpenSpec.ofChange fnExactStepRemoveWrong)

/-- 'laws.FnExactIsReviewed': WHATEVER THE INPUT: true; the input reads as it did. -/
def fnExactIsReviewedSpec : ChangeSpec := { name := "fnExactIsReviewed", fn := fun _ => fun
  | [d] => { results := [.lit (.bool true)], args := [d] }
  | _ => none }
def fnExactIsReviewedRow : OpenClaim := { program := "ytibglkkmjigooaagreat", sum := "f6c53347165c2938de0df3665ab22805410cbf8211b3c0097b450558822b93cf", func := "loop.example/g03001/laws.FnExactIsReviewed", spec := "fnExactIsReviewed", recurses := true, apart := false }
def FnExactIsReviewedSaid : Prop := fnExactIsReviewedRow.holds Tryz.pinned (OpenSpec.ofChange fnExactIsReviewedSpec)

/-- ITS FALSE NEIGHBOUR: 'it returns false'. Refute it at one input. -/
def fnExactIsReviewedWrong : ChangeSpec := { name := "fnExactIsReviewed", fn := fun _ => fun
  | [d] => { results := [.lit (.bool false)], args := [d] }
  | _ => none }
def FnExactIsReviewedWrongFalsely : Prop := fnExactIsReviewedRow.holds Tryz.pinned (OpenSpec.ofChange fnExactIsReviewedWrong)

/-- 'laws.FnExactFaultOf': WHATEVER THE INPUT: true; the input reads as it did. -/
def fnExactFaultOfSpec : ChangeSpec := { name := "fnExactFaultOf", fn := fun _ => fun
  | [d] => { results := [.lit (.bool true)], args := [d] }
  | _ => none }
def fnExactFaultOfRow : OpenClaim := { program := "ytibglkkmjigooaagreat", sum := "f6c53347165c2938de0df3665ab22805410cbf8211b3c0097b450558822b93cf", func := "loop.example/g03001/laws.FnExactFaultOf", spec := "fnExactFaultOf", recurses := true, apart := false }
def FnExactFaultOfSaid : Prop := fnExactFaultOfRow.holds Tryz.pinned (OpenSpec.ofChange fnExactFaultOfSpec)

/-- ITS FALSE NEIGHBOUR: 'it returns false'. Refute it at one input. -/
def fnExactFaultOfWrong : ChangeSpec := { name := "fnExactFaultOf", fn := fun _ => fun
  | [d] => { results := [.lit (.bool false)], args := [d] }
  | _ => none }
def FnExactFaultOfWrongFalsely : Prop := fnExactFaultOfRow.holds Tryz.pinned (OpenSpec.ofChange fnExactFaultOfWrong)

/-- 'laws.FnExactStepInstall': WHATEVER THE INPUT: true; the input reads as it did. -/
def fnExactStepInstallSpec : ChangeSpec := { name := "fnExactStepInstall", fn := fun _ => fun
  | [d1, d2] => { results := [.lit (.bool true)], args := [d1, d2] }
  | _ => none }
def fnExactStepInstallRow : OpenClaim := { program := "ytibglkkmjigooaagreat", sum := "f6c53347165c2938de0df3665ab22805410cbf8211b3c0097b450558822b93cf", func := "loop.example/g03001/laws.FnExactStepInstall", spec := "fnExactStepInstall", inPlace := ["slices.overlaps[loop.example/g03001/impl.Package]"], recurses := true, apart := false }
def FnExactStepInstallSaid : Prop := fnExactStepInstallRow.holds Tryz.pinned (OpenSpec.ofChange fnExactStepInstallSpec)

/-- ITS FALSE NEIGHBOUR: 'it returns false'. Refute it at one input. -/
def fnExactStepInstallWrong : ChangeSpec := { name := "fnExactStepInstall", fn := fun _ => fun
  | [d1, d2] => { results := [.lit (.bool false)], args := [d1, d2] }
  | _ => none }
def FnExactStepInstallWrongFalsely : Prop := fnExactStepInstallRow.holds Tryz.pinned (OpenSpec.ofChange fnExactStepInstallWrong)

/-- 'laws.FnExactStepUpdate': WHATEVER THE INPUT: true; the input reads as it did. -/
def fnExactStepUpdateSpec : ChangeSpec := { name := "fnExactStepUpdate", fn := fun _ => fun
  | [d1, d2, d3] => { results := [.lit (.bool true)], args := [d1, d2, d3] }
  | _ => none }
def fnExactStepUpdateRow : OpenClaim := { program := "ytibglkkmjigooaagreat", sum := "f6c53347165c2938de0df3665ab22805410cbf8211b3c0097b450558822b93cf", func := "loop.example/g03001/laws.FnExactStepUpdate", spec := "fnExactStepUpdate", recurses := true, apart := false }
def FnExactStepUpdateSaid : Prop := fnExactStepUpdateRow.holds Tryz.pinned (OpenSpec.ofChange fnExactStepUpdateSpec)

/-- ITS FALSE NEIGHBOUR: 'it returns false'. Refute it at one input. -/
def fnExactStepUpdateWrong : ChangeSpec := { name := "fnExactStepUpdate", fn := fun _ => fun
  | [d1, d2, d3] => { results := [.lit (.bool false)], args := [d1, d2, d3] }
  | _ => none }
def FnExactStepUpdateWrongFalsely : Prop := fnExactStepUpdateRow.holds Tryz.pinned (OpenSpec.ofChange fnExactStepUpdateWrong)

/- THE SECOND FORM. 'bulk': how many values and letters a reading holds, each counted each time it is reached (what is shared counts as often as it is met; a slice's spare places count too). A statement '..UptoSaid' is the law's where the arguments, and the package variables that the reading takes, are together of bulk at most 1048576: NARROWER than '..Said'. Prove '..Said' where nothing that the law and all that it calls make is longer than what came in: it says more and counts as full. Else prove '..UptoSaid'. A law counts once. -/
mutual
def uptoBulk {H : Type} : DataW H → Nat
  | .lit (.string bytes) => bytes.length + 1
  | .lit _ => 1
  | .nil => 1
  | .ptr d => uptoBulk d + 1
  | .slice elems spare => uptoBulkAll elems + uptoBulkAll spare + 1
  | .agg parts => uptoBulkAll parts + 1
  | .iface _ d => uptoBulk d + 1
  | .map entries => uptoBulkEntries entries + 1
  | .held _ => 1
def uptoBulkAll {H : Type} : List (DataW H) → Nat
  | [] => 0
  | d :: r => uptoBulk d + uptoBulkAll r
def uptoBulkEntries {H : Type} : List (Lit × DataW H) → Nat
  | [] => 0
  | x :: r => uptoBulkEntry x + uptoBulkEntries r
def uptoBulkEntry {H : Type} : Lit × DataW H → Nat
  | (.string bytes, d) => bytes.length + uptoBulk d + 1
  | (_, d) => uptoBulk d + 1
 end
def uptoSmall : (H : Type) → List (DataW H) → Bool := fun _ ds => decide (uptoBulkAll ds ≤ 1048576)
def OpenSpec.upto (s : _root_.Go.ChangeSpec) : _root_.Go.OpenSpec := { _root_.Go.OpenSpec.ofChange s with cond := some uptoSmall }

/-- 'laws.FnExactStepRemove', WHERE WHAT IT READS IS OF BULK AT MOST 1048576: true; the input reads as it did. -/
def fnExactStepRemoveUptoRow : OpenClaim := { program := "ytibglkkmjigooaagreat", sum := "f6c53347165c2938de0df3665ab22805410cbf8211b3c0097b450558822b93cf", func := "loop.example/g03001/laws.FnExactStepRemove", spec := "fnExactStepRemove", apart := false, narrowed := true }
def FnExactStepRemoveUptoSaid : Prop := fnExactStepRemoveUptoRow.holds Tryz.pinned (OpenSpec.upto fnExactStepRemoveSpec)

/-- 'laws.FnExactIsReviewed', WHERE WHAT IT READS IS OF BULK AT MOST 1048576: true; the input reads as it did. -/
def fnExactIsReviewedUptoRow : OpenClaim := { program := "ytibglkkmjigooaagreat", sum := "f6c53347165c2938de0df3665ab22805410cbf8211b3c0097b450558822b93cf", func := "loop.example/g03001/laws.FnExactIsReviewed", spec := "fnExactIsReviewed", recurses := true, apart := false, narrowed := true }
def FnExactIsReviewedUptoSaid : Prop := fnExactIsReviewedUptoRow.holds Tryz.pinned (OpenSpec.upto fnExactIsReviewedSpec)

/-- 'laws.FnExactFaultOf', WHERE WHAT IT READS IS OF BULK AT MOST 1048576: true; the input reads as it did. -/
def fnExactFaultOfUptoRow : OpenClaim := { program := "ytibglkkmjigooaagreat", sum := "f6c53347165c2938de0df3665ab22805410cbf8211b3c0097b450558822b93cf", func := "loop.example/g03001/laws.FnExactFaultOf", spec := "fnExactFaultOf", recurses := true, apart := false, narrowed := true }
def FnExactFaultOfUptoSaid : Prop := fnExactFaultOfUptoRow.holds Tryz.pinned (OpenSpec.upto fnExactFaultOfSpec)

/-- 'laws.FnExactStepInstall', WHERE WHAT IT READS IS OF BULK AT MOST 1048576: true; the input reads as it did. -/
def fnExactStepInstallUptoRow : OpenClaim := { program := "ytibglkkmjigooaagreat", sum := "f6c53347165c2938de0df3665ab22805410cbf8211b3c0097b450558822b93cf", func := "loop.example/g03001/laws.FnExactStepInstall", spec := "fnExactStepInstall", inPlace := ["slices.overlaps[loop.example/g03001/impl.Package]"], recurses := true, apart := false, narrowed := true }
def FnExactStepInstallUptoSaid : Prop := fnExactStepInstallUptoRow.holds Tryz.pinned (OpenSpec.upto fnExactStepInstallSpec)

/-- 'laws.FnExactStepUpdate', WHERE WHAT IT READS IS OF BULK AT MOST 1048576: true; the input reads as it did. -/
def fnExactStepUpdateUptoRow : OpenClaim := { program := "ytibglkkmjigooaagreat", sum := "f6c53347165c2938de0df3665ab22805410cbf8211b3c0097b450558822b93cf", func := "loop.example/g03001/laws.FnExactStepUpdate", spec := "fnExactStepUpdate", recurses := true, apart := false, narrowed := true }
def FnExactStepUpdateUptoSaid : Prop := fnExactStepUpdateUptoRow.holds Tryz.pinned (OpenSpec.upto fnExactStepUpdateSpec)

end Rows
end Go.Proofs.YtibglkkmjigooaaGreat
