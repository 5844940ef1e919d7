/-
  No cell of these rows narrows 'for every input' (looked for: loops, veiled, ifaces, maps, wideKeys, modest, calm, conditions, laid).
  DERIVED. THE GIVEN ROWS OF THIS SEAT. 5 by the template 'for every input the law returns true; each argument reads behind the call as it read before'; 0 by the template 'total and deterministic' (their statements: YtlmmdpmmdmhacaaGreatTotals.lean).
  GIVEN WITH THE SEED: the statements are not yours to turn. If you find one false, say at which input.
  Laid BY PROGRAM, IN A SANDBOX (cutbox-rows.mjs): the forced cells as the released guide's own fill.sh prints them over the translation 02c347defc901207… (all of the seat's roots in one cut). By AI agents, Wed Nov 11 2026. No macro, syntax, notation, axiom, sorry.
-/
import Derived.Test.YtlmmdpmmdmhacaaGreatChecked
import GoSem.Claim
import GoSem.ClaimJoined
import GoSem.ClaimMapViews
import Derived.JoinedTies
import Derived.KernelRfl
namespace Go.Proofs.YtlmmdpmmdmhacaaGreat
/- THE CELL 'sum', in the pinned program and in every row, IS THE sha256 OF THE DUMP (.gsa) THAT YtlmmdpmmdmhacaaGreatProg.lean LOADS. Nothing in Lean hashes anything: it is a label: what it is worth is what the hold of that sum in a sandbox is worth. -/
noncomputable def Tryz.pinned : Pinned := { name := "ytlmmdpmmdmhacaagreat", sum := "02c347defc901207ff269e678f308bc81e24cc3c51324e0b370b077ac1527546", checked := Tryz.checked }
namespace Rows
def none {H : Type} : Left H := { results := [], args := [] }

/-- 'laws.FnAudited': WHATEVER THE INPUT: true; the input reads as it did. -/
def fnAuditedSpec : ChangeSpec := { name := "fnAudited", fn := fun _ => fun
  | [d] => { results := [.lit (.bool true)], args := [d] }
  | _ => none }
def fnAuditedRow : OpenClaim := { program := "ytlmmdpmmdmhacaagreat", sum := "02c347defc901207ff269e678f308bc81e24cc3c51324e0b370b077ac1527546", func := "loop.example/g03001/laws.FnAudited", spec := "fnAudited", recurses := true, apart := false }
def FnAuditedSaid : Prop := fnAuditedRow.holds Tryz.pinned (OpenSpec.ofChange fnAuditedSpec)

/-- ITS FALSE NEIGHBOUR: 'it returns false'. Refute it at one input. -/
def fnAuditedWrong : ChangeSpec := { name := "fnAudited", fn := fun _ => fun
  | [d] => { results := [.lit (.bool false)], args := [d] }
  | _ => none }
def FnAuditedWrongFalsely : Prop := fnAuditedRow.holds Tryz.pinned (OpenSpec.ofChange fnAuditedWrong)

/-- 'laws.FnMeasured': WHATEVER THE INPUT: true; the input reads as it did. -/
def fnMeasuredSpec : ChangeSpec := { name := "fnMeasured", fn := fun _ => fun
  | [d] => { results := [.lit (.bool true)], args := [d] }
  | _ => none }
def fnMeasuredRow : OpenClaim := { program := "ytlmmdpmmdmhacaagreat", sum := "02c347defc901207ff269e678f308bc81e24cc3c51324e0b370b077ac1527546", func := "loop.example/g03001/laws.FnMeasured", spec := "fnMeasured", inPlace := ["slices.overlaps[loop.example/g03001/impl.Node]"], recurses := true, apart := false }
def FnMeasuredSaid : Prop := fnMeasuredRow.holds Tryz.pinned (OpenSpec.ofChange fnMeasuredSpec)

/-- ITS FALSE NEIGHBOUR: 'it returns false'. Refute it at one input. -/
def fnMeasuredWrong : ChangeSpec := { name := "fnMeasured", fn := fun _ => fun
  | [d] => { results := [.lit (.bool false)], args := [d] }
  | _ => none }
def FnMeasuredWrongFalsely : Prop := fnMeasuredRow.holds Tryz.pinned (OpenSpec.ofChange fnMeasuredWrong)

/-- 'laws.FnSteps': WHATEVER THE INPUT: true; the input reads as it did. -/
def fnStepsSpec : ChangeSpec := { name := "fnSteps", fn := fun _ => fun
  | [d] => { results := [.lit (.bool true)], args := [d] }
  | _ => none }
def fnStepsRow : OpenClaim := { program := "ytlmmdpmmdmhacaagreat", sum := "02c347defc901207ff269e678f308bc81e24cc3c51324e0b370b077ac1527546", func := "loop.example/g03001/laws.FnSteps", spec := "fnSteps", inPlace := ["slices.overlaps[loop.example/g03001/impl.Package]"], unfollowed := true, recurses := true, apart := false }
def FnStepsSaid : Prop := fnStepsRow.holds Tryz.pinned (OpenSpec.ofChange fnStepsSpec)

/-- ITS FALSE NEIGHBOUR: 'it returns false'. Refute it at one input. -/
def fnStepsWrong : ChangeSpec := { name := "fnSteps", fn := fun _ => fun
  | [d] => { results := [.lit (.bool false)], args := [d] }
  | _ => none }
def FnStepsWrongFalsely : Prop := fnStepsRow.holds Tryz.pinned (OpenSpec.ofChange fnStepsWrong)

/-- 'laws.FnEvents': WHATEVER THE INPUT: true; the input reads as it did. -/
def fnEventsSpec : ChangeSpec := { name := "fnEvents", fn := fun _ => fun
  | [d] => { results := [.lit (.bool true)], args := [d] }
  | _ => none }
def fnEventsRow : OpenClaim := { program := "ytlmmdpmmdmhacaagreat", sum := "02c347defc901207ff269e678f308bc81e24cc3c51324e0b370b077ac1527546", func := "loop.example/g03001/laws.FnEvents", spec := "fnEvents", inPlace := ["slices.overlaps[loop.example/g03001/impl.Package]", "slices.overlaps[loop.example/g03001/impl.Node]", "slices.overlaps[loop.example/g03001/impl.Stored]"], unfollowed := true, recurses := true, apart := false }
def FnEventsSaid : Prop := fnEventsRow.holds Tryz.pinned (OpenSpec.ofChange fnEventsSpec)

/-- ITS FALSE NEIGHBOUR: 'it returns false'. Refute it at one input. -/
def fnEventsWrong : ChangeSpec := { name := "fnEvents", fn := fun _ => fun
  | [d] => { results := [.lit (.bool false)], args := [d] }
  | _ => none }
def FnEventsWrongFalsely : Prop := fnEventsRow.holds Tryz.pinned (OpenSpec.ofChange fnEventsWrong)

/-- 'laws.FnTop': WHATEVER THE INPUT: true; the input reads as it did. -/
def fnTopSpec : ChangeSpec := { name := "fnTop", fn := fun _ => fun
  | [d] => { results := [.lit (.bool true)], args := [d] }
  | _ => none }
def fnTopRow : OpenClaim := { program := "ytlmmdpmmdmhacaagreat", sum := "02c347defc901207ff269e678f308bc81e24cc3c51324e0b370b077ac1527546", func := "loop.example/g03001/laws.FnTop", spec := "fnTop", inPlace := ["slices.overlaps[loop.example/g03001/impl.Package]", "slices.overlaps[loop.example/g03001/impl.Node]", "slices.overlaps[loop.example/g03001/impl.Stored]"], unfollowed := true, recurses := true, apart := false }
def FnTopSaid : Prop := fnTopRow.holds Tryz.pinned (OpenSpec.ofChange fnTopSpec)

/-- ITS FALSE NEIGHBOUR: 'it returns false'. Refute it at one input. -/
def fnTopWrong : ChangeSpec := { name := "fnTop", fn := fun _ => fun
  | [d] => { results := [.lit (.bool false)], args := [d] }
  | _ => none }
def FnTopWrongFalsely : Prop := fnTopRow.holds Tryz.pinned (OpenSpec.ofChange fnTopWrong)

/- THE SECOND FORM. 'bulk': how many values and letters a reading holds, each counted each time it is reached (what is shared counts as often as it is met; a slice's spare places count too). A statement '..UptoSaid' is the law's where the arguments, and the package variables that the reading takes, are together of bulk at most 1048576: NARROWER than '..Said'. Prove '..Said' where nothing that the law and all that it calls make is longer than what came in: it says more and counts as full. Else prove '..UptoSaid'. A law counts once. -/
mutual
def uptoBulk {H : Type} : DataW H → Nat
  | .lit (.string bytes) => bytes.length + 1
  | .lit _ => 1
  | .nil => 1
  | .ptr d => uptoBulk d + 1
  | .slice elems spare => uptoBulkAll elems + uptoBulkAll spare + 1
  | .agg parts => uptoBulkAll parts + 1
  | .iface _ d => uptoBulk d + 1
  | .map entries => uptoBulkEntries entries + 1
  | .held _ => 1
def uptoBulkAll {H : Type} : List (DataW H) → Nat
  | [] => 0
  | d :: r => uptoBulk d + uptoBulkAll r
def uptoBulkEntries {H : Type} : List (Lit × DataW H) → Nat
  | [] => 0
  | x :: r => uptoBulkEntry x + uptoBulkEntries r
def uptoBulkEntry {H : Type} : Lit × DataW H → Nat
  | (.string bytes, d) => bytes.length + uptoBulk d + 1
  | (_, d) => uptoBulk d + 1
 end
def uptoSmall : (H : Type) → List (DataW H) → Bool := fun _ ds => decide (uptoBulkAll ds ≤ 1048576)
def OpenSpec.upto (s : _root_.Go.ChangeSpec) : _root_.Go.OpenSpec := { _root_.Go.OpenSpec.ofChange s with cond := some uptoSmall }

/-- 'laws.FnAudited', WHERE WHAT IT READS IS OF BULK AT MOST 1048576: true; the input reads as it did. -/
def fnAuditedUptoRow : OpenClaim := { program := "ytlmmdpmmdmhacaagreat", sum := "02c347defc901207ff269e678f308bc81e24cc3c51324e0b370b077ac1527546", func := "loop.example/g03001/laws.FnAudited", spec := "fnAudited", recurses := true, apart := false, narrowed := true }
def FnAuditedUptoSaid : Prop := fnAuditedUptoRow.holds Tryz.pinned (OpenSpec.upto fnAuditedSpec)

/-- 'laws.FnMeasured', WHERE WHAT IT READS IS OF BULK AT MOST 1048576: true; the input reads as it did. -/
def fnMeasuredUptoRow : OpenClaim := { program := "ytlmmdpmmdmhacaagreat", sum := "02c347defc901207ff269e678f308bc81e24cc3c51324e0b370b077ac1527546", func := "loop.example/g03001/laws.FnMeasured", spec := "fnMeasured", inPlace := ["slices.overlaps[loop.example/g03001/impl.Node]"], recurses := true, apart := false, narrowed := true }
def FnMeasuredUptoSaid : Prop := fnMeasuredUptoRow.holds Tryz.pinned (OpenSpec.upto fnMeasuredSpec)

/-- 'laws.FnSteps', WHERE WHAT IT READS IS OF BULK AT MOST 1048576: true; the input reads as it did. -/
def fnStepsUptoRow : OpenClaim := { program := "ytlmmdpmmdmhacaagreat", sum := "02c347defc901207ff269e678f308bc81e24cc3c51324e0b370b077ac1527546", func := "loop.example/g03001/laws.FnSteps", spec := "fnSteps", inPlace := ["slices.overlaps[loop.example/g03001/impl.Package]"], unfollowed := true, recurses := true, apart := false, narrowed := true }
def FnStepsUptoSaid : Prop := fnStepsUptoRow.holds Tryz.pinned (OpenSpec.upto fnStepsSpec)

/-- 'laws.FnEvents', WHERE WHAT IT READS IS OF BULK AT MOST 1048576: true; the input reads as it did. -/
def fnEventsUptoRow : OpenClaim := { program := "ytlmmdpmmdmhacaagreat", sum := "02c347defc901207ff269e678f308bc81e24cc3c51324e0b370b077ac1527546", func := "loop.example/g03001/laws.FnEvents", spec := "fnEvents", inPlace := ["slices.overlaps[loop.example/g03001/impl.Package]", "slices.overlaps[loop.example/g03001/impl.Node]", "slices.overlaps[loop.example/g03001/impl.Stored]"], unfollowed := true, recurses := true, apart := false, narrowed := true }
def FnEventsUptoSaid : Prop := fnEventsUptoRow.holds Tryz.pinned (OpenSpec.upto fnEventsSpec)

/-- 'laws.FnTop', WHERE WHAT IT READS IS OF BULK AT MOST 1048576: true; the input reads as it did. -/
def fnTopUptoRow : OpenClaim := { program := "ytlmmdpmmdmhacaagreat", sum := "02c347defc901207ff269e678f308bc81e24cc3c51324e0b370b077ac1527546", func := "loop.example/g03001/laws.FnTop", spec := "fnTop", inPlace := ["slices.overlaps[loop.example/g03001/impl.Package]", "slices.overlaps[loop.example/g03001/impl.Node]", "slices.overlaps[loop.example/g03001/impl.Stored]"], unfollowed := true, recurses := true, apart := false, narrowed := true }
def FnTopUptoSaid : Prop := fnTopUptoRow.holds Tryz.pinned (OpenSpec.upto fnTopSpec)

end Rows
end Go.Proofs.YtlmmdpmmdmhacaaGreat
