/-
  No cell of these rows narrows 'for every input' (looked for: loops, veiled, ifaces, maps, wideKeys, modest, calm, conditions, laid).
  DERIVED. THE GIVEN ROWS OF THIS SEAT. 10 by the template 'for every input the law returns true; each argument reads behind the call as it read before'; 0 by the template 'total and deterministic' (their statements: YtpnbkjinfphlkaaTotals.lean).
  GIVEN WITH THE SEED: the statements are not yours to turn. If you find one false, say at which input.
  Laid BY PROGRAM, IN A SANDBOX (cutbox-rows.mjs): the forced cells as the released guide's own fill.sh prints them over the translation c47ad386d32597fe… (all of the seat's roots in one cut). By AI agents, Wed Nov 11 2026. No macro, syntax, notation, axiom, sorry.
-/
import Derived.Test.YtpnbkjinfphlkaaChecked
import GoSem.Claim
import GoSem.ClaimJoined
import GoSem.ClaimMapViews
import Derived.JoinedTies
import Derived.KernelRfl
namespace Go.Proofs.Ytpnbkjinfphlkaa
/- THE CELL 'sum', in the pinned program and in every row, IS THE sha256 OF THE DUMP (.gsa) THAT YtpnbkjinfphlkaaProg.lean LOADS. Nothing in Lean hashes anything: it is a label: what it is worth is what the hold of that sum in a sandbox is worth. -/
noncomputable def Try.pinned : Pinned := { name := "ytpnbkjinfphlkaa", sum := "c47ad386d32597feeaaebd7b163a7bc80695c3df24dc89e5affea17571f467d3", checked := Try.checked }
namespace Rows
def none {H : Type} : Left H := { results := [], args := [] }

/-- 'laws.FnExactIsRuled': WHATEVER THE INPUT: true; the input reads as it did. -/
def fnExactIsRuledSpec : ChangeSpec := { name := "fnExactIsRuled", fn := fun _ => fun
  | [d] => { results := [.lit (.bool true)], args := [d] }
  | _ => none }
def fnExactIsRuledRow : OpenClaim := { program := "ytpnbkjinfphlkaa", sum := "c47ad386d32597feeaaebd7b163a7bc80695c3df24dc89e5affea17571f467d3", func := "loop.example/g03001/laws.FnExactIsRuled", spec := "fnExactIsRuled", apart := false }
def FnExactIsRuledSaid : Prop := fnExactIsRuledRow.holds Try.pinned (OpenSpec.ofChange fnExactIsRuledSpec)

/-- ITS FALSE NEIGHBOUR: 'it returns false'. Refute it at one input. -/
def fnExactIsRuledWrong : ChangeSpec := { name := "fnExactIsRuled", fn := fun _ => fun
  | [d] => { results := [.lit (.bool false)], args := [d] }
  | _ => none }
def FnExactIsRuledWrongFalsely : Prop := fnExactIsRuledRow.holds Try.pinned (OpenSpec.ofChange fnExactIsRuledWrong)

/-- 'laws.FnExactIsGranted': WHATEVER THE INPUT: true; the input reads as it did. -/
def fnExactIsGrantedSpec : ChangeSpec := { name := "fnExactIsGranted", fn := fun _ => fun
  | [d] => { results := [.lit (.bool true)], args := [d] }
  | _ => none }
def fnExactIsGrantedRow : OpenClaim := { program := "ytpnbkjinfphlkaa", sum := "c47ad386d32597feeaaebd7b163a7bc80695c3df24dc89e5affea17571f467d3", func := "loop.example/g03001/laws.FnExactIsGranted", spec := "fnExactIsGranted", apart := false }
def FnExactIsGrantedSaid : Prop := fnExactIsGrantedRow.holds Try.pinned (OpenSpec.ofChange fnExactIsGrantedSpec)

/-- ITS FALSE NEIGHBOUR: 'it returns false'. Refute it at one input. -/
def fnExactIsGrantedWrong : ChangeSpec := { name := "fnExactIsGranted", fn := fun _ => fun
  | [d] => { results := [.lit (.bool false)], args := [d] }
  | _ => none }
def FnExactIsGrantedWrongFalsely : Prop := fnExactIsGrantedRow.holds Try.pinned (OpenSpec.ofChange fnExactIsGrantedWrong)

/-- 'laws.FnExactTracesOf': WHATEVER THE INPUT: true; the input reads as it did. -/
def fnExactTracesOfSpec : ChangeSpec := { name := "fnExactTracesOf", fn := fun _ => fun
  | [d1, d2] => { results := [.lit (.bool true)], args := [d1, d2] }
  | _ => none }
def fnExactTracesOfRow : OpenClaim := { program := "ytpnbkjinfphlkaa", sum := "c47ad386d32597feeaaebd7b163a7bc80695c3df24dc89e5affea17571f467d3", func := "loop.example/g03001/laws.FnExactTracesOf", spec := "fnExactTracesOf", apart := false }
def FnExactTracesOfSaid : Prop := fnExactTracesOfRow.holds Try.pinned (OpenSpec.ofChange fnExactTracesOfSpec)

/-- ITS FALSE NEIGHBOUR: 'it returns false'. Refute it at one input. -/
def fnExactTracesOfWrong : ChangeSpec := { name := "fnExactTracesOf", fn := fun _ => fun
  | [d1, d2] => { results := [.lit (.bool false)], args := [d1, d2] }
  | _ => none }
def FnExactTracesOfWrongFalsely : Prop := fnExactTracesOfRow.holds Try.pinned (OpenSpec.ofChange fnExactTracesOfWrong)

/-- 'laws.FnExactWidestExt': WHATEVER THE INPUT: true; the input reads as it did. -/
def fnExactWidestExtSpec : ChangeSpec := { name := "fnExactWidestExt", fn := fun _ => fun
  | [d1, d2] => { results := [.lit (.bool true)], args := [d1, d2] }
  | _ => none }
def fnExactWidestExtRow : OpenClaim := { program := "ytpnbkjinfphlkaa", sum := "c47ad386d32597feeaaebd7b163a7bc80695c3df24dc89e5affea17571f467d3", func := "loop.example/g03001/laws.FnExactWidestExt", spec := "fnExactWidestExt", apart := false }
def FnExactWidestExtSaid : Prop := fnExactWidestExtRow.holds Try.pinned (OpenSpec.ofChange fnExactWidestExtSpec)

/-- ITS FALSE NEIGHBOUR: 'it returns false'. Refute it at one input. -/
def fnExactWidestExtWrong : ChangeSpec := { name := "fnExactWidestExt", fn := fun _ => fun
  | [d1, d2] => { results := [.lit (.bool false)], args := [d1, d2] }
  | _ => none }
def FnExactWidestExtWrongFalsely : Prop := fnExactWidestExtRow.holds Try.pinned (OpenSpec.ofChange fnExactWidestExtWrong)

/-- 'laws.FnExactEqualBrowsers': WHATEVER THE INPUT: true; the input reads as it did. -/
def fnExactEqualBrowsersSpec : ChangeSpec := { name := "fnExactEqualBrowsers", fn := fun _ => fun
  | [d1, d2] => { results := [.lit (.bool true)], args := [d1, d2] }
  | _ => none }
def fnExactEqualBrowsersRow : OpenClaim := { program := "ytpnbkjinfphlkaa", sum := "c47ad386d32597feeaaebd7b163a7bc80695c3df24dc89e5affea17571f467d3", func := "loop.example/g03001/laws.FnExactEqualBrowsers", spec := "fnExactEqualBrowsers", unfollowed := true, recurses := true, apart := false }
def FnExactEqualBrowsersSaid : Prop := fnExactEqualBrowsersRow.holds Try.pinned (OpenSpec.ofChange fnExactEqualBrowsersSpec)

/-- ITS FALSE NEIGHBOUR: 'it returns false'. Refute it at one input. -/
def fnExactEqualBrowsersWrong : ChangeSpec := { name := "fnExactEqualBrowsers", fn := fun _ => fun
  | [d1, d2] => { results := [.lit (.bool false)], args := [d1, d2] }
  | _ => none }
def FnExactEqualBrowsersWrongFalsely : Prop := fnExactEqualBrowsersRow.holds Try.pinned (OpenSpec.ofChange fnExactEqualBrowsersWrong)

/-- 'laws.FnExactPowersOf': WHATEVER THE INPUT: true; the input reads as it did. -/
def fnExactPowersOfSpec : ChangeSpec := { name := "fnExactPowersOf", fn := fun _ => fun
  | [d1, d2, d3] => { results := [.lit (.bool true)], args := [d1, d2, d3] }
  | _ => none }
def fnExactPowersOfRow : OpenClaim := { program := "ytpnbkjinfphlkaa", sum := "c47ad386d32597feeaaebd7b163a7bc80695c3df24dc89e5affea17571f467d3", func := "loop.example/g03001/laws.FnExactPowersOf", spec := "fnExactPowersOf", apart := false }
def FnExactPowersOfSaid : Prop := fnExactPowersOfRow.holds Try.pinned (OpenSpec.ofChange fnExactPowersOfSpec)

/-- ITS FALSE NEIGHBOUR: 'it returns false'. Refute it at one input. -/
def fnExactPowersOfWrong : ChangeSpec := { name := "fnExactPowersOf", fn := fun _ => fun
  | [d1, d2, d3] => { results := [.lit (.bool false)], args := [d1, d2, d3] }
  | _ => none }
def FnExactPowersOfWrongFalsely : Prop := fnExactPowersOfRow.holds Try.pinned (OpenSpec.ofChange fnExactPowersOfWrong)

/-- 'laws.FnExactInstalled': WHATEVER THE INPUT: true; the input reads as it did. -/
def fnExactInstalledSpec : ChangeSpec := { name := "fnExactInstalled", fn := fun _ => fun
  | [d] => { results := [.lit (.bool true)], args := [d] }
  | _ => none }
def fnExactInstalledRow : OpenClaim := { program := "ytpnbkjinfphlkaa", sum := "c47ad386d32597feeaaebd7b163a7bc80695c3df24dc89e5affea17571f467d3", func := "loop.example/g03001/laws.FnExactInstalled", spec := "fnExactInstalled", apart := false }
def FnExactInstalledSaid : Prop := fnExactInstalledRow.holds Try.pinned (OpenSpec.ofChange fnExactInstalledSpec)

/-- ITS FALSE NEIGHBOUR: 'it returns false'. Refute it at one input. -/
def fnExactInstalledWrong : ChangeSpec := { name := "fnExactInstalled", fn := fun _ => fun
  | [d] => { results := [.lit (.bool false)], args := [d] }
  | _ => none }
def FnExactInstalledWrongFalsely : Prop := fnExactInstalledRow.holds Try.pinned (OpenSpec.ofChange fnExactInstalledWrong)

/-- 'laws.FnExactRulesInForce': WHATEVER THE INPUT: true; the input reads as it did. -/
def fnExactRulesInForceSpec : ChangeSpec := { name := "fnExactRulesInForce", fn := fun _ => fun
  | [d1, d2] => { results := [.lit (.bool true)], args := [d1, d2] }
  | _ => none }
def fnExactRulesInForceRow : OpenClaim := { program := "ytpnbkjinfphlkaa", sum := "c47ad386d32597feeaaebd7b163a7bc80695c3df24dc89e5affea17571f467d3", func := "loop.example/g03001/laws.FnExactRulesInForce", spec := "fnExactRulesInForce", apart := false }
def FnExactRulesInForceSaid : Prop := fnExactRulesInForceRow.holds Try.pinned (OpenSpec.ofChange fnExactRulesInForceSpec)

/-- ITS FALSE NEIGHBOUR: 'it returns false'. Refute it at one input. -/
def fnExactRulesInForceWrong : ChangeSpec := { name := "fnExactRulesInForce", fn := fun _ => fun
  | [d1, d2] => { results := [.lit (.bool false)], args := [d1, d2] }
  | _ => none }
def FnExactRulesInForceWrongFalsely : Prop := fnExactRulesInForceRow.holds Try.pinned (OpenSpec.ofChange fnExactRulesInForceWrong)

/-- 'laws.FnExactTabWithout': WHATEVER THE INPUT: true; the input reads as it did. -/
def fnExactTabWithoutSpec : ChangeSpec := { name := "fnExactTabWithout", fn := fun _ => fun
  | [d1, d2] => { results := [.lit (.bool true)], args := [d1, d2] }
  | _ => none }
def fnExactTabWithoutRow : OpenClaim := { program := "ytpnbkjinfphlkaa", sum := "c47ad386d32597feeaaebd7b163a7bc80695c3df24dc89e5affea17571f467d3", func := "loop.example/g03001/laws.FnExactTabWithout", spec := "fnExactTabWithout", apart := false }
def FnExactTabWithoutSaid : Prop := fnExactTabWithoutRow.holds Try.pinned (OpenSpec.ofChange fnExactTabWithoutSpec)

/-- ITS FALSE NEIGHBOUR: 'it returns false'. Refute it at one input. -/
def fnExactTabWithoutWrong : ChangeSpec := { name := "fnExactTabWithout", fn := fun _ => fun
  | [d1, d2] => { results := [.lit (.bool false)], args := [d1, d2] }
  | _ => none }
def FnExactTabWithoutWrongFalsely : Prop := fnExactTabWithoutRow.holds Try.pinned (OpenSpec.ofChange fnExactTabWithoutWrong)

/-- 'laws.FnExactWithoutExt': WHATEVER THE INPUT: true; the input reads as it did. -/
def fnExactWithoutExtSpec : ChangeSpec := { name := "fnExactWithoutExt", fn := fun _ => fun
  | [d1, d2] => { results := [.lit (.bool true)], args := [d1, d2] }
  | _ => none }
def fnExactWithoutExtRow : OpenClaim := { program := "ytpnbkjinfphlkaa", sum := "c47ad386d32597feeaaebd7b163a7bc80695c3df24dc89e5affea17571f467d3", func := "loop.example/g03001/laws.FnExactWithoutExt", spec := "fnExactWithoutExt", apart := false }
def FnExactWithoutExtSaid : Prop := fnExactWithoutExtRow.holds Try.pinned (OpenSpec.ofChange fnExactWithoutExtSpec)

/-- ITS FALSE NEIGHBOUR: 'it returns false'. Refute it at one input. -/
def fnExactWithoutExtWrong : ChangeSpec := { name := "fnExactWithoutExt", fn := fun _ => fun
  | [d1, d2] => { results := [.lit (.bool false)], args := [d1, d2] }
  | _ => none }
def FnExactWithoutExtWrongFalsely : Prop := fnExactWithoutExtRow.holds Try.pinned (OpenSpec.ofChange fnExactWithoutExtWrong)

/- THE SECOND FORM. 'bulk': how many values and letters a reading holds, each counted each time it is reached (what is shared counts as often as it is met; a slice's spare places count too). A statement '..UptoSaid' is the law's where the arguments, and the package variables that the reading takes, are together of bulk at most 1048576: NARROWER than '..Said'. Prove '..Said' where nothing that the law and all that it calls make is longer than what came in: it says more and counts as full. Else prove '..UptoSaid'. A law counts once. -/
mutual
def uptoBulk {H : Type} : DataW H → Nat
  | .lit (.string bytes) => bytes.length + 1
  | .lit _ => 1
  | .nil => 1
  | .ptr d => uptoBulk d + 1
  | .slice elems spare => uptoBulkAll elems + uptoBulkAll spare + 1
  | .agg parts => uptoBulkAll parts + 1
  | .iface _ d => uptoBulk d + 1
  | .map entries => uptoBulkEntries entries + 1
  | .held _ => 1
def uptoBulkAll {H : Type} : List (DataW H) → Nat
  | [] => 0
  | d :: r => uptoBulk d + uptoBulkAll r
def uptoBulkEntries {H : Type} : List (Lit × DataW H) → Nat
  | [] => 0
  | x :: r => uptoBulkEntry x + uptoBulkEntries r
def uptoBulkEntry {H : Type} : Lit × DataW H → Nat
  | (.string bytes, d) => bytes.length + uptoBulk d + 1
  | (_, d) => uptoBulk d + 1
 end
def uptoSmall : (H : Type) → List (DataW H) → Bool := fun _ ds => decide (uptoBulkAll ds ≤ 1048576)
def OpenSpec.upto (s : _root_.Go.ChangeSpec) : _root_.Go.OpenSpec := { _root_.Go.OpenSpec.ofChange s with cond := some uptoSmall }

/-- 'laws.FnExactIsRuled', WHERE WHAT IT READS IS OF BULK AT MOST 1048576: true; the input reads as it did. -/
def fnExactIsRuledUptoRow : OpenClaim := { program := "ytpnbkjinfphlkaa", sum := "c47ad386d32597feeaaebd7b163a7bc80695c3df24dc89e5affea17571f467d3", func := "loop.example/g03001/laws.FnExactIsRuled", spec := "fnExactIsRuled", apart := false, narrowed := true }
def FnExactIsRuledUptoSaid : Prop := fnExactIsRuledUptoRow.holds Try.pinned (OpenSpec.upto fnExactIsRuledSpec)

/-- 'laws.FnExactIsGranted', WHERE WHAT IT READS IS OF BULK AT MOST 1048576: true; the input reads as it did. -/
def fnExactIsGrantedUptoRow : OpenClaim := { program := "ytpnbkjinfphlkaa", sum := "c47ad386d32597feeaaebd7b163a7bc80695c3df24dc89e5affea17571f467d3", func := "loop.example/g03001/laws.FnExactIsGranted", spec := "fnExactIsGranted", apart := false, narrowed := true }
def FnExactIsGrantedUptoSaid : Prop := fnExactIsGrantedUptoRow.holds Try.pinned (OpenSpec.upto fnExactIsGrantedSpec)

/-- 'laws.FnExactTracesOf', WHERE WHAT IT READS IS OF BULK AT MOST 1048576: true; the input reads as it did. -/
def fnExactTracesOfUptoRow : OpenClaim := { program := "ytpnbkjinfphlkaa", sum := "c47ad386d32597feeaaebd7b163a7bc80695c3df24dc89e5affea17571f467d3", func := "loop.example/g03001/laws.FnExactTracesOf", spec := "fnExactTracesOf", apart := false, narrowed := true }
def FnExactTracesOfUptoSaid : Prop := fnExactTracesOfUptoRow.holds Try.pinned (OpenSpec.upto fnExactTracesOfSpec)

/-- 'laws.FnExactWidestExt', WHERE WHAT IT READS IS OF BULK AT MOST 1048576: true; the input reads as it did. -/
def fnExactWidestExtUptoRow : OpenClaim := { program := "ytpnbkjinfphlkaa", sum := "c47ad386d32597feeaaebd7b163a7bc80695c3df24dc89e5affea17571f467d3", func := "loop.example/g03001/laws.FnExactWidestExt", spec := "fnExactWidestExt", apart := false, narrowed := true }
def FnExactWidestExtUptoSaid : Prop := fnExactWidestExtUptoRow.holds Try.pinned (OpenSpec.upto fnExactWidestExtSpec)

/-- 'laws.FnExactEqualBrowsers', WHERE WHAT IT READS IS OF BULK AT MOST 1048576: true; the input reads as it did. -/
def fnExactEqualBrowsersUptoRow : OpenClaim := { program := "ytpnbkjinfphlkaa", sum := "c47ad386d32597feeaaebd7b163a7bc80695c3df24dc89e5affea17571f467d3", func := "loop.example/g03001/laws.FnExactEqualBrowsers", spec := "fnExactEqualBrowsers", unfollowed := true, recurses := true, apart := false, narrowed := true }
def FnExactEqualBrowsersUptoSaid : Prop := fnExactEqualBrowsersUptoRow.holds Try.pinned (OpenSpec.upto fnExactEqualBrowsersSpec)

/-- 'laws.FnExactPowersOf', WHERE WHAT IT READS IS OF BULK AT MOST 1048576: true; the input reads as it did. -/
def fnExactPowersOfUptoRow : OpenClaim := { program := "ytpnbkjinfphlkaa", sum := "c47ad386d32597feeaaebd7b163a7bc80695c3df24dc89e5affea17571f467d3", func := "loop.example/g03001/laws.FnExactPowersOf", spec := "fnExactPowersOf", apart := false, narrowed := true }
def FnExactPowersOfUptoSaid : Prop := fnExactPowersOfUptoRow.holds Try.pinned (OpenSpec.upto fnExactPowersOfSpec)

/-- 'laws.FnExactInstalled', WHERE WHAT IT READS IS OF BULK AT MOST 1048576: true; the input reads as it did. -/
def fnExactInstalledUptoRow : OpenClaim := { program := "ytpnbkjinfphlkaa", sum := "c47ad386d32597feeaaebd7b163a7bc80695c3df24dc89e5affea17571f467d3", func := "loop.example/g03001/laws.FnExactInstalled", spec := "fnExactInstalled", apart := false, narrowed := true }
def FnExactInstalledUptoSaid : Prop := fnExactInstalledUptoRow.holds Try.pinned (OpenSpec.upto fnExactInstalledSpec)

/-- 'laws.FnExactRulesInForce', WHERE WHAT IT READS IS OF BULK AT MOST 1048576: true; the input reads as it did. -/
def fnExactRulesInForceUptoRow : OpenClaim := { program := "ytpnbkjinfphlkaa", sum := "c47ad386d32597feeaaebd7b163a7bc80695c3df24dc89e5affea17571f467d3", func := "loop.example/g03001/laws.FnExactRulesInForce", spec := "fnExactRulesInForce", apart := false, narrowed := true }
def FnExactRulesInForceUptoSaid : Prop := fnExactRulesInForceUptoRow.holds Try.pinned (OpenSpec.upto fnExactRulesInForceSpec)

/-- 'laws.FnExactTabWithout', WHERE WHAT IT READS IS OF BULK AT MOST 1048576: true; the input reads as it did. -/
def fnExactTabWithoutUptoRow : OpenClaim := { program := "ytpnbkjinfphlkaa", sum := "c47ad386d32597feeaaebd7b163a7bc80695c3df24dc89e5affea17571f467d3", func := "loop.example/g03001/laws.FnExactTabWithout", spec := "fnExactTabWithout", apart := false, narrowed := true }
def FnExactTabWithoutUptoSaid : Prop := fnExactTabWithoutUptoRow.holds Try.pinned (OpenSpec.upto fnExactTabWithoutSpec)

/-- 'laws.FnExactWithoutExt', WHERE WHAT IT READS IS OF BULK AT MOST 1048576: true; the input reads as it did. -/
def fnExactWithoutExtUptoRow : OpenClaim := { program := "ytpnbkjinfphlkaa", sum := "c47ad386d32597feeaaebd7b163a7bc80695c3df24dc89e5affea17571f467d3", func := "loop.example/g03001/laws.FnExactWithoutExt", spec := "fnExactWithoutExt", apart := false, narrowed := true }
def FnExactWithoutExtUptoSaid : Prop := fnExactWithoutExtUptoRow.holds Try.pinned (OpenSpec.upto fnExactWithoutExtSpec)

end Rows
end Go.Proofs.Ytpnbkjinfphlkaa
