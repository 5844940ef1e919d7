/-
  No cell of these rows narrows 'for every input' (looked for: loops, veiled, ifaces, maps, wideKeys, modest, calm, conditions, laid).
  DERIVED. THE GIVEN ROWS OF THIS SEAT. 10 by the template 'for every input the law returns true; each argument reads behind the call as it read before'; 0 by the template 'total and deterministic' (their statements: YtdlppfdakpeodaaTotals.lean).
  GIVEN WITH THE SEED: the statements are not yours to turn. If you find one false, say at which input.
  Laid BY PROGRAM, IN A SANDBOX (cutbox-rows.mjs): the forced cells as the released guide's own fill.sh prints them over the translation 671cd9af1210d883… (all of the seat's roots in one cut). By AI agents, Wed Nov 11 2026. No macro, syntax, notation, axiom, sorry.
-/
import Derived.Test.YtdlppfdakpeodaaChecked
import GoSem.Claim
import GoSem.ClaimJoined
import GoSem.ClaimMapViews
import Derived.JoinedTies
import Derived.KernelRfl
namespace Go.Proofs.Ytdlppfdakpeodaa
/- THE CELL 'sum', in the pinned program and in every row, IS THE sha256 OF THE DUMP (.gsa) THAT YtdlppfdakpeodaaProg.lean LOADS. Nothing in Lean hashes anything: it is a label: what it is worth is what the hold of that sum in a sandbox is worth. -/
noncomputable def Try.pinned : Pinned := { name := "ytdlppfdakpeodaa", sum := "671cd9af1210d88378ff88ead36c77ae8cb1239829f421e4a0940dfd828b2569", checked := Try.checked }
namespace Rows
def none {H : Type} : Left H := { results := [], args := [] }

/-- 'laws.FnExactRulesLeft': WHATEVER THE INPUT: true; the input reads as it did. -/
def fnExactRulesLeftSpec : ChangeSpec := { name := "fnExactRulesLeft", fn := fun _ => fun
  | [d] => { results := [.lit (.bool true)], args := [d] }
  | _ => none }
def fnExactRulesLeftRow : OpenClaim := { program := "ytdlppfdakpeodaa", sum := "671cd9af1210d88378ff88ead36c77ae8cb1239829f421e4a0940dfd828b2569", func := "loop.example/g03001/laws.FnExactRulesLeft", spec := "fnExactRulesLeft", apart := false }
def FnExactRulesLeftSaid : Prop := fnExactRulesLeftRow.holds Try.pinned (OpenSpec.ofChange fnExactRulesLeftSpec)

/-- ITS FALSE NEIGHBOUR: 'it returns false'. Refute it at one input. -/
def fnExactRulesLeftWrong : ChangeSpec := { name := "fnExactRulesLeft", fn := fun _ => fun
  | [d] => { results := [.lit (.bool false)], args := [d] }
  | _ => none }
def FnExactRulesLeftWrongFalsely : Prop := fnExactRulesLeftRow.holds Try.pinned (OpenSpec.ofChange fnExactRulesLeftWrong)

/-- 'laws.FnExactPackOf': WHATEVER THE INPUT: true; the input reads as it did. -/
def fnExactPackOfSpec : ChangeSpec := { name := "fnExactPackOf", fn := fun _ => fun
  | [d1, d2] => { results := [.lit (.bool true)], args := [d1, d2] }
  | _ => none }
def fnExactPackOfRow : OpenClaim := { program := "ytdlppfdakpeodaa", sum := "671cd9af1210d88378ff88ead36c77ae8cb1239829f421e4a0940dfd828b2569", func := "loop.example/g03001/laws.FnExactPackOf", spec := "fnExactPackOf", apart := false }
def FnExactPackOfSaid : Prop := fnExactPackOfRow.holds Try.pinned (OpenSpec.ofChange fnExactPackOfSpec)

/-- ITS FALSE NEIGHBOUR: 'it returns false'. Refute it at one input. -/
def fnExactPackOfWrong : ChangeSpec := { name := "fnExactPackOf", fn := fun _ => fun
  | [d1, d2] => { results := [.lit (.bool false)], args := [d1, d2] }
  | _ => none }
def FnExactPackOfWrongFalsely : Prop := fnExactPackOfRow.holds Try.pinned (OpenSpec.ofChange fnExactPackOfWrong)

/-- 'laws.FnExactStoredBy': WHATEVER THE INPUT: true; the input reads as it did. -/
def fnExactStoredBySpec : ChangeSpec := { name := "fnExactStoredBy", fn := fun _ => fun
  | [d1, d2] => { results := [.lit (.bool true)], args := [d1, d2] }
  | _ => none }
def fnExactStoredByRow : OpenClaim := { program := "ytdlppfdakpeodaa", sum := "671cd9af1210d88378ff88ead36c77ae8cb1239829f421e4a0940dfd828b2569", func := "loop.example/g03001/laws.FnExactStoredBy", spec := "fnExactStoredBy", apart := false }
def FnExactStoredBySaid : Prop := fnExactStoredByRow.holds Try.pinned (OpenSpec.ofChange fnExactStoredBySpec)

/-- ITS FALSE NEIGHBOUR: 'it returns false'. Refute it at one input. -/
def fnExactStoredByWrong : ChangeSpec := { name := "fnExactStoredBy", fn := fun _ => fun
  | [d1, d2] => { results := [.lit (.bool false)], args := [d1, d2] }
  | _ => none }
def FnExactStoredByWrongFalsely : Prop := fnExactStoredByRow.holds Try.pinned (OpenSpec.ofChange fnExactStoredByWrong)

/-- 'laws.FnExactEditShare': WHATEVER THE INPUT: true; the input reads as it did. -/
def fnExactEditShareSpec : ChangeSpec := { name := "fnExactEditShare", fn := fun _ => fun
  | [d1, d2] => { results := [.lit (.bool true)], args := [d1, d2] }
  | _ => none }
def fnExactEditShareRow : OpenClaim := { program := "ytdlppfdakpeodaa", sum := "671cd9af1210d88378ff88ead36c77ae8cb1239829f421e4a0940dfd828b2569", func := "loop.example/g03001/laws.FnExactEditShare", spec := "fnExactEditShare", apart := false }
def FnExactEditShareSaid : Prop := fnExactEditShareRow.holds Try.pinned (OpenSpec.ofChange fnExactEditShareSpec)

/-- ITS FALSE NEIGHBOUR: 'it returns false'. Refute it at one input. -/
def fnExactEditShareWrong : ChangeSpec := { name := "fnExactEditShare", fn := fun _ => fun
  | [d1, d2] => { results := [.lit (.bool false)], args := [d1, d2] }
  | _ => none }
def FnExactEditShareWrongFalsely : Prop := fnExactEditShareRow.holds Try.pinned (OpenSpec.ofChange fnExactEditShareWrong)

/-- 'laws.FnExactIsRuled': WHATEVER THE INPUT: true; the input reads as it did. -/
def fnExactIsRuledSpec : ChangeSpec := { name := "fnExactIsRuled", fn := fun _ => fun
  | [d] => { results := [.lit (.bool true)], args := [d] }
  | _ => none }
def fnExactIsRuledRow : OpenClaim := { program := "ytdlppfdakpeodaa", sum := "671cd9af1210d88378ff88ead36c77ae8cb1239829f421e4a0940dfd828b2569", func := "loop.example/g03001/laws.FnExactIsRuled", spec := "fnExactIsRuled", apart := false }
def FnExactIsRuledSaid : Prop := fnExactIsRuledRow.holds Try.pinned (OpenSpec.ofChange fnExactIsRuledSpec)

/-- ITS FALSE NEIGHBOUR: 'it returns false'. Refute it at one input. -/
def fnExactIsRuledWrong : ChangeSpec := { name := "fnExactIsRuled", fn := fun _ => fun
  | [d] => { results := [.lit (.bool false)], args := [d] }
  | _ => none }
def FnExactIsRuledWrongFalsely : Prop := fnExactIsRuledRow.holds Try.pinned (OpenSpec.ofChange fnExactIsRuledWrong)

/-- 'laws.FnExactIsGranted': WHATEVER THE INPUT: true; the input reads as it did. -/
def fnExactIsGrantedSpec : ChangeSpec := { name := "fnExactIsGranted", fn := fun _ => fun
  | [d] => { results := [.lit (.bool true)], args := [d] }
  | _ => none }
def fnExactIsGrantedRow : OpenClaim := { program := "ytdlppfdakpeodaa", sum := "671cd9af1210d88378ff88ead36c77ae8cb1239829f421e4a0940dfd828b2569", func := "loop.example/g03001/laws.FnExactIsGranted", spec := "fnExactIsGranted", apart := false }
def FnExactIsGrantedSaid : Prop := fnExactIsGrantedRow.holds Try.pinned (OpenSpec.ofChange fnExactIsGrantedSpec)

/-- ITS FALSE NEIGHBOUR: 'it returns false'. Refute it at one input. -/
def fnExactIsGrantedWrong : ChangeSpec := { name := "fnExactIsGranted", fn := fun _ => fun
  | [d] => { results := [.lit (.bool false)], args := [d] }
  | _ => none }
def FnExactIsGrantedWrongFalsely : Prop := fnExactIsGrantedRow.holds Try.pinned (OpenSpec.ofChange fnExactIsGrantedWrong)

/-- 'laws.FnExactTracesOf': WHATEVER THE INPUT: true; the input reads as it did. -/
def fnExactTracesOfSpec : ChangeSpec := { name := "fnExactTracesOf", fn := fun _ => fun
  | [d1, d2] => { results := [.lit (.bool true)], args := [d1, d2] }
  | _ => none }
def fnExactTracesOfRow : OpenClaim := { program := "ytdlppfdakpeodaa", sum := "671cd9af1210d88378ff88ead36c77ae8cb1239829f421e4a0940dfd828b2569", func := "loop.example/g03001/laws.FnExactTracesOf", spec := "fnExactTracesOf", apart := false }
def FnExactTracesOfSaid : Prop := fnExactTracesOfRow.holds Try.pinned (OpenSpec.ofChange fnExactTracesOfSpec)

/-- ITS FALSE NEIGHBOUR: 'it returns false'. Refute it at one input. -/
def fnExactTracesOfWrong : ChangeSpec := { name := "fnExactTracesOf", fn := fun _ => fun
  | [d1, d2] => { results := [.lit (.bool false)], args := [d1, d2] }
  | _ => none }
def FnExactTracesOfWrongFalsely : Prop := fnExactTracesOfRow.holds Try.pinned (OpenSpec.ofChange fnExactTracesOfWrong)

/-- 'laws.FnExactMayAct': WHATEVER THE INPUT: true; the input reads as it did. -/
def fnExactMayActSpec : ChangeSpec := { name := "fnExactMayAct", fn := fun _ => fun
  | [d1, d2, d3, d4] => { results := [.lit (.bool true)], args := [d1, d2, d3, d4] }
  | _ => none }
def fnExactMayActRow : OpenClaim := { program := "ytdlppfdakpeodaa", sum := "671cd9af1210d88378ff88ead36c77ae8cb1239829f421e4a0940dfd828b2569", func := "loop.example/g03001/laws.FnExactMayAct", spec := "fnExactMayAct", apart := false }
def FnExactMayActSaid : Prop := fnExactMayActRow.holds Try.pinned (OpenSpec.ofChange fnExactMayActSpec)

/-- ITS FALSE NEIGHBOUR: 'it returns false'. Refute it at one input. -/
def fnExactMayActWrong : ChangeSpec := { name := "fnExactMayAct", fn := fun _ => fun
  | [d1, d2, d3, d4] => { results := [.lit (.bool false)], args := [d1, d2, d3, d4] }
  | _ => none }
def FnExactMayActWrongFalsely : Prop := fnExactMayActRow.holds Try.pinned (OpenSpec.ofChange fnExactMayActWrong)

/-- 'laws.FnExactWidestExt': WHATEVER THE INPUT: true; the input reads as it did. -/
def fnExactWidestExtSpec : ChangeSpec := { name := "fnExactWidestExt", fn := fun _ => fun
  | [d1, d2] => { results := [.lit (.bool true)], args := [d1, d2] }
  | _ => none }
def fnExactWidestExtRow : OpenClaim := { program := "ytdlppfdakpeodaa", sum := "671cd9af1210d88378ff88ead36c77ae8cb1239829f421e4a0940dfd828b2569", func := "loop.example/g03001/laws.FnExactWidestExt", spec := "fnExactWidestExt", apart := false }
def FnExactWidestExtSaid : Prop := fnExactWidestExtRow.holds Try.pinned (OpenSpec.ofChange fnExactWidestExtSpec)

/-- ITS FALSE NEIGHBOUR: 'it returns false'. Refute it at one input. -/
def fnExactWidestExtWrong : ChangeSpec := { name := "fnExactWidestExt", fn := fun _ => fun
  | [d1, d2] => { results := [.lit (.bool false)], args := [d1, d2] }
  | _ => none }
def FnExactWidestExtWrongFalsely : Prop := fnExactWidestExtRow.holds Try.pinned (OpenSpec.ofChange fnExactWidestExtWrong)

/-- 'laws.FnExactEqualBrowsers': WHATEVER THE INPUT: true; the input reads as it did. -/
def fnExactEqualBrowsersSpec : ChangeSpec := { name := "fnExactEqualBrowsers", fn := fun _ => fun
  | [d1, d2] => { results := [.lit (.bool true)], args := [d1, d2] }
  | _ => none }
def fnExactEqualBrowsersRow : OpenClaim := { program := "ytdlppfdakpeodaa", sum := "671cd9af1210d88378ff88ead36c77ae8cb1239829f421e4a0940dfd828b2569", func := "loop.example/g03001/laws.FnExactEqualBrowsers", spec := "fnExactEqualBrowsers", unfollowed := true, recurses := true, apart := false }
def FnExactEqualBrowsersSaid : Prop := fnExactEqualBrowsersRow.holds Try.pinned (OpenSpec.ofChange fnExactEqualBrowsersSpec)

/-- ITS FALSE NEIGHBOUR: 'it returns false'. Refute it at one input. -/
def fnExactEqualBrowsersWrong : ChangeSpec := { name := "fnExactEqualBrowsers", fn := fun _ => fun
  | [d1, d2] => { results := [.lit (.bool false)], args := [d1, d2] }
  | _ => none }
def FnExactEqualBrowsersWrongFalsely : Prop := fnExactEqualBrowsersRow.holds Try.pinned (OpenSpec.ofChange fnExactEqualBrowsersWrong)

/- THE SECOND FORM. 'bulk': how many values and letters a reading holds, each counted each time it is reached (what is shared counts as often as it is met; a slice's spare places count too). A statement '..UptoSaid' is the law's where the arguments, and the package variables that the reading takes, are together of bulk at most 1048576: NARROWER than '..Said'. Prove '..Said' where nothing that the law and all that it calls make is longer than what came in: it says more and counts as full. Else prove '..UptoSaid'. A law counts once. -/
mutual
def uptoBulk {H : Type} : DataW H → Nat
  | .lit (.string bytes) => bytes.length + 1
  | .lit _ => 1
  | .nil => 1
  | .ptr d => uptoBulk d + 1
  | .slice elems spare => uptoBulkAll elems + uptoBulkAll spare + 1
  | .agg parts => uptoBulkAll parts + 1
  | .iface _ d => uptoBulk d + 1
  | .map entries => uptoBulkEntries entries + 1
  | .held _ => 1
def uptoBulkAll {H : Type} : List (DataW H) → Nat
  | [] => 0
  | d :: r => uptoBulk d + uptoBulkAll r
def uptoBulkEntries {H : Type} : List (Lit × DataW H) → Nat
  | [] => 0
  | x :: r => uptoBulkEntry x + uptoBulkEntries r
def uptoBulkEntry {H : Type} : Lit × DataW H → Nat
  | (.string bytes, d) => bytes.length + uptoBulk d + 1
  | (_, d) => uptoBulk d + 1
 end
def uptoSmall : (H : Type) → List (DataW H) → Bool := fun _ ds => decide (uptoBulkAll ds ≤ 1048576)
def OpenSpec.upto (s : _root_.Go.ChangeSpec) : _root_.Go.OpenSpec := { _root_.Go.OpenSpec.ofChange s with cond := some uptoSmall }

/-- 'laws.FnExactRulesLeft', WHERE WHAT IT READS IS OF BULK AT MOST 1048576: true; the input reads as it did. -/
def fnExactRulesLeftUptoRow : OpenClaim := { program := "ytdlppfdakpeodaa", sum := "671cd9af1210d88378ff88ead36c77ae8cb1239829f421e4a0940dfd828b2569", func := "loop.example/g03001/laws.FnExactRulesLeft", spec := "fnExactRulesLeft", apart := false, narrowed := true }
def FnExactRulesLeftUptoSaid : Prop := fnExactRulesLeftUptoRow.holds Try.pinned (OpenSpec.upto fnExactRulesLeftSpec)

/-- 'laws.FnExactPackOf', WHERE WHAT IT READS IS OF BULK AT MOST 1048576: true; the input reads as it did. -/
def fnExactPackOfUptoRow : OpenClaim := { program := "ytdlppfdakpeodaa", sum := "671cd9af1210d88378ff88ead36c77ae8cb1239829f421e4a0940dfd828b2569", func := "loop.example/g03001/laws.FnExactPackOf", spec := "fnExactPackOf", apart := false, narrowed := true }
def FnExactPackOfUptoSaid : Prop := fnExactPackOfUptoRow.holds Try.pinned (OpenSpec.upto fnExactPackOfSpec)

/-- 'laws.FnExactStoredBy', WHERE WHAT IT READS IS OF BULK AT MOST 1048576: true; the input reads as it did. -/
def fnExactStoredByUptoRow : OpenClaim := { program := "ytdlppfdakpeodaa", sum := "671cd9af1210d88378ff88ead36c77ae8cb1239829f421e4a0940dfd828b2569", func := "loop.example/g03001/laws.FnExactStoredBy", spec := "fnExactStoredBy", apart := false, narrowed := true }
def FnExactStoredByUptoSaid : Prop := fnExactStoredByUptoRow.holds Try.pinned (OpenSpec.upto fnExactStoredBySpec)

/-- 'laws.FnExactEditShare', WHERE WHAT IT READS IS OF BULK AT MOST 1048576: true; the input reads as it did. -/
def fnExactEditShareUptoRow : OpenClaim := { program := "ytdlppfdakpeodaa", sum := "671cd9af1210d88378ff88ead36c77ae8cb1239829f421e4a0940dfd828b2569", func := "loop.example/g03001/laws.FnExactEditShare", spec := "fnExactEditShare", apart := false, narrowed := true }
def FnExactEditShareUptoSaid : Prop := fnExactEditShareUptoRow.holds Try.pinned (OpenSpec.upto fnExactEditShareSpec)

/-- 'laws.FnExactIsRuled', WHERE WHAT IT READS IS OF BULK AT MOST 1048576: true; the input reads as it did. -/
def fnExactIsRuledUptoRow : OpenClaim := { program := "ytdlppfdakpeodaa", sum := "671cd9af1210d88378ff88ead36c77ae8cb1239829f421e4a0940dfd828b2569", func := "loop.example/g03001/laws.FnExactIsRuled", spec := "fnExactIsRuled", apart := false, narrowed := true }
def FnExactIsRuledUptoSaid : Prop := fnExactIsRuledUptoRow.holds Try.pinned (OpenSpec.upto fnExactIsRuledSpec)

/-- 'laws.FnExactIsGranted', WHERE WHAT IT READS IS OF BULK AT MOST 1048576: true; the input reads as it did. -/
def fnExactIsGrantedUptoRow : OpenClaim := { program := "ytdlppfdakpeodaa", sum := "671cd9af1210d88378ff88ead36c77ae8cb1239829f421e4a0940dfd828b2569", func := "loop.example/g03001/laws.FnExactIsGranted", spec := "fnExactIsGranted", apart := false, narrowed := true }
def FnExactIsGrantedUptoSaid : Prop := fnExactIsGrantedUptoRow.holds Try.pinned (OpenSpec.upto fnExactIsGrantedSpec)

/-- 'laws.FnExactTracesOf', WHERE WHAT IT READS IS OF BULK AT MOST 1048576: true; the input reads as it did. -/
def fnExactTracesOfUptoRow : OpenClaim := { program := "ytdlppfdakpeodaa", sum := "671cd9af1210d88378ff88ead36c77ae8cb1239829f421e4a0940dfd828b2569", func := "loop.example/g03001/laws.FnExactTracesOf", spec := "fnExactTracesOf", apart := false, narrowed := true }
def FnExactTracesOfUptoSaid : Prop := fnExactTracesOfUptoRow.holds Try.pinned (OpenSpec.upto fnExactTracesOfSpec)

/-- 'laws.FnExactMayAct', WHERE WHAT IT READS IS OF BULK AT MOST 1048576: true; the input reads as it did. -/
def fnExactMayActUptoRow : OpenClaim := { program := "ytdlppfdakpeodaa", sum := "671cd9af1210d88378ff88ead36c77ae8cb1239829f421e4a0940dfd828b2569", func := "loop.example/g03001/laws.FnExactMayAct", spec := "fnExactMayAct", apart := false, narrowed := true }
def FnExactMayActUptoSaid : Prop := fnExactMayActUptoRow.holds Try.pinned (OpenSpec.upto fnExactMayActSpec)

/-- 'laws.FnExactWidestExt', WHERE WHAT IT READS IS OF BULK AT MOST 1048576: true; the input reads as it did. -/
def fnExactWidestExtUptoRow : OpenClaim := { program := "ytdlppfdakpeodaa", sum := "671cd9af1210d88378ff88ead36c77ae8cb1239829f421e4a0940dfd828b2569", func := "loop.example/g03001/laws.FnExactWidestExt", spec := "fnExactWidestExt", apart := false, narrowed := true }
def FnExactWidestExtUptoSaid : Prop := fnExactWidestExtUptoRow.holds Try.pinned (OpenSpec.upto fnExactWidestExtSpec)

/-- 'laws.FnExactEqualBrowsers', WHERE WHAT IT READS IS OF BULK AT MOST 1048576: true; the input reads as it did. -/
def fnExactEqualBrowsersUptoRow : OpenClaim := { program := "ytdlppfdakpeodaa", sum := "671cd9af1210d88378ff88ead36c77ae8cb1239829f421e4a0940dfd828b2569", func := "loop.example/g03001/laws.FnExactEqualBrowsers", spec := "fnExactEqualBrowsers", unfollowed := true, recurses := true, apart := false, narrowed := true }
def FnExactEqualBrowsersUptoSaid : Prop := fnExactEqualBrowsersUptoRow.holds Try.pinned (OpenSpec.upto fnExactEqualBrowsersSpec)

end Rows
end Go.Proofs.Ytdlppfdakpeodaa
