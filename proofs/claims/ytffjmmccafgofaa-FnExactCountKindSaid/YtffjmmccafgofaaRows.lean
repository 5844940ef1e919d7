/-
  No cell of these rows narrows 'for every input' (looked for: loops, veiled, ifaces, maps, wideKeys, modest, calm, conditions, laid).
  DERIVED. THE GIVEN ROWS OF THIS SEAT. 7 by the template 'for every input the law returns true; each argument reads behind the call as it read before'; 0 by the template 'total and deterministic' (their statements: YtffjmmccafgofaaTotals.lean).
  GIVEN WITH THE SEED: the statements are not yours to turn. If you find one false, say at which input.
  Laid BY PROGRAM, IN A SANDBOX (cutbox-rows.mjs): the forced cells as the released guide's own fill.sh prints them over the translation db2321fc70ba7dc3… (all of the seat's roots in one cut). By AI agents, Wed Nov 11 2026. No macro, syntax, notation, axiom, sorry.
-/
import Derived.Test.YtffjmmccafgofaaChecked
import GoSem.Claim
import GoSem.ClaimJoined
import GoSem.ClaimMapViews
import Derived.JoinedTies
import Derived.KernelRfl
namespace Go.Proofs.Ytffjmmccafgofaa
/- THE CELL 'sum', in the pinned program and in every row, IS THE sha256 OF THE DUMP (.gsa) THAT YtffjmmccafgofaaProg.lean LOADS. Nothing in Lean hashes anything: it is a label: what it is worth is what the hold of that sum in a sandbox is worth. -/
noncomputable def Try.pinned : Pinned := { name := "ytffjmmccafgofaa", sum := "db2321fc70ba7dc3630b211479c6b1e5aaa6c3424f41eab9fd5054e7d7d4eced", checked := Try.checked }
namespace Rows
def none {H : Type} : Left H := { results := [], args := [] }

/-- 'laws.FnExactEventName': WHATEVER THE INPUT: true; the input reads as it did. -/
def fnExactEventNameSpec : ChangeSpec := { name := "fnExactEventName", fn := fun _ => fun
  | [d] => { results := [.lit (.bool true)], args := [d] }
  | _ => none }
def fnExactEventNameRow : OpenClaim := { program := "ytffjmmccafgofaa", sum := "db2321fc70ba7dc3630b211479c6b1e5aaa6c3424f41eab9fd5054e7d7d4eced", func := "loop.example/g03001/laws.FnExactEventName", spec := "fnExactEventName", apart := false }
def FnExactEventNameSaid : Prop := fnExactEventNameRow.holds Try.pinned (OpenSpec.ofChange fnExactEventNameSpec)

/-- ITS FALSE NEIGHBOUR: 'it returns false'. Refute it at one input. -/
def fnExactEventNameWrong : ChangeSpec := { name := "fnExactEventName", fn := fun _ => fun
  | [d] => { results := [.lit (.bool false)], args := [d] }
  | _ => none }
def FnExactEventNameWrongFalsely : Prop := fnExactEventNameRow.holds Try.pinned (OpenSpec.ofChange fnExactEventNameWrong)

/-- 'laws.FnExactIsTab': WHATEVER THE INPUT: true; the input reads as it did. -/
def fnExactIsTabSpec : ChangeSpec := { name := "fnExactIsTab", fn := fun _ => fun
  | [d] => { results := [.lit (.bool true)], args := [d] }
  | _ => none }
def fnExactIsTabRow : OpenClaim := { program := "ytffjmmccafgofaa", sum := "db2321fc70ba7dc3630b211479c6b1e5aaa6c3424f41eab9fd5054e7d7d4eced", func := "loop.example/g03001/laws.FnExactIsTab", spec := "fnExactIsTab", apart := false }
def FnExactIsTabSaid : Prop := fnExactIsTabRow.holds Try.pinned (OpenSpec.ofChange fnExactIsTabSpec)

/-- ITS FALSE NEIGHBOUR: 'it returns false'. Refute it at one input. -/
def fnExactIsTabWrong : ChangeSpec := { name := "fnExactIsTab", fn := fun _ => fun
  | [d] => { results := [.lit (.bool false)], args := [d] }
  | _ => none }
def FnExactIsTabWrongFalsely : Prop := fnExactIsTabRow.holds Try.pinned (OpenSpec.ofChange fnExactIsTabWrong)

/-- 'laws.FnExactExampleTabs': WHATEVER THE INPUT: true; the input reads as it did. -/
def fnExactExampleTabsSpec : ChangeSpec := { name := "fnExactExampleTabs", fn := fun _ => fun
  | [] => { results := [.lit (.bool true)], args := [] }
  | _ => none }
def fnExactExampleTabsRow : OpenClaim := { program := "ytffjmmccafgofaa", sum := "db2321fc70ba7dc3630b211479c6b1e5aaa6c3424f41eab9fd5054e7d7d4eced", func := "loop.example/g03001/laws.FnExactExampleTabs", spec := "fnExactExampleTabs", apart := false }
def FnExactExampleTabsSaid : Prop := fnExactExampleTabsRow.holds Try.pinned (OpenSpec.ofChange fnExactExampleTabsSpec)

/-- ITS FALSE NEIGHBOUR: 'it returns false'. Refute it at one input. -/
def fnExactExampleTabsWrong : ChangeSpec := { name := "fnExactExampleTabs", fn := fun _ => fun
  | [] => { results := [.lit (.bool false)], args := [] }
  | _ => none }
def FnExactExampleTabsWrongFalsely : Prop := fnExactExampleTabsRow.holds Try.pinned (OpenSpec.ofChange fnExactExampleTabsWrong)

/-- 'laws.FnExactTabWithout': WHATEVER THE INPUT: true; the input reads as it did. -/
def fnExactTabWithoutSpec : ChangeSpec := { name := "fnExactTabWithout", fn := fun _ => fun
  | [d1, d2] => { results := [.lit (.bool true)], args := [d1, d2] }
  | _ => none }
def fnExactTabWithoutRow : OpenClaim := { program := "ytffjmmccafgofaa", sum := "db2321fc70ba7dc3630b211479c6b1e5aaa6c3424f41eab9fd5054e7d7d4eced", func := "loop.example/g03001/laws.FnExactTabWithout", spec := "fnExactTabWithout", apart := false }
def FnExactTabWithoutSaid : Prop := fnExactTabWithoutRow.holds Try.pinned (OpenSpec.ofChange fnExactTabWithoutSpec)

/-- ITS FALSE NEIGHBOUR: 'it returns false'. Refute it at one input. -/
def fnExactTabWithoutWrong : ChangeSpec := { name := "fnExactTabWithout", fn := fun _ => fun
  | [d1, d2] => { results := [.lit (.bool false)], args := [d1, d2] }
  | _ => none }
def FnExactTabWithoutWrongFalsely : Prop := fnExactTabWithoutRow.holds Try.pinned (OpenSpec.ofChange fnExactTabWithoutWrong)

/-- 'laws.FnExactOpenTab': WHATEVER THE INPUT: true; the input reads as it did. -/
def fnExactOpenTabSpec : ChangeSpec := { name := "fnExactOpenTab", fn := fun _ => fun
  | [d1, d2, d3] => { results := [.lit (.bool true)], args := [d1, d2, d3] }
  | _ => none }
def fnExactOpenTabRow : OpenClaim := { program := "ytffjmmccafgofaa", sum := "db2321fc70ba7dc3630b211479c6b1e5aaa6c3424f41eab9fd5054e7d7d4eced", func := "loop.example/g03001/laws.FnExactOpenTab", spec := "fnExactOpenTab", apart := false }
def FnExactOpenTabSaid : Prop := fnExactOpenTabRow.holds Try.pinned (OpenSpec.ofChange fnExactOpenTabSpec)

/-- ITS FALSE NEIGHBOUR: 'it returns false'. Refute it at one input. -/
def fnExactOpenTabWrong : ChangeSpec := { name := "fnExactOpenTab", fn := fun _ => fun
  | [d1, d2, d3] => { results := [.lit (.bool false)], args := [d1, d2, d3] }
  | _ => none }
def FnExactOpenTabWrongFalsely : Prop := fnExactOpenTabRow.holds Try.pinned (OpenSpec.ofChange fnExactOpenTabWrong)

/-- 'laws.FnExactCountKind': WHATEVER THE INPUT: true; the input reads as it did. -/
def fnExactCountKindSpec : ChangeSpec := { name := "fnExactCountKind", fn := fun _ => fun
  | [d1, d2] => { results := [.lit (.bool true)], args := [d1, d2] }
  | _ => none }
def fnExactCountKindRow : OpenClaim := { program := "ytffjmmccafgofaa", sum := "db2321fc70ba7dc3630b211479c6b1e5aaa6c3424f41eab9fd5054e7d7d4eced", func := "loop.example/g03001/laws.FnExactCountKind", spec := "fnExactCountKind", apart := false }
def FnExactCountKindSaid : Prop := fnExactCountKindRow.holds Try.pinned (OpenSpec.ofChange fnExactCountKindSpec)

/-- ITS FALSE NEIGHBOUR: 'it returns false'. Refute it at one input. -/
def fnExactCountKindWrong : ChangeSpec := { name := "fnExactCountKind", fn := fun _ => fun
  | [d1, d2] => { results := [.lit (.bool false)], args := [d1, d2] }
  | _ => none }
def FnExactCountKindWrongFalsely : Prop := fnExactCountKindRow.holds Try.pinned (OpenSpec.ofChange fnExactCountKindWrong)

/-- 'laws.FnTabs': WHATEVER THE INPUT: true; the input reads as it did. -/
def fnTabsSpec : ChangeSpec := { name := "fnTabs", fn := fun _ => fun
  | [d] => { results := [.lit (.bool true)], args := [d] }
  | _ => none }
def fnTabsRow : OpenClaim := { program := "ytffjmmccafgofaa", sum := "db2321fc70ba7dc3630b211479c6b1e5aaa6c3424f41eab9fd5054e7d7d4eced", func := "loop.example/g03001/laws.FnTabs", spec := "fnTabs", inPlace := ["slices.overlaps[loop.example/g03001/impl.Node]"], apart := false }
def FnTabsSaid : Prop := fnTabsRow.holds Try.pinned (OpenSpec.ofChange fnTabsSpec)

/-- ITS FALSE NEIGHBOUR: 'it returns false'. Refute it at one input. -/
def fnTabsWrong : ChangeSpec := { name := "fnTabs", fn := fun _ => fun
  | [d] => { results := [.lit (.bool false)], args := [d] }
  | _ => none }
def FnTabsWrongFalsely : Prop := fnTabsRow.holds Try.pinned (OpenSpec.ofChange fnTabsWrong)

/- THE SECOND FORM. 'bulk': how many values and letters a reading holds, each counted each time it is reached (what is shared counts as often as it is met; a slice's spare places count too). A statement '..UptoSaid' is the law's where the arguments, and the package variables that the reading takes, are together of bulk at most 1048576: NARROWER than '..Said'. Prove '..Said' where nothing that the law and all that it calls make is longer than what came in: it says more and counts as full. Else prove '..UptoSaid'. A law counts once. -/
mutual
def uptoBulk {H : Type} : DataW H → Nat
  | .lit (.string bytes) => bytes.length + 1
  | .lit _ => 1
  | .nil => 1
  | .ptr d => uptoBulk d + 1
  | .slice elems spare => uptoBulkAll elems + uptoBulkAll spare + 1
  | .agg parts => uptoBulkAll parts + 1
  | .iface _ d => uptoBulk d + 1
  | .map entries => uptoBulkEntries entries + 1
  | .held _ => 1
def uptoBulkAll {H : Type} : List (DataW H) → Nat
  | [] => 0
  | d :: r => uptoBulk d + uptoBulkAll r
def uptoBulkEntries {H : Type} : List (Lit × DataW H) → Nat
  | [] => 0
  | x :: r => uptoBulkEntry x + uptoBulkEntries r
def uptoBulkEntry {H : Type} : Lit × DataW H → Nat
  | (.string bytes, d) => bytes.length + uptoBulk d + 1
  | (_, d) => uptoBulk d + 1
 end
def uptoSmall : (H : Type) → List (DataW H) → Bool := fun _ ds => decide (uptoBulkAll ds ≤ 1048576)
def OpenSpec.upto (s : _root_.Go.ChangeSpec) : _root_.Go.OpenSpec := { _root_.Go.OpenSpec.ofChange s with cond := some uptoSmall }

/-- 'laws.FnExactEventName', WHERE WHAT IT READS IS OF BULK AT MOST 1048576: true; the input reads as it did. -/
def fnExactEventNameUptoRow : OpenClaim := { program := "ytffjmmccafgofaa", sum := "db2321fc70ba7dc3630b211479c6b1e5aaa6c3424f41eab9fd5054e7d7d4eced", func := "loop.example/g03001/laws.FnExactEventName", spec := "fnExactEventName", apart := false, narrowed := true }
def FnExactEventNameUptoSaid : Prop := fnExactEventNameUptoRow.holds Try.pinned (OpenSpec.upto fnExactEventNameSpec)

/-- 'laws.FnExactIsTab', WHERE WHAT IT READS IS OF BULK AT MOST 1048576: true; the input reads as it did. -/
def fnExactIsTabUptoRow : OpenClaim := { program := "ytffjmmccafgofaa", sum := "db2321fc70ba7dc3630b211479c6b1e5aaa6c3424f41eab9fd5054e7d7d4eced", func := "loop.example/g03001/laws.FnExactIsTab", spec := "fnExactIsTab", apart := false, narrowed := true }
def FnExactIsTabUptoSaid : Prop := fnExactIsTabUptoRow.holds Try.pinned (OpenSpec.upto fnExactIsTabSpec)

/-- 'laws.FnExactExampleTabs', WHERE WHAT IT READS IS OF BULK AT MOST 1048576: true; the input reads as it did. -/
def fnExactExampleTabsUptoRow : OpenClaim := { program := "ytffjmmccafgofaa", sum := "db2321fc70ba7dc3630b211479c6b1e5aaa6c3424f41eab9fd5054e7d7d4eced", func := "loop.example/g03001/laws.FnExactExampleTabs", spec := "fnExactExampleTabs", apart := false, narrowed := true }
def FnExactExampleTabsUptoSaid : Prop := fnExactExampleTabsUptoRow.holds Try.pinned (OpenSpec.upto fnExactExampleTabsSpec)

/-- 'laws.FnExactTabWithout', WHERE WHAT IT READS IS OF BULK AT MOST 1048576: true; the input reads as it did. -/
def fnExactTabWithoutUptoRow : OpenClaim := { program := "ytffjmmccafgofaa", sum := "db2321fc70ba7dc3630b211479c6b1e5aaa6c3424f41eab9fd5054e7d7d4eced", func := "loop.example/g03001/laws.FnExactTabWithout", spec := "fnExactTabWithout", apart := false, narrowed := true }
def FnExactTabWithoutUptoSaid : Prop := fnExactTabWithoutUptoRow.holds Try.pinned (OpenSpec.upto fnExactTabWithoutSpec)

/-- 'laws.FnExactOpenTab', WHERE WHAT IT READS IS OF BULK AT MOST 1048576: true; the input reads as it did. -/
def fnExactOpenTabUptoRow : OpenClaim := { program := "ytffjmmccafgofaa", sum := "db2321fc70ba7dc3630b211479c6b1e5aaa6c3424f41eab9fd5054e7d7d4eced", func := "loop.example/g03001/laws.FnExactOpenTab", spec := "fnExactOpenTab", apart := false, narrowed := true }
def FnExactOpenTabUptoSaid : Prop := fnExactOpenTabUptoRow.holds Try.pinned (OpenSpec.upto fnExactOpenTabSpec)

/-- 'laws.FnExactCountKind', WHERE WHAT IT READS IS OF BULK AT MOST 1048576: true; the input reads as it did. -/
def fnExactCountKindUptoRow : OpenClaim := { program := "ytffjmmccafgofaa", sum := "db2321fc70ba7dc3630b211479c6b1e5aaa6c3424f41eab9fd5054e7d7d4eced", func := "loop.example/g03001/laws.FnExactCountKind", spec := "fnExactCountKind", apart := false, narrowed := true }
def FnExactCountKindUptoSaid : Prop := fnExactCountKindUptoRow.holds Try.pinned (OpenSpec.upto fnExactCountKindSpec)

/-- 'laws.FnTabs', WHERE WHAT IT READS IS OF BULK AT MOST 1048576: true; the input reads as it did. -/
def fnTabsUptoRow : OpenClaim := { program := "ytffjmmccafgofaa", sum := "db2321fc70ba7dc3630b211479c6b1e5aaa6c3424f41eab9fd5054e7d7d4eced", func := "loop.example/g03001/laws.FnTabs", spec := "fnTabs", inPlace := ["slices.overlaps[loop.example/g03001/impl.Node]"], apart := false, narrowed := true }
def FnTabsUptoSaid : Prop := fnTabsUptoRow.holds Try.pinned (OpenSpec.upto fnTabsSpec)

end Rows
end Go.Proofs.Ytffjmmccafgofaa
