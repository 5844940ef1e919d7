/-
  No cell of these rows narrows 'for every input' (looked for: loops, veiled, ifaces, maps, wideKeys, modest, calm, conditions, laid).
  DERIVED. THE GIVEN ROWS OF THIS SEAT. 5 by the template 'for every input the law returns true; each argument reads behind the call as it read before'; 0 by the template 'total and deterministic' (their statements: YtimbmhglengjcaaGreatTotals.lean).
  GIVEN WITH THE SEED: the statements are not yours to turn. If you find one false, say at which input.
  Laid BY PROGRAM, IN A SANDBOX (cutbox-rows.mjs): the forced cells as the released guide's own fill.sh prints them over the translation 3138d4fff1c6f501… (all of the seat's roots in one cut). By AI agents, Wed Nov 11 2026. No macro, syntax, notation, axiom, sorry.
-/
import Derived.Test.YtimbmhglengjcaaGreatChecked
import GoSem.Claim
import GoSem.ClaimJoined
import GoSem.ClaimMapViews
import Derived.JoinedTies
import Derived.KernelRfl
namespace Go.Proofs.YtimbmhglengjcaaGreat
/- THE CELL 'sum', in the pinned program and in every row, IS THE sha256 OF THE DUMP (.gsa) THAT YtimbmhglengjcaaGreatProg.lean LOADS. Nothing in Lean hashes anything: it is a label: what it is worth is what the hold of that sum in a sandbox is worth. -/
noncomputable def Tryz.pinned : Pinned := { name := "ytimbmhglengjcaagreat", sum := "3138d4fff1c6f501bb9fc77bafe70966f361e44d81b04f44d5455a5ffcd40d01", checked := Tryz.checked }
namespace Rows
def none {H : Type} : Left H := { results := [], args := [] }

/-- 'laws.FnExactIsBrowser': WHATEVER THE INPUT: true; the input reads as it did. -/
def fnExactIsBrowserSpec : ChangeSpec := { name := "fnExactIsBrowser", fn := fun _ => fun
  | [d] => { results := [.lit (.bool true)], args := [d] }
  | _ => none }
def fnExactIsBrowserRow : OpenClaim := { program := "ytimbmhglengjcaagreat", sum := "3138d4fff1c6f501bb9fc77bafe70966f361e44d81b04f44d5455a5ffcd40d01", func := "loop.example/g03001/laws.FnExactIsBrowser", spec := "fnExactIsBrowser", apart := false }
def FnExactIsBrowserSaid : Prop := fnExactIsBrowserRow.holds Tryz.pinned (OpenSpec.ofChange fnExactIsBrowserSpec)

/-- ITS FALSE NEIGHBOUR: 'it returns false'. Refute it at one input. -/
def fnExactIsBrowserWrong : ChangeSpec := { name := "fnExactIsBrowser", fn := fun _ => fun
  | [d] => { results := [.lit (.bool false)], args := [d] }
  | _ => none }
def FnExactIsBrowserWrongFalsely : Prop := fnExactIsBrowserRow.holds Tryz.pinned (OpenSpec.ofChange fnExactIsBrowserWrong)

/-- 'laws.FnExactSentFrom': WHATEVER THE INPUT: true; the input reads as it did. -/
def fnExactSentFromSpec : ChangeSpec := { name := "fnExactSentFrom", fn := fun _ => fun
  | [d1, d2, d3] => { results := [.lit (.bool true)], args := [d1, d2, d3] }
  | _ => none }
def fnExactSentFromRow : OpenClaim := { program := "ytimbmhglengjcaagreat", sum := "3138d4fff1c6f501bb9fc77bafe70966f361e44d81b04f44d5455a5ffcd40d01", func := "loop.example/g03001/laws.FnExactSentFrom", spec := "fnExactSentFrom", apart := false }
def FnExactSentFromSaid : Prop := fnExactSentFromRow.holds Tryz.pinned (OpenSpec.ofChange fnExactSentFromSpec)

/-- ITS FALSE NEIGHBOUR: 'it returns false'. Refute it at one input. -/
def fnExactSentFromWrong : ChangeSpec := { name := "fnExactSentFrom", fn := fun _ => fun
  | [d1, d2, d3] => { results := [.lit (.bool false)], args := [d1, d2, d3] }
  | _ => none }
def FnExactSentFromWrongFalsely : Prop := fnExactSentFromRow.holds Tryz.pinned (OpenSpec.ofChange fnExactSentFromWrong)

/-- 'laws.FnExactLeaving': WHATEVER THE INPUT: true; the input reads as it did. -/
def fnExactLeavingSpec : ChangeSpec := { name := "fnExactLeaving", fn := fun _ => fun
  | [d1, d2] => { results := [.lit (.bool true)], args := [d1, d2] }
  | _ => none }
def fnExactLeavingRow : OpenClaim := { program := "ytimbmhglengjcaagreat", sum := "3138d4fff1c6f501bb9fc77bafe70966f361e44d81b04f44d5455a5ffcd40d01", func := "loop.example/g03001/laws.FnExactLeaving", spec := "fnExactLeaving", apart := false }
def FnExactLeavingSaid : Prop := fnExactLeavingRow.holds Tryz.pinned (OpenSpec.ofChange fnExactLeavingSpec)

/-- ITS FALSE NEIGHBOUR: 'it returns false'. Refute it at one input. -/
def fnExactLeavingWrong : ChangeSpec := { name := "fnExactLeaving", fn := fun _ => fun
  | [d1, d2] => { results := [.lit (.bool false)], args := [d1, d2] }
  | _ => none }
def FnExactLeavingWrongFalsely : Prop := fnExactLeavingRow.holds Tryz.pinned (OpenSpec.ofChange fnExactLeavingWrong)

/-- 'laws.FnExactNewBrowser': WHATEVER THE INPUT: true; the input reads as it did. -/
def fnExactNewBrowserSpec : ChangeSpec := { name := "fnExactNewBrowser", fn := fun _ => fun
  | [d1, d2] => { results := [.lit (.bool true)], args := [d1, d2] }
  | _ => none }
def fnExactNewBrowserRow : OpenClaim := { program := "ytimbmhglengjcaagreat", sum := "3138d4fff1c6f501bb9fc77bafe70966f361e44d81b04f44d5455a5ffcd40d01", func := "loop.example/g03001/laws.FnExactNewBrowser", spec := "fnExactNewBrowser", apart := false }
def FnExactNewBrowserSaid : Prop := fnExactNewBrowserRow.holds Tryz.pinned (OpenSpec.ofChange fnExactNewBrowserSpec)

/-- ITS FALSE NEIGHBOUR: 'it returns false'. Refute it at one input. -/
def fnExactNewBrowserWrong : ChangeSpec := { name := "fnExactNewBrowser", fn := fun _ => fun
  | [d1, d2] => { results := [.lit (.bool false)], args := [d1, d2] }
  | _ => none }
def FnExactNewBrowserWrongFalsely : Prop := fnExactNewBrowserRow.holds Tryz.pinned (OpenSpec.ofChange fnExactNewBrowserWrong)

/-- 'laws.FnExactIsReviewed': WHATEVER THE INPUT: true; the input reads as it did. -/
def fnExactIsReviewedSpec : ChangeSpec := { name := "fnExactIsReviewed", fn := fun _ => fun
  | [d] => { results := [.lit (.bool true)], args := [d] }
  | _ => none }
def fnExactIsReviewedRow : OpenClaim := { program := "ytimbmhglengjcaagreat", sum := "3138d4fff1c6f501bb9fc77bafe70966f361e44d81b04f44d5455a5ffcd40d01", func := "loop.example/g03001/laws.FnExactIsReviewed", spec := "fnExactIsReviewed", recurses := true, apart := false }
def FnExactIsReviewedSaid : Prop := fnExactIsReviewedRow.holds Tryz.pinned (OpenSpec.ofChange fnExactIsReviewedSpec)

/-- ITS FALSE NEIGHBOUR: 'it returns false'. Refute it at one input. -/
def fnExactIsReviewedWrong : ChangeSpec := { name := "fnExactIsReviewed", fn := fun _ => fun
  | [d] => { results := [.lit (.bool false)], args := [d] }
  | _ => none }
def FnExactIsReviewedWrongFalsely : Prop := fnExactIsReviewedRow.holds Tryz.pinned (OpenSpec.ofChange fnExactIsReviewedWrong)

/- THE SECOND FORM. 'bulk': how many values and letters a reading holds, each counted each time it is reached (what is shared counts as often as it is met; a slice's spare places count too). A statement '..UptoSaid' is the law's where the arguments, and the package variables that the reading takes, are together of bulk at most 1048576: NARROWER than '..Said'. Prove '..Said' where nothing that the law and all that it calls make is longer than what came in: it says more and counts as full. Else prove '..UptoSaid'. A law counts once. -/
mutual
def uptoBulk {H : Type} : DataW H → Nat
  | .lit (.string bytes) => bytes.length + 1
  | .lit _ => 1
  | .nil => 1
  | .ptr d => uptoBulk d + 1
  | .slice elems spare => uptoBulkAll elems + uptoBulkAll spare + 1
  | .agg parts => uptoBulkAll parts + 1
  | .iface _ d => uptoBulk d + 1
  | .map entries => uptoBulkEntries entries + 1
  | .held _ => 1
def uptoBulkAll {H : Type} : List (DataW H) → Nat
  | [] => 0
  | d :: r => uptoBulk d + uptoBulkAll r
def uptoBulkEntries {H : Type} : List (Lit × DataW H) → Nat
  | [] => 0
  | x :: r => uptoBulkEntry x + uptoBulkEntries r
def uptoBulkEntry {H : Type} : Lit × DataW H → Nat
  | (.string bytes, d) => bytes.length + uptoBulk d + 1
  | (_, d) => uptoBulk d + 1
 end
def uptoSmall : (H : Type) → List (DataW H) → Bool := fun _ ds => decide (uptoBulkAll ds ≤ 1048576)
def OpenSpec.upto (s : _root_.Go.ChangeSpec) : _root_.Go.OpenSpec := { _root_.Go.OpenSpec.ofChange s with cond := some uptoSmall }

/-- 'laws.FnExactIsBrowser', WHERE WHAT IT READS IS OF BULK AT MOST 1048576: true; the input reads as it did. -/
def fnExactIsBrowserUptoRow : OpenClaim := { program := "ytimbmhglengjcaagreat", sum := "3138d4fff1c6f501bb9fc77bafe70966f361e44d81b04f44d5455a5ffcd40d01", func := "loop.example/g03001/laws.FnExactIsBrowser", spec := "fnExactIsBrowser", apart := false, narrowed := true }
def FnExactIsBrowserUptoSaid : Prop := fnExactIsBrowserUptoRow.holds Tryz.pinned (OpenSpec.upto fnExactIsBrowserSpec)

/-- 'laws.FnExactSentFrom', WHERE WHAT IT READS IS OF BULK AT MOST 1048576: true; the input reads as it did. -/
def fnExactSentFromUptoRow : OpenClaim := { program := "ytimbmhglengjcaagreat", sum := "3138d4fff1c6f501bb9fc77bafe70966f361e44d81b04f44d5455a5ffcd40d01", func := "loop.example/g03001/laws.FnExactSentFrom", spec := "fnExactSentFrom", apart := false, narrowed := true }
def FnExactSentFromUptoSaid : Prop := fnExactSentFromUptoRow.holds Tryz.pinned (OpenSpec.upto fnExactSentFromSpec)

/-- 'laws.FnExactLeaving', WHERE WHAT IT READS IS OF BULK AT MOST 1048576: true; the input reads as it did. -/
def fnExactLeavingUptoRow : OpenClaim := { program := "ytimbmhglengjcaagreat", sum := "3138d4fff1c6f501bb9fc77bafe70966f361e44d81b04f44d5455a5ffcd40d01", func := "loop.example/g03001/laws.FnExactLeaving", spec := "fnExactLeaving", apart := false, narrowed := true }
def FnExactLeavingUptoSaid : Prop := fnExactLeavingUptoRow.holds Tryz.pinned (OpenSpec.upto fnExactLeavingSpec)

/-- 'laws.FnExactNewBrowser', WHERE WHAT IT READS IS OF BULK AT MOST 1048576: true; the input reads as it did. -/
def fnExactNewBrowserUptoRow : OpenClaim := { program := "ytimbmhglengjcaagreat", sum := "3138d4fff1c6f501bb9fc77bafe70966f361e44d81b04f44d5455a5ffcd40d01", func := "loop.example/g03001/laws.FnExactNewBrowser", spec := "fnExactNewBrowser", apart := false, narrowed := true }
def FnExactNewBrowserUptoSaid : Prop := fnExactNewBrowserUptoRow.holds Tryz.pinned (OpenSpec.upto fnExactNewBrowserSpec)

/-- 'laws.FnExactIsReviewed', WHERE WHAT IT READS IS OF BULK AT MOST 1048576: true; the input reads as it did. -/
def fnExactIsReviewedUptoRow : OpenClaim := { program := "ytimbmhglengjcaagreat", sum := "3138d4fff1c6f501bb9fc77bafe70966f361e44d81b04f44d5455a5ffcd40d01", func := "loop.example/g03001/laws.FnExactIsReviewed", spec := "fnExactIsReviewed", recurses := true, apart := false, narrowed := true }
def FnExactIsReviewedUptoSaid : Prop := fnExactIsReviewedUptoRow.holds Tryz.pinned (OpenSpec.upto fnExactIsReviewedSpec)

end Rows
end Go.Proofs.YtimbmhglengjcaaGreat
