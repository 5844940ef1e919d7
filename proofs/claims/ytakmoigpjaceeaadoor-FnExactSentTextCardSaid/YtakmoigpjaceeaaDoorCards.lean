/-
  DERIVED. GIVEN WITH THE SEED: THE CARDS: each row of YtakmoigpjaceeaaDoorRows.lean that lists a variable, with what it lists TIED to the program's text (the seventh form; the later family's looks); each row that meets fmt, with fmt's text TOLD by the authors' own Lean function (tested against real Go, not proved from fmt's source: count such statements apart). THE CARD IS WHAT COUNTS. Prove the row's statement (the work); the ties are given (YtakmoigpjaceeaaDoorTie.lean); close each card by the builder's one call (the guide's Derived/Test/ToyasCard.lean, 'card_holds'). Laid BY PROGRAM, IN A SANDBOX (cutbox-door.mjs). By AI agents, Wed Nov 11 2026. No macro, syntax, notation, axiom, sorry.
-/
import Derived.Test.YtakmoigpjaceeaaDoorRows
import GoSem.ClaimSeven
namespace Go.Proofs.YtakmoigpjaceeaaDoor
namespace Rows

/-- THE TIED CARD OF 'laws.FnExactGrantText'. -/
def fnExactGrantTextCard : Claim7 := { stood := { row := fnExactGrantTextRow, standIns := [], harness := (true, "8dcb14fd84345f6601a35331b8af37cf458cd7ef0a514828b93898869068ae26"), looks := false }, kinds := [], alts := [], laidByText := true, laidKinds := [.data, .data, .data], laidTests := true, laidLooks := .later }
def FnExactGrantTextCardSaid : Prop := Claim7.holds Tryd.pinned (.plain (OpenSpec.ofChange fnExactGrantTextSpec)) fnExactGrantTextCard

/-- THE TIED CARD OF 'laws.FnExactSentText'. -/
def fnExactSentTextCard : Claim7 := { stood := { row := fnExactSentTextRow, standIns := [], harness := (true, "8dcb14fd84345f6601a35331b8af37cf458cd7ef0a514828b93898869068ae26"), looks := false }, kinds := [], alts := [], laidByText := true, laidKinds := [.data, .data, .data], laidTests := true, laidLooks := .later }
def FnExactSentTextCardSaid : Prop := Claim7.holds Tryd.pinned (.plain (OpenSpec.ofChange fnExactSentTextSpec)) fnExactSentTextCard

/-- THE SECOND FORM's CARD OF 'laws.FnExactGrantText'. -/
def fnExactGrantTextUptoCard : Claim7 := { stood := { row := fnExactGrantTextUptoRow, standIns := [], harness := (true, "8dcb14fd84345f6601a35331b8af37cf458cd7ef0a514828b93898869068ae26"), looks := false }, kinds := [], alts := [], laidByText := true, laidKinds := [.data, .data, .data], laidTests := true, laidLooks := .later }
def FnExactGrantTextUptoCardSaid : Prop := Claim7.holds Tryd.pinned (.plain (OpenSpec.upto fnExactGrantTextSpec)) fnExactGrantTextUptoCard

/-- THE SECOND FORM's CARD OF 'laws.FnExactSentText'. -/
def fnExactSentTextUptoCard : Claim7 := { stood := { row := fnExactSentTextUptoRow, standIns := [], harness := (true, "8dcb14fd84345f6601a35331b8af37cf458cd7ef0a514828b93898869068ae26"), looks := false }, kinds := [], alts := [], laidByText := true, laidKinds := [.data, .data, .data], laidTests := true, laidLooks := .later }
def FnExactSentTextUptoCardSaid : Prop := Claim7.holds Tryd.pinned (.plain (OpenSpec.upto fnExactSentTextSpec)) fnExactSentTextUptoCard
end Rows
end Go.Proofs.YtakmoigpjaceeaaDoor
