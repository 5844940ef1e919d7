/-
  DERIVED. GIVEN WITH THE SEED: THE CARDS: each row of YtjpffjhpfgipaaaDoorRows.lean that lists a variable, with what it lists TIED to the program's text (the seventh form; the later family's looks); each row that meets fmt, with fmt's text TOLD by the authors' own Lean function (tested against real Go, not proved from fmt's source: count such statements apart). THE CARD IS WHAT COUNTS. Prove the row's statement (the work); the ties are given (YtjpffjhpfgipaaaDoorTie.lean); close each card by the builder's one call (the guide's Derived/Test/ToyasCard.lean, 'card_holds'). Laid BY PROGRAM, IN A SANDBOX (cutbox-door.mjs). By AI agents, Wed Nov 11 2026. No macro, syntax, notation, axiom, sorry.
-/
import Derived.Test.YtjpffjhpfgipaaaDoorRows
import GoSem.ClaimSeven
namespace Go.Proofs.YtjpffjhpfgipaaaDoor
namespace Rows

/-- THE TIED CARD OF 'laws.FnExactSiteText'. -/
def fnExactSiteTextCard : Claim7 := { stood := { row := fnExactSiteTextRow, standIns := [], harness := (true, "ffc1c4ca91f0bc701e1b4b07137b463817c7f607e05df32add35b049a01ad5bf"), looks := false }, kinds := [], alts := [], laidByText := true, laidKinds := [.data, .data, .data], laidTests := true, laidLooks := .later }
def FnExactSiteTextCardSaid : Prop := Claim7.holds Tryd.pinned (.plain (OpenSpec.ofChange fnExactSiteTextSpec)) fnExactSiteTextCard

/-- THE TIED CARD OF 'laws.FnExactGrantText'. -/
def fnExactGrantTextCard : Claim7 := { stood := { row := fnExactGrantTextRow, standIns := [], harness := (true, "ffc1c4ca91f0bc701e1b4b07137b463817c7f607e05df32add35b049a01ad5bf"), looks := false }, kinds := [], alts := [], laidByText := true, laidKinds := [.data, .data, .data], laidTests := true, laidLooks := .later }
def FnExactGrantTextCardSaid : Prop := Claim7.holds Tryd.pinned (.plain (OpenSpec.ofChange fnExactGrantTextSpec)) fnExactGrantTextCard

/-- THE TIED CARD OF 'laws.FnExactFormatList'. -/
def fnExactFormatListCard : Claim7 := { stood := { row := fnExactFormatListRow, standIns := [], harness := (true, "ffc1c4ca91f0bc701e1b4b07137b463817c7f607e05df32add35b049a01ad5bf"), looks := false }, kinds := [], alts := [], laidByText := true, laidKinds := [.data, .data, .data], laidTests := true, laidLooks := .later }
def FnExactFormatListCardSaid : Prop := Claim7.holds Tryd.pinned (.plain (OpenSpec.ofChange fnExactFormatListSpec)) fnExactFormatListCard

/-- THE TIED CARD OF 'laws.FnExactOutcomeText'. -/
def fnExactOutcomeTextCard : Claim7 := { stood := { row := fnExactOutcomeTextRow, standIns := [], harness := (true, "ffc1c4ca91f0bc701e1b4b07137b463817c7f607e05df32add35b049a01ad5bf"), looks := false }, kinds := [], alts := [], laidByText := true, laidKinds := [.data, .data, .data], laidTests := true, laidLooks := .later }
def FnExactOutcomeTextCardSaid : Prop := Claim7.holds Tryd.pinned (.plain (OpenSpec.ofChange fnExactOutcomeTextSpec)) fnExactOutcomeTextCard

/-- THE TIED CARD OF 'laws.FnExactSentText'. -/
def fnExactSentTextCard : Claim7 := { stood := { row := fnExactSentTextRow, standIns := [], harness := (true, "ffc1c4ca91f0bc701e1b4b07137b463817c7f607e05df32add35b049a01ad5bf"), looks := false }, kinds := [], alts := [], laidByText := true, laidKinds := [.data, .data, .data], laidTests := true, laidLooks := .later }
def FnExactSentTextCardSaid : Prop := Claim7.holds Tryd.pinned (.plain (OpenSpec.ofChange fnExactSentTextSpec)) fnExactSentTextCard

/-- THE SECOND FORM's CARD OF 'laws.FnExactSiteText'. -/
def fnExactSiteTextUptoCard : Claim7 := { stood := { row := fnExactSiteTextUptoRow, standIns := [], harness := (true, "ffc1c4ca91f0bc701e1b4b07137b463817c7f607e05df32add35b049a01ad5bf"), looks := false }, kinds := [], alts := [], laidByText := true, laidKinds := [.data, .data, .data], laidTests := true, laidLooks := .later }
def FnExactSiteTextUptoCardSaid : Prop := Claim7.holds Tryd.pinned (.plain (OpenSpec.upto fnExactSiteTextSpec)) fnExactSiteTextUptoCard

/-- THE SECOND FORM's CARD OF 'laws.FnExactGrantText'. -/
def fnExactGrantTextUptoCard : Claim7 := { stood := { row := fnExactGrantTextUptoRow, standIns := [], harness := (true, "ffc1c4ca91f0bc701e1b4b07137b463817c7f607e05df32add35b049a01ad5bf"), looks := false }, kinds := [], alts := [], laidByText := true, laidKinds := [.data, .data, .data], laidTests := true, laidLooks := .later }
def FnExactGrantTextUptoCardSaid : Prop := Claim7.holds Tryd.pinned (.plain (OpenSpec.upto fnExactGrantTextSpec)) fnExactGrantTextUptoCard

/-- THE SECOND FORM's CARD OF 'laws.FnExactFormatList'. -/
def fnExactFormatListUptoCard : Claim7 := { stood := { row := fnExactFormatListUptoRow, standIns := [], harness := (true, "ffc1c4ca91f0bc701e1b4b07137b463817c7f607e05df32add35b049a01ad5bf"), looks := false }, kinds := [], alts := [], laidByText := true, laidKinds := [.data, .data, .data], laidTests := true, laidLooks := .later }
def FnExactFormatListUptoCardSaid : Prop := Claim7.holds Tryd.pinned (.plain (OpenSpec.upto fnExactFormatListSpec)) fnExactFormatListUptoCard

/-- THE SECOND FORM's CARD OF 'laws.FnExactOutcomeText'. -/
def fnExactOutcomeTextUptoCard : Claim7 := { stood := { row := fnExactOutcomeTextUptoRow, standIns := [], harness := (true, "ffc1c4ca91f0bc701e1b4b07137b463817c7f607e05df32add35b049a01ad5bf"), looks := false }, kinds := [], alts := [], laidByText := true, laidKinds := [.data, .data, .data], laidTests := true, laidLooks := .later }
def FnExactOutcomeTextUptoCardSaid : Prop := Claim7.holds Tryd.pinned (.plain (OpenSpec.upto fnExactOutcomeTextSpec)) fnExactOutcomeTextUptoCard

/-- THE SECOND FORM's CARD OF 'laws.FnExactSentText'. -/
def fnExactSentTextUptoCard : Claim7 := { stood := { row := fnExactSentTextUptoRow, standIns := [], harness := (true, "ffc1c4ca91f0bc701e1b4b07137b463817c7f607e05df32add35b049a01ad5bf"), looks := false }, kinds := [], alts := [], laidByText := true, laidKinds := [.data, .data, .data], laidTests := true, laidLooks := .later }
def FnExactSentTextUptoCardSaid : Prop := Claim7.holds Tryd.pinned (.plain (OpenSpec.upto fnExactSentTextSpec)) fnExactSentTextUptoCard
end Rows
end Go.Proofs.YtjpffjhpfgipaaaDoor
