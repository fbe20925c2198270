/-
  DERIVED. GIVEN WITH THE SEED: THE CARDS: each row of YtmfmgeapecapiaaDoorRows.lean that lists a variable, with what it lists TIED to the program's text (the seventh form; the later family's looks); each row that meets fmt, with fmt's text TOLD by the authors' own Lean function (tested against real Go, not proved from fmt's source: count such statements apart). THE CARD IS WHAT COUNTS. Prove the row's statement (the work); the ties are given (YtmfmgeapecapiaaDoorTie.lean); close each card by the builder's one call (the guide's Derived/Test/ToyasCard.lean, 'card_holds'). Laid BY PROGRAM, IN A SANDBOX (cutbox-door.mjs). By AI agents, Wed Nov 11 2026. No macro, syntax, notation, axiom, sorry.
-/
import Derived.Test.YtmfmgeapecapiaaDoorRows
import GoSem.ClaimSeven
namespace Go.Proofs.YtmfmgeapecapiaaDoor
namespace Rows

/-- THE TIED CARD OF 'sizarlaw42.DiscloseShown'. -/
def discloseShownCard : Claim7 := { stood := { row := discloseShownRow, standIns := [], harness := (true, "6dbadc0709d8309a943745c58eac162fc7ca90f23ab5fe0991d5386ac273084f"), looks := true }, kinds := [], alts := [], laidByText := true, laidKinds := [.data, .data], laidTests := true, laidLooks := .later }
def DiscloseShownCardSaid : Prop := Claim7.holds Tryd.pinned (.plain (OpenSpec.ofChange discloseShownSpec)) discloseShownCard

/-- THE TIED CARD OF 'sizarlaw42.DiscloseTrue'. -/
def discloseTrueCard : Claim7 := { stood := { row := discloseTrueRow, standIns := [], harness := (true, "6dbadc0709d8309a943745c58eac162fc7ca90f23ab5fe0991d5386ac273084f"), looks := true }, kinds := [], alts := [], laidByText := true, laidKinds := [.data, .data], laidTests := true, laidLooks := .later }
def DiscloseTrueCardSaid : Prop := Claim7.holds Tryd.pinned (.plain (OpenSpec.ofChange discloseTrueSpec)) discloseTrueCard

/-- THE TIED CARD OF 'sizarlaw42.DiscloseMets'. -/
def discloseMetsCard : Claim7 := { stood := { row := discloseMetsRow, standIns := [], harness := (true, "6dbadc0709d8309a943745c58eac162fc7ca90f23ab5fe0991d5386ac273084f"), looks := true }, kinds := [], alts := [], laidByText := true, laidKinds := [.data, .data], laidTests := true, laidLooks := .later }
def DiscloseMetsCardSaid : Prop := Claim7.holds Tryd.pinned (.plain (OpenSpec.ofChange discloseMetsSpec)) discloseMetsCard

/-- THE TIED CARD OF 'sizarlaw42.DiscloseStable'. -/
def discloseStableCard : Claim7 := { stood := { row := discloseStableRow, standIns := [], harness := (true, "6dbadc0709d8309a943745c58eac162fc7ca90f23ab5fe0991d5386ac273084f"), looks := true }, kinds := [], alts := [], laidByText := true, laidKinds := [.data, .data], laidTests := true, laidLooks := .later }
def DiscloseStableCardSaid : Prop := Claim7.holds Tryd.pinned (.plain (OpenSpec.ofChange discloseStableSpec)) discloseStableCard

/-- THE TIED CARD OF 'sizarlaw42.DisclosePlaces'. -/
def disclosePlacesCard : Claim7 := { stood := { row := disclosePlacesRow, standIns := [], harness := (true, "6dbadc0709d8309a943745c58eac162fc7ca90f23ab5fe0991d5386ac273084f"), looks := true }, kinds := [], alts := [], laidByText := true, laidKinds := [.data, .data], laidTests := true, laidLooks := .later }
def DisclosePlacesCardSaid : Prop := Claim7.holds Tryd.pinned (.plain (OpenSpec.ofChange disclosePlacesSpec)) disclosePlacesCard

/-- THE TIED CARD OF 'sizarlaw43.SumsChanged'. -/
def sumsChangedCard : Claim7 := { stood := { row := sumsChangedRow, standIns := [], harness := (true, "6dbadc0709d8309a943745c58eac162fc7ca90f23ab5fe0991d5386ac273084f"), looks := true }, kinds := [], alts := [], laidByText := true, laidKinds := [.data, .data], laidTests := true, laidLooks := .later }
def SumsChangedCardSaid : Prop := Claim7.holds Tryd.pinned (.plain (OpenSpec.ofChange sumsChangedSpec)) sumsChangedCard

/-- THE TIED CARD OF 'sizarlaw43.SumsShown'. -/
def sumsShownCard : Claim7 := { stood := { row := sumsShownRow, standIns := [], harness := (true, "6dbadc0709d8309a943745c58eac162fc7ca90f23ab5fe0991d5386ac273084f"), looks := true }, kinds := [], alts := [], laidByText := true, laidKinds := [.data, .data], laidTests := true, laidLooks := .later }
def SumsShownCardSaid : Prop := Claim7.holds Tryd.pinned (.plain (OpenSpec.ofChange sumsShownSpec)) sumsShownCard

/-- THE TIED CARD OF 'sizarlaw43.SumsCoverSpec'. -/
def sumsCoverSpecCard : Claim7 := { stood := { row := sumsCoverSpecRow, standIns := [], harness := (true, "6dbadc0709d8309a943745c58eac162fc7ca90f23ab5fe0991d5386ac273084f"), looks := true }, kinds := [], alts := [], laidByText := true, laidKinds := [.data, .data], laidTests := true, laidLooks := .later }
def SumsCoverSpecCardSaid : Prop := Claim7.holds Tryd.pinned (.plain (OpenSpec.ofChange sumsCoverSpecSpec)) sumsCoverSpecCard

/-- THE TIED CARD OF 'sizarlaw43.SumsBound'. -/
def sumsBoundCard : Claim7 := { stood := { row := sumsBoundRow, standIns := [], harness := (true, "6dbadc0709d8309a943745c58eac162fc7ca90f23ab5fe0991d5386ac273084f"), looks := true }, kinds := [], alts := [], laidByText := true, laidKinds := [.data, .data], laidTests := true, laidLooks := .later }
def SumsBoundCardSaid : Prop := Claim7.holds Tryd.pinned (.plain (OpenSpec.ofChange sumsBoundSpec)) sumsBoundCard

/-- THE TIED CARD OF 'sizarlaw43.SumsParts'. -/
def sumsPartsCard : Claim7 := { stood := { row := sumsPartsRow, standIns := [], harness := (true, "6dbadc0709d8309a943745c58eac162fc7ca90f23ab5fe0991d5386ac273084f"), looks := true }, kinds := [], alts := [], laidByText := true, laidKinds := [.data, .data], laidTests := true, laidLooks := .later }
def SumsPartsCardSaid : Prop := Claim7.holds Tryd.pinned (.plain (OpenSpec.ofChange sumsPartsSpec)) sumsPartsCard

/-- THE TIED CARD OF 'sizarlaw43.SumsDisjoint'. -/
def sumsDisjointCard : Claim7 := { stood := { row := sumsDisjointRow, standIns := [], harness := (true, "6dbadc0709d8309a943745c58eac162fc7ca90f23ab5fe0991d5386ac273084f"), looks := true }, kinds := [], alts := [], laidByText := true, laidKinds := [.data, .data], laidTests := true, laidLooks := .later }
def SumsDisjointCardSaid : Prop := Claim7.holds Tryd.pinned (.plain (OpenSpec.ofChange sumsDisjointSpec)) sumsDisjointCard

/-- THE SECOND FORM's CARD OF 'sizarlaw42.DiscloseShown'. -/
def discloseShownUptoCard : Claim7 := { stood := { row := discloseShownUptoRow, standIns := [], harness := (true, "6dbadc0709d8309a943745c58eac162fc7ca90f23ab5fe0991d5386ac273084f"), looks := true }, kinds := [], alts := [], laidByText := true, laidKinds := [.data, .data], laidTests := true, laidLooks := .later }
def DiscloseShownUptoCardSaid : Prop := Claim7.holds Tryd.pinned (.plain (OpenSpec.upto discloseShownSpec)) discloseShownUptoCard

/-- THE SECOND FORM's CARD OF 'sizarlaw42.DiscloseTrue'. -/
def discloseTrueUptoCard : Claim7 := { stood := { row := discloseTrueUptoRow, standIns := [], harness := (true, "6dbadc0709d8309a943745c58eac162fc7ca90f23ab5fe0991d5386ac273084f"), looks := true }, kinds := [], alts := [], laidByText := true, laidKinds := [.data, .data], laidTests := true, laidLooks := .later }
def DiscloseTrueUptoCardSaid : Prop := Claim7.holds Tryd.pinned (.plain (OpenSpec.upto discloseTrueSpec)) discloseTrueUptoCard

/-- THE SECOND FORM's CARD OF 'sizarlaw42.DiscloseMets'. -/
def discloseMetsUptoCard : Claim7 := { stood := { row := discloseMetsUptoRow, standIns := [], harness := (true, "6dbadc0709d8309a943745c58eac162fc7ca90f23ab5fe0991d5386ac273084f"), looks := true }, kinds := [], alts := [], laidByText := true, laidKinds := [.data, .data], laidTests := true, laidLooks := .later }
def DiscloseMetsUptoCardSaid : Prop := Claim7.holds Tryd.pinned (.plain (OpenSpec.upto discloseMetsSpec)) discloseMetsUptoCard

/-- THE SECOND FORM's CARD OF 'sizarlaw42.DiscloseStable'. -/
def discloseStableUptoCard : Claim7 := { stood := { row := discloseStableUptoRow, standIns := [], harness := (true, "6dbadc0709d8309a943745c58eac162fc7ca90f23ab5fe0991d5386ac273084f"), looks := true }, kinds := [], alts := [], laidByText := true, laidKinds := [.data, .data], laidTests := true, laidLooks := .later }
def DiscloseStableUptoCardSaid : Prop := Claim7.holds Tryd.pinned (.plain (OpenSpec.upto discloseStableSpec)) discloseStableUptoCard

/-- THE SECOND FORM's CARD OF 'sizarlaw42.DisclosePlaces'. -/
def disclosePlacesUptoCard : Claim7 := { stood := { row := disclosePlacesUptoRow, standIns := [], harness := (true, "6dbadc0709d8309a943745c58eac162fc7ca90f23ab5fe0991d5386ac273084f"), looks := true }, kinds := [], alts := [], laidByText := true, laidKinds := [.data, .data], laidTests := true, laidLooks := .later }
def DisclosePlacesUptoCardSaid : Prop := Claim7.holds Tryd.pinned (.plain (OpenSpec.upto disclosePlacesSpec)) disclosePlacesUptoCard

/-- THE SECOND FORM's CARD OF 'sizarlaw43.SumsChanged'. -/
def sumsChangedUptoCard : Claim7 := { stood := { row := sumsChangedUptoRow, standIns := [], harness := (true, "6dbadc0709d8309a943745c58eac162fc7ca90f23ab5fe0991d5386ac273084f"), looks := true }, kinds := [], alts := [], laidByText := true, laidKinds := [.data, .data], laidTests := true, laidLooks := .later }
def SumsChangedUptoCardSaid : Prop := Claim7.holds Tryd.pinned (.plain (OpenSpec.upto sumsChangedSpec)) sumsChangedUptoCard

/-- THE SECOND FORM's CARD OF 'sizarlaw43.SumsShown'. -/
def sumsShownUptoCard : Claim7 := { stood := { row := sumsShownUptoRow, standIns := [], harness := (true, "6dbadc0709d8309a943745c58eac162fc7ca90f23ab5fe0991d5386ac273084f"), looks := true }, kinds := [], alts := [], laidByText := true, laidKinds := [.data, .data], laidTests := true, laidLooks := .later }
def SumsShownUptoCardSaid : Prop := Claim7.holds Tryd.pinned (.plain (OpenSpec.upto sumsShownSpec)) sumsShownUptoCard

/-- THE SECOND FORM's CARD OF 'sizarlaw43.SumsCoverSpec'. -/
def sumsCoverSpecUptoCard : Claim7 := { stood := { row := sumsCoverSpecUptoRow, standIns := [], harness := (true, "6dbadc0709d8309a943745c58eac162fc7ca90f23ab5fe0991d5386ac273084f"), looks := true }, kinds := [], alts := [], laidByText := true, laidKinds := [.data, .data], laidTests := true, laidLooks := .later }
def SumsCoverSpecUptoCardSaid : Prop := Claim7.holds Tryd.pinned (.plain (OpenSpec.upto sumsCoverSpecSpec)) sumsCoverSpecUptoCard

/-- THE SECOND FORM's CARD OF 'sizarlaw43.SumsBound'. -/
def sumsBoundUptoCard : Claim7 := { stood := { row := sumsBoundUptoRow, standIns := [], harness := (true, "6dbadc0709d8309a943745c58eac162fc7ca90f23ab5fe0991d5386ac273084f"), looks := true }, kinds := [], alts := [], laidByText := true, laidKinds := [.data, .data], laidTests := true, laidLooks := .later }
def SumsBoundUptoCardSaid : Prop := Claim7.holds Tryd.pinned (.plain (OpenSpec.upto sumsBoundSpec)) sumsBoundUptoCard

/-- THE SECOND FORM's CARD OF 'sizarlaw43.SumsParts'. -/
def sumsPartsUptoCard : Claim7 := { stood := { row := sumsPartsUptoRow, standIns := [], harness := (true, "6dbadc0709d8309a943745c58eac162fc7ca90f23ab5fe0991d5386ac273084f"), looks := true }, kinds := [], alts := [], laidByText := true, laidKinds := [.data, .data], laidTests := true, laidLooks := .later }
def SumsPartsUptoCardSaid : Prop := Claim7.holds Tryd.pinned (.plain (OpenSpec.upto sumsPartsSpec)) sumsPartsUptoCard

/-- THE SECOND FORM's CARD OF 'sizarlaw43.SumsDisjoint'. -/
def sumsDisjointUptoCard : Claim7 := { stood := { row := sumsDisjointUptoRow, standIns := [], harness := (true, "6dbadc0709d8309a943745c58eac162fc7ca90f23ab5fe0991d5386ac273084f"), looks := true }, kinds := [], alts := [], laidByText := true, laidKinds := [.data, .data], laidTests := true, laidLooks := .later }
def SumsDisjointUptoCardSaid : Prop := Claim7.holds Tryd.pinned (.plain (OpenSpec.upto sumsDisjointSpec)) sumsDisjointUptoCard
end Rows
end Go.Proofs.YtmfmgeapecapiaaDoor
