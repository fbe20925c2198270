/-
  DERIVED. GIVEN WITH THE SEED: THE CARDS: each row of YtmfmgeapecapiaaGreatDoorRows.lean that lists a variable, with what it lists TIED to the program's text (the seventh form; the later family's looks); each row that meets fmt, with fmt's text TOLD by the authors' own Lean function (tested against real Go, not proved from fmt's source: count such statements apart). THE CARD IS WHAT COUNTS. Prove the row's statement (the work); the ties are given (YtmfmgeapecapiaaGreatDoorTie.lean); close each card by the builder's one call (the guide's Derived/Test/ToyasCard.lean, 'card_holds'). Laid BY PROGRAM, IN A SANDBOX (cutbox-door.mjs). By AI agents, Wed Nov 11 2026. No macro, syntax, notation, axiom, sorry.
-/
import Derived.Test.YtmfmgeapecapiaaGreatDoorRows
import GoSem.ClaimSeven
namespace Go.Proofs.YtmfmgeapecapiaaGreatDoor
namespace Rows

/-- THE TIED CARD OF 'sizarlaw42.DiscloseCheckSpec'. -/
def discloseCheckSpecCard : Claim7 := { stood := { row := discloseCheckSpecRow, standIns := [], harness := (true, "833703ed8f6dcf2745cd20af5890b9c8601fb77d439ce471425d32824cc10431"), looks := true }, kinds := [], alts := [], laidByText := true, laidKinds := [.data, .data], laidTests := true, laidLooks := .later }
def DiscloseCheckSpecCardSaid : Prop := Claim7.holds Tryz.pinned (.plain (OpenSpec.ofChange discloseCheckSpecSpec)) discloseCheckSpecCard

/-- THE TIED CARD OF 'sizarlaw42.DiscloseShowSpec'. -/
def discloseShowSpecCard : Claim7 := { stood := { row := discloseShowSpecRow, standIns := [], harness := (true, "833703ed8f6dcf2745cd20af5890b9c8601fb77d439ce471425d32824cc10431"), looks := true }, kinds := [], alts := [], laidByText := true, laidKinds := [.data, .data], laidTests := true, laidLooks := .later }
def DiscloseShowSpecCardSaid : Prop := Claim7.holds Tryz.pinned (.plain (OpenSpec.ofChange discloseShowSpecSpec)) discloseShowSpecCard

/-- THE TIED CARD OF 'sizarlaw42.DiscloseMeetsSpec'. -/
def discloseMeetsSpecCard : Claim7 := { stood := { row := discloseMeetsSpecRow, standIns := [], harness := (true, "833703ed8f6dcf2745cd20af5890b9c8601fb77d439ce471425d32824cc10431"), looks := true }, kinds := [], alts := [], laidByText := true, laidKinds := [.data, .data], laidTests := true, laidLooks := .later }
def DiscloseMeetsSpecCardSaid : Prop := Claim7.holds Tryz.pinned (.plain (OpenSpec.ofChange discloseMeetsSpecSpec)) discloseMeetsSpecCard

/-- THE TIED CARD OF 'sizarlaw43.SumsShowSpec'. -/
def sumsShowSpecCard : Claim7 := { stood := { row := sumsShowSpecRow, standIns := [], harness := (true, "833703ed8f6dcf2745cd20af5890b9c8601fb77d439ce471425d32824cc10431"), looks := true }, kinds := [], alts := [], laidByText := true, laidKinds := [.data, .data], laidTests := true, laidLooks := .later }
def SumsShowSpecCardSaid : Prop := Claim7.holds Tryz.pinned (.plain (OpenSpec.ofChange sumsShowSpecSpec)) sumsShowSpecCard

/-- THE TIED CARD OF 'sizarlaw43.SumsVerifySpec'. -/
def sumsVerifySpecCard : Claim7 := { stood := { row := sumsVerifySpecRow, standIns := [], harness := (true, "833703ed8f6dcf2745cd20af5890b9c8601fb77d439ce471425d32824cc10431"), looks := true }, kinds := [], alts := [], laidByText := true, laidKinds := [.data, .data], laidTests := true, laidLooks := .later }
def SumsVerifySpecCardSaid : Prop := Claim7.holds Tryz.pinned (.plain (OpenSpec.ofChange sumsVerifySpecSpec)) sumsVerifySpecCard

/-- THE SECOND FORM's CARD OF 'sizarlaw42.DiscloseCheckSpec'. -/
def discloseCheckSpecUptoCard : Claim7 := { stood := { row := discloseCheckSpecUptoRow, standIns := [], harness := (true, "833703ed8f6dcf2745cd20af5890b9c8601fb77d439ce471425d32824cc10431"), looks := true }, kinds := [], alts := [], laidByText := true, laidKinds := [.data, .data], laidTests := true, laidLooks := .later }
def DiscloseCheckSpecUptoCardSaid : Prop := Claim7.holds Tryz.pinned (.plain (OpenSpec.upto discloseCheckSpecSpec)) discloseCheckSpecUptoCard

/-- THE SECOND FORM's CARD OF 'sizarlaw42.DiscloseShowSpec'. -/
def discloseShowSpecUptoCard : Claim7 := { stood := { row := discloseShowSpecUptoRow, standIns := [], harness := (true, "833703ed8f6dcf2745cd20af5890b9c8601fb77d439ce471425d32824cc10431"), looks := true }, kinds := [], alts := [], laidByText := true, laidKinds := [.data, .data], laidTests := true, laidLooks := .later }
def DiscloseShowSpecUptoCardSaid : Prop := Claim7.holds Tryz.pinned (.plain (OpenSpec.upto discloseShowSpecSpec)) discloseShowSpecUptoCard

/-- THE SECOND FORM's CARD OF 'sizarlaw42.DiscloseMeetsSpec'. -/
def discloseMeetsSpecUptoCard : Claim7 := { stood := { row := discloseMeetsSpecUptoRow, standIns := [], harness := (true, "833703ed8f6dcf2745cd20af5890b9c8601fb77d439ce471425d32824cc10431"), looks := true }, kinds := [], alts := [], laidByText := true, laidKinds := [.data, .data], laidTests := true, laidLooks := .later }
def DiscloseMeetsSpecUptoCardSaid : Prop := Claim7.holds Tryz.pinned (.plain (OpenSpec.upto discloseMeetsSpecSpec)) discloseMeetsSpecUptoCard

/-- THE SECOND FORM's CARD OF 'sizarlaw43.SumsShowSpec'. -/
def sumsShowSpecUptoCard : Claim7 := { stood := { row := sumsShowSpecUptoRow, standIns := [], harness := (true, "833703ed8f6dcf2745cd20af5890b9c8601fb77d439ce471425d32824cc10431"), looks := true }, kinds := [], alts := [], laidByText := true, laidKinds := [.data, .data], laidTests := true, laidLooks := .later }
def SumsShowSpecUptoCardSaid : Prop := Claim7.holds Tryz.pinned (.plain (OpenSpec.upto sumsShowSpecSpec)) sumsShowSpecUptoCard

/-- THE SECOND FORM's CARD OF 'sizarlaw43.SumsVerifySpec'. -/
def sumsVerifySpecUptoCard : Claim7 := { stood := { row := sumsVerifySpecUptoRow, standIns := [], harness := (true, "833703ed8f6dcf2745cd20af5890b9c8601fb77d439ce471425d32824cc10431"), looks := true }, kinds := [], alts := [], laidByText := true, laidKinds := [.data, .data], laidTests := true, laidLooks := .later }
def SumsVerifySpecUptoCardSaid : Prop := Claim7.holds Tryz.pinned (.plain (OpenSpec.upto sumsVerifySpecSpec)) sumsVerifySpecUptoCard
end Rows
end Go.Proofs.YtmfmgeapecapiaaGreatDoor
