/-
  DERIVED. GIVEN WITH THE SEED: THE CARDS: each row of YtgcmbiegbclhmaaDoorRows.lean that lists a variable, with what it lists TIED to the program's text (the seventh form; the later family's looks); each row that meets fmt, with fmt's text TOLD by the authors' own Lean function (tested against real Go, not proved from fmt's source: count such statements apart). THE CARD IS WHAT COUNTS. Prove the row's statement (the work); the ties are given (YtgcmbiegbclhmaaDoorTie.lean); close each card by the builder's one call (the guide's Derived/Test/ToyasCard.lean, 'card_holds'). Laid BY PROGRAM, IN A SANDBOX (cutbox-door.mjs). By AI agents, Wed Nov 11 2026. No macro, syntax, notation, axiom, sorry.
-/
import Derived.Test.YtgcmbiegbclhmaaDoorRows
import GoSem.ClaimSeven
namespace Go.Proofs.YtgcmbiegbclhmaaDoor
namespace Rows

/-- THE TIED CARD OF 'sizarlaw41.TreeRootSpec'. -/
def treeRootSpecCard : Claim7 := { stood := { row := treeRootSpecRow, standIns := [], harness := (true, "e7895613f7a6f20ab34051749ba40f494a61e62de716b87be17a479f4fa2dcb5"), looks := false }, kinds := [], alts := [], laidByText := true, laidKinds := [.data, .data], laidTests := true, laidLooks := .later }
def TreeRootSpecCardSaid : Prop := Claim7.holds Tryd.pinned (.plain (OpenSpec.ofChange treeRootSpecSpec)) treeRootSpecCard

/-- THE TIED CARD OF 'sizarlaw41.TreePathSpec'. -/
def treePathSpecCard : Claim7 := { stood := { row := treePathSpecRow, standIns := [], harness := (true, "e7895613f7a6f20ab34051749ba40f494a61e62de716b87be17a479f4fa2dcb5"), looks := false }, kinds := [], alts := [], laidByText := true, laidKinds := [.data, .data], laidTests := true, laidLooks := .later }
def TreePathSpecCardSaid : Prop := Claim7.holds Tryd.pinned (.plain (OpenSpec.ofChange treePathSpecSpec)) treePathSpecCard

/-- THE TIED CARD OF 'sizarlaw41.TreeBinds'. -/
def treeBindsCard : Claim7 := { stood := { row := treeBindsRow, standIns := [], harness := (true, "e7895613f7a6f20ab34051749ba40f494a61e62de716b87be17a479f4fa2dcb5"), looks := false }, kinds := [], alts := [], laidByText := true, laidKinds := [.data, .data], laidTests := true, laidLooks := .later }
def TreeBindsCardSaid : Prop := Claim7.holds Tryd.pinned (.plain (OpenSpec.ofChange treeBindsSpec)) treeBindsCard

/-- THE TIED CARD OF 'sizarlaw41.TreeParts'. -/
def treePartsCard : Claim7 := { stood := { row := treePartsRow, standIns := [], harness := (true, "e7895613f7a6f20ab34051749ba40f494a61e62de716b87be17a479f4fa2dcb5"), looks := false }, kinds := [], alts := [], laidByText := true, laidKinds := [.data, .data], laidTests := true, laidLooks := .later }
def TreePartsCardSaid : Prop := Claim7.holds Tryd.pinned (.plain (OpenSpec.ofChange treePartsSpec)) treePartsCard

/-- THE TIED CARD OF 'sizarlaw41.TreeLimits'. -/
def treeLimitsCard : Claim7 := { stood := { row := treeLimitsRow, standIns := [], harness := (true, "e7895613f7a6f20ab34051749ba40f494a61e62de716b87be17a479f4fa2dcb5"), looks := false }, kinds := [], alts := [], laidByText := true, laidKinds := [.data, .data], laidTests := true, laidLooks := .later }
def TreeLimitsCardSaid : Prop := Claim7.holds Tryd.pinned (.plain (OpenSpec.ofChange treeLimitsSpec)) treeLimitsCard

/-- THE TIED CARD OF 'sizarlaw41.TreeLeafSpec'. -/
def treeLeafSpecCard : Claim7 := { stood := { row := treeLeafSpecRow, standIns := [], harness := (true, "e7895613f7a6f20ab34051749ba40f494a61e62de716b87be17a479f4fa2dcb5"), looks := false }, kinds := [], alts := [], laidByText := true, laidKinds := [.data, .data], laidTests := true, laidLooks := .later }
def TreeLeafSpecCardSaid : Prop := Claim7.holds Tryd.pinned (.plain (OpenSpec.ofChange treeLeafSpecSpec)) treeLeafSpecCard

/-- THE TIED CARD OF 'sizarlaw41.TreeClimbs'. -/
def treeClimbsCard : Claim7 := { stood := { row := treeClimbsRow, standIns := [], harness := (true, "e7895613f7a6f20ab34051749ba40f494a61e62de716b87be17a479f4fa2dcb5"), looks := false }, kinds := [], alts := [], laidByText := true, laidKinds := [.data, .data], laidTests := true, laidLooks := .later }
def TreeClimbsCardSaid : Prop := Claim7.holds Tryd.pinned (.plain (OpenSpec.ofChange treeClimbsSpec)) treeClimbsCard

/-- THE TIED CARD OF 'sizarlaw41.TreeHidden'. -/
def treeHiddenCard : Claim7 := { stood := { row := treeHiddenRow, standIns := [], harness := (true, "e7895613f7a6f20ab34051749ba40f494a61e62de716b87be17a479f4fa2dcb5"), looks := false }, kinds := [], alts := [], laidByText := true, laidKinds := [.data, .data], laidTests := true, laidLooks := .later }
def TreeHiddenCardSaid : Prop := Claim7.holds Tryd.pinned (.plain (OpenSpec.ofChange treeHiddenSpec)) treeHiddenCard

/-- THE SECOND FORM's CARD OF 'sizarlaw41.TreeRootSpec'. -/
def treeRootSpecUptoCard : Claim7 := { stood := { row := treeRootSpecUptoRow, standIns := [], harness := (true, "e7895613f7a6f20ab34051749ba40f494a61e62de716b87be17a479f4fa2dcb5"), looks := false }, kinds := [], alts := [], laidByText := true, laidKinds := [.data, .data], laidTests := true, laidLooks := .later }
def TreeRootSpecUptoCardSaid : Prop := Claim7.holds Tryd.pinned (.plain (OpenSpec.upto treeRootSpecSpec)) treeRootSpecUptoCard

/-- THE SECOND FORM's CARD OF 'sizarlaw41.TreePathSpec'. -/
def treePathSpecUptoCard : Claim7 := { stood := { row := treePathSpecUptoRow, standIns := [], harness := (true, "e7895613f7a6f20ab34051749ba40f494a61e62de716b87be17a479f4fa2dcb5"), looks := false }, kinds := [], alts := [], laidByText := true, laidKinds := [.data, .data], laidTests := true, laidLooks := .later }
def TreePathSpecUptoCardSaid : Prop := Claim7.holds Tryd.pinned (.plain (OpenSpec.upto treePathSpecSpec)) treePathSpecUptoCard

/-- THE SECOND FORM's CARD OF 'sizarlaw41.TreeBinds'. -/
def treeBindsUptoCard : Claim7 := { stood := { row := treeBindsUptoRow, standIns := [], harness := (true, "e7895613f7a6f20ab34051749ba40f494a61e62de716b87be17a479f4fa2dcb5"), looks := false }, kinds := [], alts := [], laidByText := true, laidKinds := [.data, .data], laidTests := true, laidLooks := .later }
def TreeBindsUptoCardSaid : Prop := Claim7.holds Tryd.pinned (.plain (OpenSpec.upto treeBindsSpec)) treeBindsUptoCard

/-- THE SECOND FORM's CARD OF 'sizarlaw41.TreeParts'. -/
def treePartsUptoCard : Claim7 := { stood := { row := treePartsUptoRow, standIns := [], harness := (true, "e7895613f7a6f20ab34051749ba40f494a61e62de716b87be17a479f4fa2dcb5"), looks := false }, kinds := [], alts := [], laidByText := true, laidKinds := [.data, .data], laidTests := true, laidLooks := .later }
def TreePartsUptoCardSaid : Prop := Claim7.holds Tryd.pinned (.plain (OpenSpec.upto treePartsSpec)) treePartsUptoCard

/-- THE SECOND FORM's CARD OF 'sizarlaw41.TreeLimits'. -/
def treeLimitsUptoCard : Claim7 := { stood := { row := treeLimitsUptoRow, standIns := [], harness := (true, "e7895613f7a6f20ab34051749ba40f494a61e62de716b87be17a479f4fa2dcb5"), looks := false }, kinds := [], alts := [], laidByText := true, laidKinds := [.data, .data], laidTests := true, laidLooks := .later }
def TreeLimitsUptoCardSaid : Prop := Claim7.holds Tryd.pinned (.plain (OpenSpec.upto treeLimitsSpec)) treeLimitsUptoCard

/-- THE SECOND FORM's CARD OF 'sizarlaw41.TreeLeafSpec'. -/
def treeLeafSpecUptoCard : Claim7 := { stood := { row := treeLeafSpecUptoRow, standIns := [], harness := (true, "e7895613f7a6f20ab34051749ba40f494a61e62de716b87be17a479f4fa2dcb5"), looks := false }, kinds := [], alts := [], laidByText := true, laidKinds := [.data, .data], laidTests := true, laidLooks := .later }
def TreeLeafSpecUptoCardSaid : Prop := Claim7.holds Tryd.pinned (.plain (OpenSpec.upto treeLeafSpecSpec)) treeLeafSpecUptoCard

/-- THE SECOND FORM's CARD OF 'sizarlaw41.TreeClimbs'. -/
def treeClimbsUptoCard : Claim7 := { stood := { row := treeClimbsUptoRow, standIns := [], harness := (true, "e7895613f7a6f20ab34051749ba40f494a61e62de716b87be17a479f4fa2dcb5"), looks := false }, kinds := [], alts := [], laidByText := true, laidKinds := [.data, .data], laidTests := true, laidLooks := .later }
def TreeClimbsUptoCardSaid : Prop := Claim7.holds Tryd.pinned (.plain (OpenSpec.upto treeClimbsSpec)) treeClimbsUptoCard

/-- THE SECOND FORM's CARD OF 'sizarlaw41.TreeHidden'. -/
def treeHiddenUptoCard : Claim7 := { stood := { row := treeHiddenUptoRow, standIns := [], harness := (true, "e7895613f7a6f20ab34051749ba40f494a61e62de716b87be17a479f4fa2dcb5"), looks := false }, kinds := [], alts := [], laidByText := true, laidKinds := [.data, .data], laidTests := true, laidLooks := .later }
def TreeHiddenUptoCardSaid : Prop := Claim7.holds Tryd.pinned (.plain (OpenSpec.upto treeHiddenSpec)) treeHiddenUptoCard
end Rows
end Go.Proofs.YtgcmbiegbclhmaaDoor
