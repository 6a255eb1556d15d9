/-
  DERIVED. GIVEN WITH THE SEED: THE CARDS: each row of YtjjfodoafefohaaGreatDoorRows.lean that lists a variable, with what it lists TIED to the program's text (the seventh form; the later family's looks); each row that meets fmt, with fmt's text TOLD by the authors' own Lean function (tested against real Go, not proved from fmt's source: count such statements apart). THE CARD IS WHAT COUNTS. Prove the row's statement (the work); the ties are given (YtjjfodoafefohaaGreatDoorTie.lean); close each card by the builder's one call (the guide's Derived/Test/ToyasCard.lean, 'card_holds'). Laid BY PROGRAM, IN A SANDBOX (cutbox-door.mjs). By AI agents, Wed Nov 11 2026. No macro, syntax, notation, axiom, sorry.
-/
import Derived.Test.YtjjfodoafefohaaGreatDoorRows
import GoSem.ClaimSeven
namespace Go.Proofs.YtjjfodoafefohaaGreatDoor
namespace Rows

/-- THE TIED CARD OF 'laws.FnExactFree'. -/
def fnExactFreeCard : Claim7 := { stood := { row := fnExactFreeRow, standIns := [], harness := (true, "5db10d34740a02c97b448bcdac66a47b2d078d4867539cec4ad19f7092be3698"), looks := true }, kinds := [], alts := [], laidByText := true, laidKinds := [.data, .data, .data, .sentinel, .sentinel], laidTests := true, laidLooks := .later }
def FnExactFreeCardSaid : Prop := Claim7.holds Tryz.pinned (.plain (OpenSpec.ofChange fnExactFreeSpec)) fnExactFreeCard

/-- THE TIED CARD OF 'laws.FnExactTidy'. -/
def fnExactTidyCard : Claim7 := { stood := { row := fnExactTidyRow, standIns := [], harness := (true, "5db10d34740a02c97b448bcdac66a47b2d078d4867539cec4ad19f7092be3698"), looks := true }, kinds := [], alts := [], laidByText := true, laidKinds := [.data, .data, .data, .sentinel, .sentinel], laidTests := true, laidLooks := .later }
def FnExactTidyCardSaid : Prop := Claim7.holds Tryz.pinned (.plain (OpenSpec.ofChange fnExactTidySpec)) fnExactTidyCard

/-- THE TIED CARD OF 'laws.FnExactPrint'. -/
def fnExactPrintCard : Claim7 := { stood := { row := fnExactPrintRow, standIns := [], harness := (true, "5db10d34740a02c97b448bcdac66a47b2d078d4867539cec4ad19f7092be3698"), looks := true }, kinds := [], alts := [], laidByText := true, laidKinds := [.data, .data, .data, .sentinel, .sentinel], laidTests := true, laidLooks := .later }
def FnExactPrintCardSaid : Prop := Claim7.holds Tryz.pinned (.plain (OpenSpec.ofChange fnExactPrintSpec)) fnExactPrintCard

/-- THE TIED CARD OF 'laws.FnExactSrcOk'. -/
def fnExactSrcOkCard : Claim7 := { stood := { row := fnExactSrcOkRow, standIns := [], harness := (true, "5db10d34740a02c97b448bcdac66a47b2d078d4867539cec4ad19f7092be3698"), looks := true }, kinds := [], alts := [], laidByText := true, laidKinds := [.data, .data, .data, .sentinel, .sentinel], laidTests := true, laidLooks := .later }
def FnExactSrcOkCardSaid : Prop := Claim7.holds Tryz.pinned (.plain (OpenSpec.ofChange fnExactSrcOkSpec)) fnExactSrcOkCard

/-- THE TIED CARD OF 'laws.FnExactCompare'. -/
def fnExactCompareCard : Claim7 := { stood := { row := fnExactCompareRow, standIns := [], harness := (true, "5db10d34740a02c97b448bcdac66a47b2d078d4867539cec4ad19f7092be3698"), looks := true }, kinds := [], alts := [], laidByText := true, laidKinds := [.data, .data, .data, .sentinel, .sentinel], laidTests := true, laidLooks := .later }
def FnExactCompareCardSaid : Prop := Claim7.holds Tryz.pinned (.plain (OpenSpec.ofChange fnExactCompareSpec)) fnExactCompareCard

/-- THE TIED CARD OF 'laws.FnExactOrder'. -/
def fnExactOrderCard : Claim7 := { stood := { row := fnExactOrderRow, standIns := [], harness := (true, "5db10d34740a02c97b448bcdac66a47b2d078d4867539cec4ad19f7092be3698"), looks := true }, kinds := [], alts := [], laidByText := true, laidKinds := [.data, .data, .data, .sentinel, .sentinel], laidTests := true, laidLooks := .later }
def FnExactOrderCardSaid : Prop := Claim7.holds Tryz.pinned (.plain (OpenSpec.ofChange fnExactOrderSpec)) fnExactOrderCard

/-- THE TIED CARD OF 'laws.FnExactSysOk'. -/
def fnExactSysOkCard : Claim7 := { stood := { row := fnExactSysOkRow, standIns := [], harness := (true, "5db10d34740a02c97b448bcdac66a47b2d078d4867539cec4ad19f7092be3698"), looks := true }, kinds := [], alts := [], laidByText := true, laidKinds := [.data, .data, .data, .sentinel, .sentinel], laidTests := true, laidLooks := .later }
def FnExactSysOkCardSaid : Prop := Claim7.holds Tryz.pinned (.plain (OpenSpec.ofChange fnExactSysOkSpec)) fnExactSysOkCard

/-- THE TIED CARD OF 'laws.FnExactSize'. -/
def fnExactSizeCard : Claim7 := { stood := { row := fnExactSizeRow, standIns := [], harness := (true, "5db10d34740a02c97b448bcdac66a47b2d078d4867539cec4ad19f7092be3698"), looks := true }, kinds := [], alts := [], laidByText := true, laidKinds := [.data, .data, .data, .sentinel, .sentinel], laidTests := true, laidLooks := .later }
def FnExactSizeCardSaid : Prop := Claim7.holds Tryz.pinned (.plain (OpenSpec.ofChange fnExactSizeSpec)) fnExactSizeCard

/-- THE TIED CARD OF 'laws.FnExactLookup'. -/
def fnExactLookupCard : Claim7 := { stood := { row := fnExactLookupRow, standIns := [], harness := (true, "5db10d34740a02c97b448bcdac66a47b2d078d4867539cec4ad19f7092be3698"), looks := true }, kinds := [], alts := [], laidByText := true, laidKinds := [.data, .data, .data, .sentinel, .sentinel], laidTests := true, laidLooks := .later }
def FnExactLookupCardSaid : Prop := Claim7.holds Tryz.pinned (.plain (OpenSpec.ofChange fnExactLookupSpec)) fnExactLookupCard

/-- THE SECOND FORM's CARD OF 'laws.FnExactFree'. -/
def fnExactFreeUptoCard : Claim7 := { stood := { row := fnExactFreeUptoRow, standIns := [], harness := (true, "5db10d34740a02c97b448bcdac66a47b2d078d4867539cec4ad19f7092be3698"), looks := true }, kinds := [], alts := [], laidByText := true, laidKinds := [.data, .data, .data, .sentinel, .sentinel], laidTests := true, laidLooks := .later }
def FnExactFreeUptoCardSaid : Prop := Claim7.holds Tryz.pinned (.plain (OpenSpec.upto fnExactFreeSpec)) fnExactFreeUptoCard

/-- THE SECOND FORM's CARD OF 'laws.FnExactTidy'. -/
def fnExactTidyUptoCard : Claim7 := { stood := { row := fnExactTidyUptoRow, standIns := [], harness := (true, "5db10d34740a02c97b448bcdac66a47b2d078d4867539cec4ad19f7092be3698"), looks := true }, kinds := [], alts := [], laidByText := true, laidKinds := [.data, .data, .data, .sentinel, .sentinel], laidTests := true, laidLooks := .later }
def FnExactTidyUptoCardSaid : Prop := Claim7.holds Tryz.pinned (.plain (OpenSpec.upto fnExactTidySpec)) fnExactTidyUptoCard

/-- THE SECOND FORM's CARD OF 'laws.FnExactPrint'. -/
def fnExactPrintUptoCard : Claim7 := { stood := { row := fnExactPrintUptoRow, standIns := [], harness := (true, "5db10d34740a02c97b448bcdac66a47b2d078d4867539cec4ad19f7092be3698"), looks := true }, kinds := [], alts := [], laidByText := true, laidKinds := [.data, .data, .data, .sentinel, .sentinel], laidTests := true, laidLooks := .later }
def FnExactPrintUptoCardSaid : Prop := Claim7.holds Tryz.pinned (.plain (OpenSpec.upto fnExactPrintSpec)) fnExactPrintUptoCard

/-- THE SECOND FORM's CARD OF 'laws.FnExactSrcOk'. -/
def fnExactSrcOkUptoCard : Claim7 := { stood := { row := fnExactSrcOkUptoRow, standIns := [], harness := (true, "5db10d34740a02c97b448bcdac66a47b2d078d4867539cec4ad19f7092be3698"), looks := true }, kinds := [], alts := [], laidByText := true, laidKinds := [.data, .data, .data, .sentinel, .sentinel], laidTests := true, laidLooks := .later }
def FnExactSrcOkUptoCardSaid : Prop := Claim7.holds Tryz.pinned (.plain (OpenSpec.upto fnExactSrcOkSpec)) fnExactSrcOkUptoCard

/-- THE SECOND FORM's CARD OF 'laws.FnExactCompare'. -/
def fnExactCompareUptoCard : Claim7 := { stood := { row := fnExactCompareUptoRow, standIns := [], harness := (true, "5db10d34740a02c97b448bcdac66a47b2d078d4867539cec4ad19f7092be3698"), looks := true }, kinds := [], alts := [], laidByText := true, laidKinds := [.data, .data, .data, .sentinel, .sentinel], laidTests := true, laidLooks := .later }
def FnExactCompareUptoCardSaid : Prop := Claim7.holds Tryz.pinned (.plain (OpenSpec.upto fnExactCompareSpec)) fnExactCompareUptoCard

/-- THE SECOND FORM's CARD OF 'laws.FnExactOrder'. -/
def fnExactOrderUptoCard : Claim7 := { stood := { row := fnExactOrderUptoRow, standIns := [], harness := (true, "5db10d34740a02c97b448bcdac66a47b2d078d4867539cec4ad19f7092be3698"), looks := true }, kinds := [], alts := [], laidByText := true, laidKinds := [.data, .data, .data, .sentinel, .sentinel], laidTests := true, laidLooks := .later }
def FnExactOrderUptoCardSaid : Prop := Claim7.holds Tryz.pinned (.plain (OpenSpec.upto fnExactOrderSpec)) fnExactOrderUptoCard

/-- THE SECOND FORM's CARD OF 'laws.FnExactSysOk'. -/
def fnExactSysOkUptoCard : Claim7 := { stood := { row := fnExactSysOkUptoRow, standIns := [], harness := (true, "5db10d34740a02c97b448bcdac66a47b2d078d4867539cec4ad19f7092be3698"), looks := true }, kinds := [], alts := [], laidByText := true, laidKinds := [.data, .data, .data, .sentinel, .sentinel], laidTests := true, laidLooks := .later }
def FnExactSysOkUptoCardSaid : Prop := Claim7.holds Tryz.pinned (.plain (OpenSpec.upto fnExactSysOkSpec)) fnExactSysOkUptoCard

/-- THE SECOND FORM's CARD OF 'laws.FnExactSize'. -/
def fnExactSizeUptoCard : Claim7 := { stood := { row := fnExactSizeUptoRow, standIns := [], harness := (true, "5db10d34740a02c97b448bcdac66a47b2d078d4867539cec4ad19f7092be3698"), looks := true }, kinds := [], alts := [], laidByText := true, laidKinds := [.data, .data, .data, .sentinel, .sentinel], laidTests := true, laidLooks := .later }
def FnExactSizeUptoCardSaid : Prop := Claim7.holds Tryz.pinned (.plain (OpenSpec.upto fnExactSizeSpec)) fnExactSizeUptoCard

/-- THE SECOND FORM's CARD OF 'laws.FnExactLookup'. -/
def fnExactLookupUptoCard : Claim7 := { stood := { row := fnExactLookupUptoRow, standIns := [], harness := (true, "5db10d34740a02c97b448bcdac66a47b2d078d4867539cec4ad19f7092be3698"), looks := true }, kinds := [], alts := [], laidByText := true, laidKinds := [.data, .data, .data, .sentinel, .sentinel], laidTests := true, laidLooks := .later }
def FnExactLookupUptoCardSaid : Prop := Claim7.holds Tryz.pinned (.plain (OpenSpec.upto fnExactLookupSpec)) fnExactLookupUptoCard
end Rows
end Go.Proofs.YtjjfodoafefohaaGreatDoor
