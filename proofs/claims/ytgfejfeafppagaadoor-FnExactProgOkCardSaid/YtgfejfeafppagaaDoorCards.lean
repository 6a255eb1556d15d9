/-
  DERIVED. GIVEN WITH THE SEED: THE CARDS: each row of YtgfejfeafppagaaDoorRows.lean that lists a variable, with what it lists TIED to the program's text (the seventh form; the later family's looks); each row that meets fmt, with fmt's text TOLD by the authors' own Lean function (tested against real Go, not proved from fmt's source: count such statements apart). THE CARD IS WHAT COUNTS. Prove the row's statement (the work); the ties are given (YtgfejfeafppagaaDoorTie.lean); close each card by the builder's one call (the guide's Derived/Test/ToyasCard.lean, 'card_holds'). Laid BY PROGRAM, IN A SANDBOX (cutbox-door.mjs). By AI agents, Wed Nov 11 2026. No macro, syntax, notation, axiom, sorry.
-/
import Derived.Test.YtgfejfeafppagaaDoorRows
import GoSem.ClaimSeven
namespace Go.Proofs.YtgfejfeafppagaaDoor
namespace Rows

/-- THE TIED CARD OF 'laws.FnExactReadDec'. -/
def fnExactReadDecCard : Claim7 := { stood := { row := fnExactReadDecRow, standIns := [], harness := (true, "4c84dbd909436180359cd9efea79f8b9b96511b745453ae58d61f88f4b63b277"), looks := true }, kinds := [], alts := [], laidByText := true, laidKinds := [.data, .data, .data, .sentinel, .sentinel], laidTests := true, laidLooks := .later }
def FnExactReadDecCardSaid : Prop := Claim7.holds Tryd.pinned (.plain (OpenSpec.ofChange fnExactReadDecSpec)) fnExactReadDecCard

/-- THE TIED CARD OF 'laws.FnNumbers'. -/
def fnNumbersCard : Claim7 := { stood := { row := fnNumbersRow, standIns := [], harness := (true, "4c84dbd909436180359cd9efea79f8b9b96511b745453ae58d61f88f4b63b277"), looks := true }, kinds := [], alts := [], laidByText := true, laidKinds := [.data, .data, .data, .sentinel, .sentinel], laidTests := true, laidLooks := .later }
def FnNumbersCardSaid : Prop := Claim7.holds Tryd.pinned (.plain (OpenSpec.ofChange fnNumbersSpec)) fnNumbersCard

/-- THE TIED CARD OF 'laws.FnExactIsName'. -/
def fnExactIsNameCard : Claim7 := { stood := { row := fnExactIsNameRow, standIns := [], harness := (true, "4c84dbd909436180359cd9efea79f8b9b96511b745453ae58d61f88f4b63b277"), looks := true }, kinds := [], alts := [], laidByText := true, laidKinds := [.data, .data, .data, .sentinel, .sentinel], laidTests := true, laidLooks := .later }
def FnExactIsNameCardSaid : Prop := Claim7.holds Tryd.pinned (.plain (OpenSpec.ofChange fnExactIsNameSpec)) fnExactIsNameCard

/-- THE TIED CARD OF 'laws.FnExactValueOk'. -/
def fnExactValueOkCard : Claim7 := { stood := { row := fnExactValueOkRow, standIns := [], harness := (true, "4c84dbd909436180359cd9efea79f8b9b96511b745453ae58d61f88f4b63b277"), looks := true }, kinds := [], alts := [], laidByText := true, laidKinds := [.data, .data, .data, .sentinel, .sentinel], laidTests := true, laidLooks := .later }
def FnExactValueOkCardSaid : Prop := Claim7.holds Tryd.pinned (.plain (OpenSpec.ofChange fnExactValueOkSpec)) fnExactValueOkCard

/-- THE TIED CARD OF 'laws.FnExactRead'. -/
def fnExactReadCard : Claim7 := { stood := { row := fnExactReadRow, standIns := [], harness := (true, "4c84dbd909436180359cd9efea79f8b9b96511b745453ae58d61f88f4b63b277"), looks := true }, kinds := [], alts := [], laidByText := true, laidKinds := [.data, .data, .data, .sentinel, .sentinel], laidTests := true, laidLooks := .later }
def FnExactReadCardSaid : Prop := Claim7.holds Tryd.pinned (.plain (OpenSpec.ofChange fnExactReadSpec)) fnExactReadCard

/-- THE TIED CARD OF 'laws.FnExactHeapOk'. -/
def fnExactHeapOkCard : Claim7 := { stood := { row := fnExactHeapOkRow, standIns := [], harness := (true, "4c84dbd909436180359cd9efea79f8b9b96511b745453ae58d61f88f4b63b277"), looks := true }, kinds := [], alts := [], laidByText := true, laidKinds := [.data, .data, .data, .sentinel, .sentinel], laidTests := true, laidLooks := .later }
def FnExactHeapOkCardSaid : Prop := Claim7.holds Tryd.pinned (.plain (OpenSpec.ofChange fnExactHeapOkSpec)) fnExactHeapOkCard

/-- THE TIED CARD OF 'laws.FnExactProgOk'. -/
def fnExactProgOkCard : Claim7 := { stood := { row := fnExactProgOkRow, standIns := [], harness := (true, "4c84dbd909436180359cd9efea79f8b9b96511b745453ae58d61f88f4b63b277"), looks := true }, kinds := [], alts := [], laidByText := true, laidKinds := [.data, .data, .data, .sentinel, .sentinel], laidTests := true, laidLooks := .later }
def FnExactProgOkCardSaid : Prop := Claim7.holds Tryd.pinned (.plain (OpenSpec.ofChange fnExactProgOkSpec)) fnExactProgOkCard

/-- THE TIED CARD OF 'laws.FnExactDepth'. -/
def fnExactDepthCard : Claim7 := { stood := { row := fnExactDepthRow, standIns := [], harness := (true, "4c84dbd909436180359cd9efea79f8b9b96511b745453ae58d61f88f4b63b277"), looks := true }, kinds := [], alts := [], laidByText := true, laidKinds := [.data, .data, .data, .sentinel, .sentinel], laidTests := true, laidLooks := .later }
def FnExactDepthCardSaid : Prop := Claim7.holds Tryd.pinned (.plain (OpenSpec.ofChange fnExactDepthSpec)) fnExactDepthCard

/-- THE SECOND FORM's CARD OF 'laws.FnExactReadDec'. -/
def fnExactReadDecUptoCard : Claim7 := { stood := { row := fnExactReadDecUptoRow, standIns := [], harness := (true, "4c84dbd909436180359cd9efea79f8b9b96511b745453ae58d61f88f4b63b277"), looks := true }, kinds := [], alts := [], laidByText := true, laidKinds := [.data, .data, .data, .sentinel, .sentinel], laidTests := true, laidLooks := .later }
def FnExactReadDecUptoCardSaid : Prop := Claim7.holds Tryd.pinned (.plain (OpenSpec.upto fnExactReadDecSpec)) fnExactReadDecUptoCard

/-- THE SECOND FORM's CARD OF 'laws.FnNumbers'. -/
def fnNumbersUptoCard : Claim7 := { stood := { row := fnNumbersUptoRow, standIns := [], harness := (true, "4c84dbd909436180359cd9efea79f8b9b96511b745453ae58d61f88f4b63b277"), looks := true }, kinds := [], alts := [], laidByText := true, laidKinds := [.data, .data, .data, .sentinel, .sentinel], laidTests := true, laidLooks := .later }
def FnNumbersUptoCardSaid : Prop := Claim7.holds Tryd.pinned (.plain (OpenSpec.upto fnNumbersSpec)) fnNumbersUptoCard

/-- THE SECOND FORM's CARD OF 'laws.FnExactIsName'. -/
def fnExactIsNameUptoCard : Claim7 := { stood := { row := fnExactIsNameUptoRow, standIns := [], harness := (true, "4c84dbd909436180359cd9efea79f8b9b96511b745453ae58d61f88f4b63b277"), looks := true }, kinds := [], alts := [], laidByText := true, laidKinds := [.data, .data, .data, .sentinel, .sentinel], laidTests := true, laidLooks := .later }
def FnExactIsNameUptoCardSaid : Prop := Claim7.holds Tryd.pinned (.plain (OpenSpec.upto fnExactIsNameSpec)) fnExactIsNameUptoCard

/-- THE SECOND FORM's CARD OF 'laws.FnExactValueOk'. -/
def fnExactValueOkUptoCard : Claim7 := { stood := { row := fnExactValueOkUptoRow, standIns := [], harness := (true, "4c84dbd909436180359cd9efea79f8b9b96511b745453ae58d61f88f4b63b277"), looks := true }, kinds := [], alts := [], laidByText := true, laidKinds := [.data, .data, .data, .sentinel, .sentinel], laidTests := true, laidLooks := .later }
def FnExactValueOkUptoCardSaid : Prop := Claim7.holds Tryd.pinned (.plain (OpenSpec.upto fnExactValueOkSpec)) fnExactValueOkUptoCard

/-- THE SECOND FORM's CARD OF 'laws.FnExactRead'. -/
def fnExactReadUptoCard : Claim7 := { stood := { row := fnExactReadUptoRow, standIns := [], harness := (true, "4c84dbd909436180359cd9efea79f8b9b96511b745453ae58d61f88f4b63b277"), looks := true }, kinds := [], alts := [], laidByText := true, laidKinds := [.data, .data, .data, .sentinel, .sentinel], laidTests := true, laidLooks := .later }
def FnExactReadUptoCardSaid : Prop := Claim7.holds Tryd.pinned (.plain (OpenSpec.upto fnExactReadSpec)) fnExactReadUptoCard

/-- THE SECOND FORM's CARD OF 'laws.FnExactHeapOk'. -/
def fnExactHeapOkUptoCard : Claim7 := { stood := { row := fnExactHeapOkUptoRow, standIns := [], harness := (true, "4c84dbd909436180359cd9efea79f8b9b96511b745453ae58d61f88f4b63b277"), looks := true }, kinds := [], alts := [], laidByText := true, laidKinds := [.data, .data, .data, .sentinel, .sentinel], laidTests := true, laidLooks := .later }
def FnExactHeapOkUptoCardSaid : Prop := Claim7.holds Tryd.pinned (.plain (OpenSpec.upto fnExactHeapOkSpec)) fnExactHeapOkUptoCard

/-- THE SECOND FORM's CARD OF 'laws.FnExactProgOk'. -/
def fnExactProgOkUptoCard : Claim7 := { stood := { row := fnExactProgOkUptoRow, standIns := [], harness := (true, "4c84dbd909436180359cd9efea79f8b9b96511b745453ae58d61f88f4b63b277"), looks := true }, kinds := [], alts := [], laidByText := true, laidKinds := [.data, .data, .data, .sentinel, .sentinel], laidTests := true, laidLooks := .later }
def FnExactProgOkUptoCardSaid : Prop := Claim7.holds Tryd.pinned (.plain (OpenSpec.upto fnExactProgOkSpec)) fnExactProgOkUptoCard

/-- THE SECOND FORM's CARD OF 'laws.FnExactDepth'. -/
def fnExactDepthUptoCard : Claim7 := { stood := { row := fnExactDepthUptoRow, standIns := [], harness := (true, "4c84dbd909436180359cd9efea79f8b9b96511b745453ae58d61f88f4b63b277"), looks := true }, kinds := [], alts := [], laidByText := true, laidKinds := [.data, .data, .data, .sentinel, .sentinel], laidTests := true, laidLooks := .later }
def FnExactDepthUptoCardSaid : Prop := Claim7.holds Tryd.pinned (.plain (OpenSpec.upto fnExactDepthSpec)) fnExactDepthUptoCard
end Rows
end Go.Proofs.YtgfejfeafppagaaDoor
