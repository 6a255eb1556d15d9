/-
  DERIVED. GIVEN WITH THE SEED: THE CARDS: each row of YtdoelepflcaijaaDoorRows.lean that lists a variable, with what it lists TIED to the program's text (the seventh form; the later family's looks); each row that meets fmt, with fmt's text TOLD by the authors' own Lean function (tested against real Go, not proved from fmt's source: count such statements apart). THE CARD IS WHAT COUNTS. Prove the row's statement (the work); the ties are given (YtdoelepflcaijaaDoorTie.lean); close each card by the builder's one call (the guide's Derived/Test/ToyasCard.lean, 'card_holds'). Laid BY PROGRAM, IN A SANDBOX (cutbox-door.mjs). By AI agents, Wed Nov 11 2026. No macro, syntax, notation, axiom, sorry.
-/
import Derived.Test.YtdoelepflcaijaaDoorRows
import GoSem.ClaimSeven
namespace Go.Proofs.YtdoelepflcaijaaDoor
namespace Rows

/-- THE TIED CARD OF 'laws.FnExactShow'. -/
def fnExactShowCard : Claim7 := { stood := { row := fnExactShowRow, standIns := [], harness := (true, "fa41e7b5133aa3047e189577c4d0c887ce4926686b8c5dbf089967ada421e61b"), looks := true }, kinds := [], alts := [], laidByText := true, laidKinds := [.data, .data, .data], laidTests := true, laidLooks := .later }
def FnExactShowCardSaid : Prop := Claim7.holds Tryd.pinned (.plain (OpenSpec.ofChange fnExactShowSpec)) fnExactShowCard

/-- THE TIED CARD OF 'laws.FnNumbers'. -/
def fnNumbersCard : Claim7 := { stood := { row := fnNumbersRow, standIns := [], harness := (true, "fa41e7b5133aa3047e189577c4d0c887ce4926686b8c5dbf089967ada421e61b"), looks := true }, kinds := [], alts := [], laidByText := true, laidKinds := [.data, .data, .data, .sentinel, .sentinel], laidTests := true, laidLooks := .later }
def FnNumbersCardSaid : Prop := Claim7.holds Tryd.pinned (.plain (OpenSpec.ofChange fnNumbersSpec)) fnNumbersCard

/-- THE TIED CARD OF 'laws.FnExactRead'. -/
def fnExactReadCard : Claim7 := { stood := { row := fnExactReadRow, standIns := [], harness := (true, "fa41e7b5133aa3047e189577c4d0c887ce4926686b8c5dbf089967ada421e61b"), looks := true }, kinds := [], alts := [], laidByText := true, laidKinds := [.data, .data, .data, .sentinel, .sentinel], laidTests := true, laidLooks := .later }
def FnExactReadCardSaid : Prop := Claim7.holds Tryd.pinned (.plain (OpenSpec.ofChange fnExactReadSpec)) fnExactReadCard

/-- THE TIED CARD OF 'laws.FnExactHeapOk'. -/
def fnExactHeapOkCard : Claim7 := { stood := { row := fnExactHeapOkRow, standIns := [], harness := (true, "fa41e7b5133aa3047e189577c4d0c887ce4926686b8c5dbf089967ada421e61b"), looks := true }, kinds := [], alts := [], laidByText := true, laidKinds := [.data, .data, .data, .sentinel, .sentinel], laidTests := true, laidLooks := .later }
def FnExactHeapOkCardSaid : Prop := Claim7.holds Tryd.pinned (.plain (OpenSpec.ofChange fnExactHeapOkSpec)) fnExactHeapOkCard

/-- THE TIED CARD OF 'laws.FnExactDepth'. -/
def fnExactDepthCard : Claim7 := { stood := { row := fnExactDepthRow, standIns := [], harness := (true, "fa41e7b5133aa3047e189577c4d0c887ce4926686b8c5dbf089967ada421e61b"), looks := true }, kinds := [], alts := [], laidByText := true, laidKinds := [.data, .data, .data, .sentinel, .sentinel], laidTests := true, laidLooks := .later }
def FnExactDepthCardSaid : Prop := Claim7.holds Tryd.pinned (.plain (OpenSpec.ofChange fnExactDepthSpec)) fnExactDepthCard

/-- THE SECOND FORM's CARD OF 'laws.FnExactShow'. -/
def fnExactShowUptoCard : Claim7 := { stood := { row := fnExactShowUptoRow, standIns := [], harness := (true, "fa41e7b5133aa3047e189577c4d0c887ce4926686b8c5dbf089967ada421e61b"), looks := true }, kinds := [], alts := [], laidByText := true, laidKinds := [.data, .data, .data], laidTests := true, laidLooks := .later }
def FnExactShowUptoCardSaid : Prop := Claim7.holds Tryd.pinned (.plain (OpenSpec.upto fnExactShowSpec)) fnExactShowUptoCard

/-- THE SECOND FORM's CARD OF 'laws.FnNumbers'. -/
def fnNumbersUptoCard : Claim7 := { stood := { row := fnNumbersUptoRow, standIns := [], harness := (true, "fa41e7b5133aa3047e189577c4d0c887ce4926686b8c5dbf089967ada421e61b"), looks := true }, kinds := [], alts := [], laidByText := true, laidKinds := [.data, .data, .data, .sentinel, .sentinel], laidTests := true, laidLooks := .later }
def FnNumbersUptoCardSaid : Prop := Claim7.holds Tryd.pinned (.plain (OpenSpec.upto fnNumbersSpec)) fnNumbersUptoCard

/-- THE SECOND FORM's CARD OF 'laws.FnExactRead'. -/
def fnExactReadUptoCard : Claim7 := { stood := { row := fnExactReadUptoRow, standIns := [], harness := (true, "fa41e7b5133aa3047e189577c4d0c887ce4926686b8c5dbf089967ada421e61b"), looks := true }, kinds := [], alts := [], laidByText := true, laidKinds := [.data, .data, .data, .sentinel, .sentinel], laidTests := true, laidLooks := .later }
def FnExactReadUptoCardSaid : Prop := Claim7.holds Tryd.pinned (.plain (OpenSpec.upto fnExactReadSpec)) fnExactReadUptoCard

/-- THE SECOND FORM's CARD OF 'laws.FnExactHeapOk'. -/
def fnExactHeapOkUptoCard : Claim7 := { stood := { row := fnExactHeapOkUptoRow, standIns := [], harness := (true, "fa41e7b5133aa3047e189577c4d0c887ce4926686b8c5dbf089967ada421e61b"), looks := true }, kinds := [], alts := [], laidByText := true, laidKinds := [.data, .data, .data, .sentinel, .sentinel], laidTests := true, laidLooks := .later }
def FnExactHeapOkUptoCardSaid : Prop := Claim7.holds Tryd.pinned (.plain (OpenSpec.upto fnExactHeapOkSpec)) fnExactHeapOkUptoCard

/-- THE SECOND FORM's CARD OF 'laws.FnExactDepth'. -/
def fnExactDepthUptoCard : Claim7 := { stood := { row := fnExactDepthUptoRow, standIns := [], harness := (true, "fa41e7b5133aa3047e189577c4d0c887ce4926686b8c5dbf089967ada421e61b"), looks := true }, kinds := [], alts := [], laidByText := true, laidKinds := [.data, .data, .data, .sentinel, .sentinel], laidTests := true, laidLooks := .later }
def FnExactDepthUptoCardSaid : Prop := Claim7.holds Tryd.pinned (.plain (OpenSpec.upto fnExactDepthSpec)) fnExactDepthUptoCard
end Rows
end Go.Proofs.YtdoelepflcaijaaDoor
