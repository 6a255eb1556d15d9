/-
  DERIVED. GIVEN WITH THE SEED: THE CARDS: each row of YtjcjodcpiickaaaGreatDoorRows.lean that lists a variable, with what it lists TIED to the program's text (the seventh form; the later family's looks); each row that meets fmt, with fmt's text TOLD by the authors' own Lean function (tested against real Go, not proved from fmt's source: count such statements apart). THE CARD IS WHAT COUNTS. Prove the row's statement (the work); the ties are given (YtjcjodcpiickaaaGreatDoorTie.lean); close each card by the builder's one call (the guide's Derived/Test/ToyasCard.lean, 'card_holds'). Laid BY PROGRAM, IN A SANDBOX (cutbox-door.mjs). By AI agents, Wed Nov 11 2026. No macro, syntax, notation, axiom, sorry.
-/
import Derived.Test.YtjcjodcpiickaaaGreatDoorRows
import GoSem.ClaimSeven
namespace Go.Proofs.YtjcjodcpiickaaaGreatDoor
namespace Rows

/-- THE TIED CARD OF 'laws.FnRead'. -/
def fnReadCard : Claim7 := { stood := { row := fnReadRow, standIns := [], harness := (true, "68355060baeae7abc8cc64612cc3a03470a91bd7c9257a802ff07634442c83cd"), looks := true }, kinds := [], alts := [], laidByText := true, laidKinds := [.data, .data, .data, .sentinel, .sentinel], laidTests := true, laidLooks := .later }
def FnReadCardSaid : Prop := Claim7.holds Tryz.pinned (.plain (OpenSpec.ofChange fnReadSpec)) fnReadCard

/-- THE TIED CARD OF 'laws.FnText'. -/
def fnTextCard : Claim7 := { stood := { row := fnTextRow, standIns := [], harness := (true, "68355060baeae7abc8cc64612cc3a03470a91bd7c9257a802ff07634442c83cd"), looks := true }, kinds := [], alts := [], laidByText := true, laidKinds := [.data, .data, .data, .sentinel, .sentinel], laidTests := true, laidLooks := .later }
def FnTextCardSaid : Prop := Claim7.holds Tryz.pinned (.plain (OpenSpec.ofChange fnTextSpec)) fnTextCard

/-- THE TIED CARD OF 'laws.FnExactDataOk'. -/
def fnExactDataOkCard : Claim7 := { stood := { row := fnExactDataOkRow, standIns := [], harness := (true, "68355060baeae7abc8cc64612cc3a03470a91bd7c9257a802ff07634442c83cd"), looks := true }, kinds := [], alts := [], laidByText := true, laidKinds := [.data, .data, .data, .sentinel, .sentinel], laidTests := true, laidLooks := .later }
def FnExactDataOkCardSaid : Prop := Claim7.holds Tryz.pinned (.plain (OpenSpec.ofChange fnExactDataOkSpec)) fnExactDataOkCard

/-- THE TIED CARD OF 'laws.FnFree'. -/
def fnFreeCard : Claim7 := { stood := { row := fnFreeRow, standIns := [], harness := (true, "68355060baeae7abc8cc64612cc3a03470a91bd7c9257a802ff07634442c83cd"), looks := true }, kinds := [], alts := [], laidByText := true, laidKinds := [.data, .data, .data, .sentinel, .sentinel], laidTests := true, laidLooks := .later }
def FnFreeCardSaid : Prop := Claim7.holds Tryz.pinned (.plain (OpenSpec.ofChange fnFreeSpec)) fnFreeCard

/-- THE TIED CARD OF 'laws.FnLint'. -/
def fnLintCard : Claim7 := { stood := { row := fnLintRow, standIns := [], harness := (true, "68355060baeae7abc8cc64612cc3a03470a91bd7c9257a802ff07634442c83cd"), looks := true }, kinds := [], alts := [], laidByText := true, laidKinds := [.data, .data, .data, .sentinel, .sentinel], laidTests := true, laidLooks := .later }
def FnLintCardSaid : Prop := Claim7.holds Tryz.pinned (.plain (OpenSpec.ofChange fnLintSpec)) fnLintCard

/-- THE TIED CARD OF 'laws.FnSys'. -/
def fnSysCard : Claim7 := { stood := { row := fnSysRow, standIns := [], harness := (true, "68355060baeae7abc8cc64612cc3a03470a91bd7c9257a802ff07634442c83cd"), looks := true }, kinds := [], alts := [], laidByText := true, laidKinds := [.data, .data, .data, .sentinel, .sentinel], laidTests := true, laidLooks := .later }
def FnSysCardSaid : Prop := Claim7.holds Tryz.pinned (.plain (OpenSpec.ofChange fnSysSpec)) fnSysCard

/-- THE TIED CARD OF 'laws.FnOrder'. -/
def fnOrderCard : Claim7 := { stood := { row := fnOrderRow, standIns := [], harness := (true, "68355060baeae7abc8cc64612cc3a03470a91bd7c9257a802ff07634442c83cd"), looks := true }, kinds := [], alts := [], laidByText := true, laidKinds := [.data, .data, .data, .sentinel, .sentinel], laidTests := true, laidLooks := .later }
def FnOrderCardSaid : Prop := Claim7.holds Tryz.pinned (.plain (OpenSpec.ofChange fnOrderSpec)) fnOrderCard

/-- THE SECOND FORM's CARD OF 'laws.FnRead'. -/
def fnReadUptoCard : Claim7 := { stood := { row := fnReadUptoRow, standIns := [], harness := (true, "68355060baeae7abc8cc64612cc3a03470a91bd7c9257a802ff07634442c83cd"), looks := true }, kinds := [], alts := [], laidByText := true, laidKinds := [.data, .data, .data, .sentinel, .sentinel], laidTests := true, laidLooks := .later }
def FnReadUptoCardSaid : Prop := Claim7.holds Tryz.pinned (.plain (OpenSpec.upto fnReadSpec)) fnReadUptoCard

/-- THE SECOND FORM's CARD OF 'laws.FnText'. -/
def fnTextUptoCard : Claim7 := { stood := { row := fnTextUptoRow, standIns := [], harness := (true, "68355060baeae7abc8cc64612cc3a03470a91bd7c9257a802ff07634442c83cd"), looks := true }, kinds := [], alts := [], laidByText := true, laidKinds := [.data, .data, .data, .sentinel, .sentinel], laidTests := true, laidLooks := .later }
def FnTextUptoCardSaid : Prop := Claim7.holds Tryz.pinned (.plain (OpenSpec.upto fnTextSpec)) fnTextUptoCard

/-- THE SECOND FORM's CARD OF 'laws.FnExactDataOk'. -/
def fnExactDataOkUptoCard : Claim7 := { stood := { row := fnExactDataOkUptoRow, standIns := [], harness := (true, "68355060baeae7abc8cc64612cc3a03470a91bd7c9257a802ff07634442c83cd"), looks := true }, kinds := [], alts := [], laidByText := true, laidKinds := [.data, .data, .data, .sentinel, .sentinel], laidTests := true, laidLooks := .later }
def FnExactDataOkUptoCardSaid : Prop := Claim7.holds Tryz.pinned (.plain (OpenSpec.upto fnExactDataOkSpec)) fnExactDataOkUptoCard

/-- THE SECOND FORM's CARD OF 'laws.FnFree'. -/
def fnFreeUptoCard : Claim7 := { stood := { row := fnFreeUptoRow, standIns := [], harness := (true, "68355060baeae7abc8cc64612cc3a03470a91bd7c9257a802ff07634442c83cd"), looks := true }, kinds := [], alts := [], laidByText := true, laidKinds := [.data, .data, .data, .sentinel, .sentinel], laidTests := true, laidLooks := .later }
def FnFreeUptoCardSaid : Prop := Claim7.holds Tryz.pinned (.plain (OpenSpec.upto fnFreeSpec)) fnFreeUptoCard

/-- THE SECOND FORM's CARD OF 'laws.FnLint'. -/
def fnLintUptoCard : Claim7 := { stood := { row := fnLintUptoRow, standIns := [], harness := (true, "68355060baeae7abc8cc64612cc3a03470a91bd7c9257a802ff07634442c83cd"), looks := true }, kinds := [], alts := [], laidByText := true, laidKinds := [.data, .data, .data, .sentinel, .sentinel], laidTests := true, laidLooks := .later }
def FnLintUptoCardSaid : Prop := Claim7.holds Tryz.pinned (.plain (OpenSpec.upto fnLintSpec)) fnLintUptoCard

/-- THE SECOND FORM's CARD OF 'laws.FnSys'. -/
def fnSysUptoCard : Claim7 := { stood := { row := fnSysUptoRow, standIns := [], harness := (true, "68355060baeae7abc8cc64612cc3a03470a91bd7c9257a802ff07634442c83cd"), looks := true }, kinds := [], alts := [], laidByText := true, laidKinds := [.data, .data, .data, .sentinel, .sentinel], laidTests := true, laidLooks := .later }
def FnSysUptoCardSaid : Prop := Claim7.holds Tryz.pinned (.plain (OpenSpec.upto fnSysSpec)) fnSysUptoCard

/-- THE SECOND FORM's CARD OF 'laws.FnOrder'. -/
def fnOrderUptoCard : Claim7 := { stood := { row := fnOrderUptoRow, standIns := [], harness := (true, "68355060baeae7abc8cc64612cc3a03470a91bd7c9257a802ff07634442c83cd"), looks := true }, kinds := [], alts := [], laidByText := true, laidKinds := [.data, .data, .data, .sentinel, .sentinel], laidTests := true, laidLooks := .later }
def FnOrderUptoCardSaid : Prop := Claim7.holds Tryz.pinned (.plain (OpenSpec.upto fnOrderSpec)) fnOrderUptoCard
end Rows
end Go.Proofs.YtjcjodcpiickaaaGreatDoor
