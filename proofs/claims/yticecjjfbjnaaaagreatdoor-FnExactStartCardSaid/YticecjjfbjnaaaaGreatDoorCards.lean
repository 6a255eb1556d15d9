/-
  DERIVED. GIVEN WITH THE SEED: THE CARDS: each row of YticecjjfbjnaaaaGreatDoorRows.lean that lists a variable, with what it lists TIED to the program's text (the seventh form; the later family's looks); each row that meets fmt, with fmt's text TOLD by the authors' own Lean function (tested against real Go, not proved from fmt's source: count such statements apart). THE CARD IS WHAT COUNTS. Prove the row's statement (the work); the ties are given (YticecjjfbjnaaaaGreatDoorTie.lean); close each card by the builder's one call (the guide's Derived/Test/ToyasCard.lean, 'card_holds'). Laid BY PROGRAM, IN A SANDBOX (cutbox-door.mjs). By AI agents, Wed Nov 11 2026. No macro, syntax, notation, axiom, sorry.
-/
import Derived.Test.YticecjjfbjnaaaaGreatDoorRows
import GoSem.ClaimSeven
namespace Go.Proofs.YticecjjfbjnaaaaGreatDoor
namespace Rows

/-- THE TIED CARD OF 'laws.FnText'. -/
def fnTextCard : Claim7 := { stood := { row := fnTextRow, standIns := [], harness := (true, "3f1fc88501261327706dc290f2b277feb669f5a6e4c600544eaca98e237dce2e"), looks := true }, kinds := [], alts := [], laidByText := true, laidKinds := [.data, .data, .data, .sentinel, .sentinel], laidTests := true, laidLooks := .later }
def FnTextCardSaid : Prop := Claim7.holds Tryz.pinned (.plain (OpenSpec.ofChange fnTextSpec)) fnTextCard

/-- THE TIED CARD OF 'laws.FnExactFree'. -/
def fnExactFreeCard : Claim7 := { stood := { row := fnExactFreeRow, standIns := [], harness := (true, "3f1fc88501261327706dc290f2b277feb669f5a6e4c600544eaca98e237dce2e"), looks := true }, kinds := [], alts := [], laidByText := true, laidKinds := [.data, .data, .data, .sentinel, .sentinel], laidTests := true, laidLooks := .later }
def FnExactFreeCardSaid : Prop := Claim7.holds Tryz.pinned (.plain (OpenSpec.ofChange fnExactFreeSpec)) fnExactFreeCard

/-- THE TIED CARD OF 'laws.FnExactPrint'. -/
def fnExactPrintCard : Claim7 := { stood := { row := fnExactPrintRow, standIns := [], harness := (true, "3f1fc88501261327706dc290f2b277feb669f5a6e4c600544eaca98e237dce2e"), looks := true }, kinds := [], alts := [], laidByText := true, laidKinds := [.data, .data, .data, .sentinel, .sentinel], laidTests := true, laidLooks := .later }
def FnExactPrintCardSaid : Prop := Claim7.holds Tryz.pinned (.plain (OpenSpec.ofChange fnExactPrintSpec)) fnExactPrintCard

/-- THE TIED CARD OF 'laws.FnFree'. -/
def fnFreeCard : Claim7 := { stood := { row := fnFreeRow, standIns := [], harness := (true, "3f1fc88501261327706dc290f2b277feb669f5a6e4c600544eaca98e237dce2e"), looks := true }, kinds := [], alts := [], laidByText := true, laidKinds := [.data, .data, .data, .sentinel, .sentinel], laidTests := true, laidLooks := .later }
def FnFreeCardSaid : Prop := Claim7.holds Tryz.pinned (.plain (OpenSpec.ofChange fnFreeSpec)) fnFreeCard

/-- THE TIED CARD OF 'laws.FnExactLookup'. -/
def fnExactLookupCard : Claim7 := { stood := { row := fnExactLookupRow, standIns := [], harness := (true, "3f1fc88501261327706dc290f2b277feb669f5a6e4c600544eaca98e237dce2e"), looks := true }, kinds := [], alts := [], laidByText := true, laidKinds := [.data, .data, .data, .sentinel, .sentinel], laidTests := true, laidLooks := .later }
def FnExactLookupCardSaid : Prop := Claim7.holds Tryz.pinned (.plain (OpenSpec.ofChange fnExactLookupSpec)) fnExactLookupCard

/-- THE TIED CARD OF 'laws.FnExactStart'. -/
def fnExactStartCard : Claim7 := { stood := { row := fnExactStartRow, standIns := [], harness := (true, "3f1fc88501261327706dc290f2b277feb669f5a6e4c600544eaca98e237dce2e"), looks := true }, kinds := [], alts := [], laidByText := true, laidKinds := [.data, .data, .data, .sentinel, .sentinel], laidTests := true, laidLooks := .later }
def FnExactStartCardSaid : Prop := Claim7.holds Tryz.pinned (.plain (OpenSpec.ofChange fnExactStartSpec)) fnExactStartCard

/-- THE TIED CARD OF 'laws.FnSys'. -/
def fnSysCard : Claim7 := { stood := { row := fnSysRow, standIns := [], harness := (true, "3f1fc88501261327706dc290f2b277feb669f5a6e4c600544eaca98e237dce2e"), looks := true }, kinds := [], alts := [], laidByText := true, laidKinds := [.data, .data, .data, .sentinel, .sentinel], laidTests := true, laidLooks := .later }
def FnSysCardSaid : Prop := Claim7.holds Tryz.pinned (.plain (OpenSpec.ofChange fnSysSpec)) fnSysCard

/-- THE SECOND FORM's CARD OF 'laws.FnText'. -/
def fnTextUptoCard : Claim7 := { stood := { row := fnTextUptoRow, standIns := [], harness := (true, "3f1fc88501261327706dc290f2b277feb669f5a6e4c600544eaca98e237dce2e"), looks := true }, kinds := [], alts := [], laidByText := true, laidKinds := [.data, .data, .data, .sentinel, .sentinel], laidTests := true, laidLooks := .later }
def FnTextUptoCardSaid : Prop := Claim7.holds Tryz.pinned (.plain (OpenSpec.upto fnTextSpec)) fnTextUptoCard

/-- THE SECOND FORM's CARD OF 'laws.FnExactFree'. -/
def fnExactFreeUptoCard : Claim7 := { stood := { row := fnExactFreeUptoRow, standIns := [], harness := (true, "3f1fc88501261327706dc290f2b277feb669f5a6e4c600544eaca98e237dce2e"), looks := true }, kinds := [], alts := [], laidByText := true, laidKinds := [.data, .data, .data, .sentinel, .sentinel], laidTests := true, laidLooks := .later }
def FnExactFreeUptoCardSaid : Prop := Claim7.holds Tryz.pinned (.plain (OpenSpec.upto fnExactFreeSpec)) fnExactFreeUptoCard

/-- THE SECOND FORM's CARD OF 'laws.FnExactPrint'. -/
def fnExactPrintUptoCard : Claim7 := { stood := { row := fnExactPrintUptoRow, standIns := [], harness := (true, "3f1fc88501261327706dc290f2b277feb669f5a6e4c600544eaca98e237dce2e"), looks := true }, kinds := [], alts := [], laidByText := true, laidKinds := [.data, .data, .data, .sentinel, .sentinel], laidTests := true, laidLooks := .later }
def FnExactPrintUptoCardSaid : Prop := Claim7.holds Tryz.pinned (.plain (OpenSpec.upto fnExactPrintSpec)) fnExactPrintUptoCard

/-- THE SECOND FORM's CARD OF 'laws.FnFree'. -/
def fnFreeUptoCard : Claim7 := { stood := { row := fnFreeUptoRow, standIns := [], harness := (true, "3f1fc88501261327706dc290f2b277feb669f5a6e4c600544eaca98e237dce2e"), looks := true }, kinds := [], alts := [], laidByText := true, laidKinds := [.data, .data, .data, .sentinel, .sentinel], laidTests := true, laidLooks := .later }
def FnFreeUptoCardSaid : Prop := Claim7.holds Tryz.pinned (.plain (OpenSpec.upto fnFreeSpec)) fnFreeUptoCard

/-- THE SECOND FORM's CARD OF 'laws.FnExactLookup'. -/
def fnExactLookupUptoCard : Claim7 := { stood := { row := fnExactLookupUptoRow, standIns := [], harness := (true, "3f1fc88501261327706dc290f2b277feb669f5a6e4c600544eaca98e237dce2e"), looks := true }, kinds := [], alts := [], laidByText := true, laidKinds := [.data, .data, .data, .sentinel, .sentinel], laidTests := true, laidLooks := .later }
def FnExactLookupUptoCardSaid : Prop := Claim7.holds Tryz.pinned (.plain (OpenSpec.upto fnExactLookupSpec)) fnExactLookupUptoCard

/-- THE SECOND FORM's CARD OF 'laws.FnExactStart'. -/
def fnExactStartUptoCard : Claim7 := { stood := { row := fnExactStartUptoRow, standIns := [], harness := (true, "3f1fc88501261327706dc290f2b277feb669f5a6e4c600544eaca98e237dce2e"), looks := true }, kinds := [], alts := [], laidByText := true, laidKinds := [.data, .data, .data, .sentinel, .sentinel], laidTests := true, laidLooks := .later }
def FnExactStartUptoCardSaid : Prop := Claim7.holds Tryz.pinned (.plain (OpenSpec.upto fnExactStartSpec)) fnExactStartUptoCard

/-- THE SECOND FORM's CARD OF 'laws.FnSys'. -/
def fnSysUptoCard : Claim7 := { stood := { row := fnSysUptoRow, standIns := [], harness := (true, "3f1fc88501261327706dc290f2b277feb669f5a6e4c600544eaca98e237dce2e"), looks := true }, kinds := [], alts := [], laidByText := true, laidKinds := [.data, .data, .data, .sentinel, .sentinel], laidTests := true, laidLooks := .later }
def FnSysUptoCardSaid : Prop := Claim7.holds Tryz.pinned (.plain (OpenSpec.upto fnSysSpec)) fnSysUptoCard
end Rows
end Go.Proofs.YticecjjfbjnaaaaGreatDoor
