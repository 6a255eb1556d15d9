/-
  DERIVED. GIVEN WITH THE SEED: THE CARDS: each row of YtjjfodoafefohaaDoorRows.lean that lists a variable, with what it lists TIED to the program's text (the seventh form; the later family's looks); each row that meets fmt, with fmt's text TOLD by the authors' own Lean function (tested against real Go, not proved from fmt's source: count such statements apart). THE CARD IS WHAT COUNTS. Prove the row's statement (the work); the ties are given (YtjjfodoafefohaaDoorTie.lean); close each card by the builder's one call (the guide's Derived/Test/ToyasCard.lean, 'card_holds'). Laid BY PROGRAM, IN A SANDBOX (cutbox-door.mjs). By AI agents, Wed Nov 11 2026. No macro, syntax, notation, axiom, sorry.
-/
import Derived.Test.YtjjfodoafefohaaDoorRows
import GoSem.ClaimSeven
namespace Go.Proofs.YtjjfodoafefohaaDoor
namespace Rows

/-- THE TIED CARD OF 'laws.FnExactAsList'. -/
def fnExactAsListCard : Claim7 := { stood := { row := fnExactAsListRow, standIns := [], harness := (true, "ccf5e76f4ff92a7f2bcfda38a3e3ab989d5153619878e205284f085f2e13dbf6"), looks := true }, kinds := [], alts := [], laidByText := true, laidKinds := [.data, .data, .data, .sentinel, .sentinel], laidTests := true, laidLooks := .later }
def FnExactAsListCardSaid : Prop := Claim7.holds Tryd.pinned (.plain (OpenSpec.ofChange fnExactAsListSpec)) fnExactAsListCard

/-- THE TIED CARD OF 'laws.FnExactText'. -/
def fnExactTextCard : Claim7 := { stood := { row := fnExactTextRow, standIns := [], harness := (true, "ccf5e76f4ff92a7f2bcfda38a3e3ab989d5153619878e205284f085f2e13dbf6"), looks := true }, kinds := [], alts := [], laidByText := true, laidKinds := [.data, .data, .data, .sentinel, .sentinel], laidTests := true, laidLooks := .later }
def FnExactTextCardSaid : Prop := Claim7.holds Tryd.pinned (.plain (OpenSpec.ofChange fnExactTextSpec)) fnExactTextCard

/-- THE SECOND FORM's CARD OF 'laws.FnExactAsList'. -/
def fnExactAsListUptoCard : Claim7 := { stood := { row := fnExactAsListUptoRow, standIns := [], harness := (true, "ccf5e76f4ff92a7f2bcfda38a3e3ab989d5153619878e205284f085f2e13dbf6"), looks := true }, kinds := [], alts := [], laidByText := true, laidKinds := [.data, .data, .data, .sentinel, .sentinel], laidTests := true, laidLooks := .later }
def FnExactAsListUptoCardSaid : Prop := Claim7.holds Tryd.pinned (.plain (OpenSpec.upto fnExactAsListSpec)) fnExactAsListUptoCard

/-- THE SECOND FORM's CARD OF 'laws.FnExactText'. -/
def fnExactTextUptoCard : Claim7 := { stood := { row := fnExactTextUptoRow, standIns := [], harness := (true, "ccf5e76f4ff92a7f2bcfda38a3e3ab989d5153619878e205284f085f2e13dbf6"), looks := true }, kinds := [], alts := [], laidByText := true, laidKinds := [.data, .data, .data, .sentinel, .sentinel], laidTests := true, laidLooks := .later }
def FnExactTextUptoCardSaid : Prop := Claim7.holds Tryd.pinned (.plain (OpenSpec.upto fnExactTextSpec)) fnExactTextUptoCard
end Rows
end Go.Proofs.YtjjfodoafefohaaDoor
