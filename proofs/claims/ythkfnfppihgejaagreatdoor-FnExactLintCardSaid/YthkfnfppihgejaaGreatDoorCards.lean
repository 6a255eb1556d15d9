/-
  DERIVED. GIVEN WITH THE SEED: THE CARDS: each row of YthkfnfppihgejaaGreatDoorRows.lean that lists a variable, with what it lists TIED to the program's text (the seventh form; the later family's looks); each row that meets fmt, with fmt's text TOLD by the authors' own Lean function (tested against real Go, not proved from fmt's source: count such statements apart). THE CARD IS WHAT COUNTS. Prove the row's statement (the work); the ties are given (YthkfnfppihgejaaGreatDoorTie.lean); close each card by the builder's one call (the guide's Derived/Test/ToyasCard.lean, 'card_holds'). Laid BY PROGRAM, IN A SANDBOX (cutbox-door.mjs). By AI agents, Wed Nov 11 2026. No macro, syntax, notation, axiom, sorry.
-/
import Derived.Test.YthkfnfppihgejaaGreatDoorRows
import GoSem.ClaimSeven
namespace Go.Proofs.YthkfnfppihgejaaGreatDoor
namespace Rows

/-- THE TIED CARD OF 'laws.FnExactLint'. -/
def fnExactLintCard : Claim7 := { stood := { row := fnExactLintRow, standIns := [], harness := (true, "9ad8bedfdaedde69944d854d82900b4df60ba46529d28a47e36efe1386531276"), looks := true }, kinds := [], alts := [], laidByText := true, laidKinds := [.data, .data, .data, .sentinel, .sentinel], laidTests := true, laidLooks := .later }
def FnExactLintCardSaid : Prop := Claim7.holds Tryz.pinned (.plain (OpenSpec.ofChange fnExactLintSpec)) fnExactLintCard

/-- THE SECOND FORM's CARD OF 'laws.FnExactLint'. -/
def fnExactLintUptoCard : Claim7 := { stood := { row := fnExactLintUptoRow, standIns := [], harness := (true, "9ad8bedfdaedde69944d854d82900b4df60ba46529d28a47e36efe1386531276"), looks := true }, kinds := [], alts := [], laidByText := true, laidKinds := [.data, .data, .data, .sentinel, .sentinel], laidTests := true, laidLooks := .later }
def FnExactLintUptoCardSaid : Prop := Claim7.holds Tryz.pinned (.plain (OpenSpec.upto fnExactLintSpec)) fnExactLintUptoCard
end Rows
end Go.Proofs.YthkfnfppihgejaaGreatDoor
