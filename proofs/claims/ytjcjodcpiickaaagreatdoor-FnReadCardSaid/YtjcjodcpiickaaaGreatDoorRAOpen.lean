/- What the law's arguments open to. -/
import Derived.Test.YtjcjodcpiickaaaGreatDoorEngM7
import Derived.Test.YtjcjodcpiickaaaGreatDoorProg
namespace Go.Proofs.YtjcjodcpiickaaaGreatDoor.RA
open Go Go.VS Go.RowKit
set_option maxRecDepth 100000
set_option linter.unusedVariables false
set_option linter.unusedSimpArgs false
noncomputable def bytes5 : Nat := Tryz.prog.bytesOf 5
def okS22 (xs : List Int) : Prop := (∀ x ∈ xs, (fun n : Int => (Lit.int .u8 n).wf = true) x) ∧ xs.length * bytes5 ≤ 140737488351232
theorem opens22 : OpensE Tryz.prog 22 (fun xs : List Int => [L.sl false 1 (xs.map (fun n : Int => [L.int .u8 n]))]) 1 okS22 := opensE_slice (enc := (fun n : Int => [L.int .u8 n])) Tryz.underlying22 (opensE_int Tryz.underlying5) (fun _ => rfl) (by decide) (by kernel_rfl) rfl
end Go.Proofs.YtjcjodcpiickaaaGreatDoor.RA
