/- What the law's arguments open to. -/
import Derived.Test.YtjcjodcpiickaaaGreatDoorEngM7
import Derived.Test.YtjcjodcpiickaaaGreatDoorProg
namespace Go.Proofs.YtjcjodcpiickaaaGreatDoor.DK
open Go Go.VS Go.RowKit
set_option maxRecDepth 100000
set_option linter.unusedVariables false
set_option linter.unusedSimpArgs false
def ok204 (x : KDatum) : Prop := (fun n : Int => (Lit.int .i64 n).wf = true) x.kind ∧ (fun n : Int => (Lit.int .i64 n).wf = true) x.n ∧ (fun s : ByteArray => s.size ≤ 140737488351232) x.s ∧ (fun n : Int => (Lit.int .i64 n).wf = true) x.l ∧ (fun n : Int => (Lit.int .i64 n).wf = true) x.r
theorem opens204 : OpensE Tryz.prog 204 (KDatum.row false) 5 ok204 := opensE_struct (fun a : Int × Int × ByteArray × Int × Int => (⟨a.1, a.2.1, a.2.2.1, a.2.2.2.1, a.2.2.2.2⟩ : KDatum)) (fun _ => rfl) (fun _ h => h) Tryz.underlying204 (by kernel_rfl) (opensFE_cons (P := Tryz.prog) (enc := (fun n : Int => [L.int .i64 n])) (sz := 1) (G := (fun n : Int => (Lit.int .i64 n).wf = true)) (by kernel_rfl) (by kernel_rfl) (fun _ => rfl) (opensE_int Tryz.underlying3) (opensFE_cons (P := Tryz.prog) (enc := (fun n : Int => [L.int .i64 n])) (sz := 1) (G := (fun n : Int => (Lit.int .i64 n).wf = true)) (by kernel_rfl) (by kernel_rfl) (fun _ => rfl) (opensE_int Tryz.underlying3) (opensFE_cons (P := Tryz.prog) (enc := (fun s : ByteArray => [L.str s])) (sz := 1) (G := (fun s : ByteArray => s.size ≤ 140737488351232)) (by kernel_rfl) (by kernel_rfl) (fun _ => rfl) (opensE_string Tryz.underlying9) (opensFE_cons (P := Tryz.prog) (enc := (fun n : Int => [L.int .i64 n])) (sz := 1) (G := (fun n : Int => (Lit.int .i64 n).wf = true)) (by kernel_rfl) (by kernel_rfl) (fun _ => rfl) (opensE_int Tryz.underlying3) (opensFE_last (P := Tryz.prog) (enc := (fun n : Int => [L.int .i64 n])) (sz := 1) (G := (fun n : Int => (Lit.int .i64 n).wf = true)) (by kernel_rfl) (by kernel_rfl) (fun _ => rfl) (opensE_int Tryz.underlying3))))))
noncomputable def bytes204 : Nat := Tryz.prog.bytesOf 204
def okS46 (xs : List KDatum) : Prop := (∀ x ∈ xs, ok204 x) ∧ xs.length * bytes204 ≤ 140737488351232
theorem opens46 : OpensE Tryz.prog 46 (fun xs : List KDatum => [L.sl false 5 (xs.map (KDatum.row false))]) 1 okS46 := opensE_slice (enc := (KDatum.row false)) Tryz.underlying46 opens204 (fun _ => rfl) (by decide) (by kernel_rfl) rfl
noncomputable def bytes3 : Nat := Tryz.prog.bytesOf 3
def okS26 (xs : List Int) : Prop := (∀ x ∈ xs, (fun n : Int => (Lit.int .i64 n).wf = true) x) ∧ xs.length * bytes3 ≤ 140737488351232
theorem opens26 : OpensE Tryz.prog 26 (fun xs : List Int => [L.sl false 1 (xs.map (fun n : Int => [L.int .i64 n]))]) 1 okS26 := opensE_slice (enc := (fun n : Int => [L.int .i64 n])) Tryz.underlying26 (opensE_int Tryz.underlying3) (fun _ => rfl) (by decide) (by kernel_rfl) rfl
def ok48 (x : KData) : Prop := okS46 x.cells ∧ okS26 x.tops
theorem opens48 : OpensE Tryz.prog 48 (KData.row false) 2 ok48 := opensE_struct (fun a : (List KDatum) × (List Int) => (⟨a.1, a.2⟩ : KData)) (fun _ => rfl) (fun _ h => h) Tryz.underlying48 (by kernel_rfl) (opensFE_cons (P := Tryz.prog) (enc := (fun xs : List KDatum => [L.sl false 5 (xs.map (KDatum.row false))])) (sz := 1) (G := okS46) (by kernel_rfl) (by kernel_rfl) (fun _ => rfl) opens46 (opensFE_last (P := Tryz.prog) (enc := (fun xs : List Int => [L.sl false 1 (xs.map (fun n : Int => [L.int .i64 n]))])) (sz := 1) (G := okS26) (by kernel_rfl) (by kernel_rfl) (fun _ => rfl) opens26))
end Go.Proofs.YtjcjodcpiickaaaGreatDoor.DK
