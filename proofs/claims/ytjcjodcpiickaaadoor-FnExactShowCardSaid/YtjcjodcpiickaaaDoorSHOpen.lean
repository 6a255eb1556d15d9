/- What the law's arguments open to. -/
import Derived.Test.YtjcjodcpiickaaaDoorEngM7
import Derived.Test.YtjcjodcpiickaaaDoorProg
namespace Go.Proofs.YtjcjodcpiickaaaDoor.SH
open Go Go.VS Go.RowKit
set_option maxRecDepth 100000
set_option linter.unusedVariables false
set_option linter.unusedSimpArgs false
def ok66 (x : KDatum) : Prop := (fun n : Int => (Lit.int .i64 n).wf = true) x.kind ∧ (fun n : Int => (Lit.int .i64 n).wf = true) x.n ∧ (fun s : ByteArray => s.size ≤ 140737488351232) x.s ∧ (fun n : Int => (Lit.int .i64 n).wf = true) x.l ∧ (fun n : Int => (Lit.int .i64 n).wf = true) x.r
theorem opens66 : OpensE Tryd.prog 66 (KDatum.row false) 5 ok66 := opensE_struct (fun a : Int × Int × ByteArray × Int × Int => (⟨a.1, a.2.1, a.2.2.1, a.2.2.2.1, a.2.2.2.2⟩ : KDatum)) (fun _ => rfl) (fun _ h => h) Tryd.underlying66 (by kernel_rfl) (opensFE_cons (P := Tryd.prog) (enc := (fun n : Int => [L.int .i64 n])) (sz := 1) (G := (fun n : Int => (Lit.int .i64 n).wf = true)) (by kernel_rfl) (by kernel_rfl) (fun _ => rfl) (opensE_int Tryd.underlying3) (opensFE_cons (P := Tryd.prog) (enc := (fun n : Int => [L.int .i64 n])) (sz := 1) (G := (fun n : Int => (Lit.int .i64 n).wf = true)) (by kernel_rfl) (by kernel_rfl) (fun _ => rfl) (opensE_int Tryd.underlying3) (opensFE_cons (P := Tryd.prog) (enc := (fun s : ByteArray => [L.str s])) (sz := 1) (G := (fun s : ByteArray => s.size ≤ 140737488351232)) (by kernel_rfl) (by kernel_rfl) (fun _ => rfl) (opensE_string Tryd.underlying9) (opensFE_cons (P := Tryd.prog) (enc := (fun n : Int => [L.int .i64 n])) (sz := 1) (G := (fun n : Int => (Lit.int .i64 n).wf = true)) (by kernel_rfl) (by kernel_rfl) (fun _ => rfl) (opensE_int Tryd.underlying3) (opensFE_last (P := Tryd.prog) (enc := (fun n : Int => [L.int .i64 n])) (sz := 1) (G := (fun n : Int => (Lit.int .i64 n).wf = true)) (by kernel_rfl) (by kernel_rfl) (fun _ => rfl) (opensE_int Tryd.underlying3))))))
noncomputable def bytes66 : Nat := Tryd.prog.bytesOf 66
def okS22 (xs : List KDatum) : Prop := (∀ x ∈ xs, ok66 x) ∧ xs.length * bytes66 ≤ 140737488351232
theorem opens22 : OpensE Tryd.prog 22 (fun xs : List KDatum => [L.sl false 5 (xs.map (KDatum.row false))]) 1 okS22 := opensE_slice (enc := (KDatum.row false)) Tryd.underlying22 opens66 (fun _ => rfl) (by decide) (by kernel_rfl) rfl
noncomputable def bytes3 : Nat := Tryd.prog.bytesOf 3
def okS23 (xs : List Int) : Prop := (∀ x ∈ xs, (fun n : Int => (Lit.int .i64 n).wf = true) x) ∧ xs.length * bytes3 ≤ 140737488351232
theorem opens23 : OpensE Tryd.prog 23 (fun xs : List Int => [L.sl false 1 (xs.map (fun n : Int => [L.int .i64 n]))]) 1 okS23 := opensE_slice (enc := (fun n : Int => [L.int .i64 n])) Tryd.underlying23 (opensE_int Tryd.underlying3) (fun _ => rfl) (by decide) (by kernel_rfl) rfl
def ok25 (x : KData) : Prop := okS22 x.cells ∧ okS23 x.tops
theorem opens25 : OpensE Tryd.prog 25 (KData.row false) 2 ok25 := opensE_struct (fun a : (List KDatum) × (List Int) => (⟨a.1, a.2⟩ : KData)) (fun _ => rfl) (fun _ h => h) Tryd.underlying25 (by kernel_rfl) (opensFE_cons (P := Tryd.prog) (enc := (fun xs : List KDatum => [L.sl false 5 (xs.map (KDatum.row false))])) (sz := 1) (G := okS22) (by kernel_rfl) (by kernel_rfl) (fun _ => rfl) opens22 (opensFE_last (P := Tryd.prog) (enc := (fun xs : List Int => [L.sl false 1 (xs.map (fun n : Int => [L.int .i64 n]))])) (sz := 1) (G := okS23) (by kernel_rfl) (by kernel_rfl) (fun _ => rfl) opens23))
end Go.Proofs.YtjcjodcpiickaaaDoor.SH
