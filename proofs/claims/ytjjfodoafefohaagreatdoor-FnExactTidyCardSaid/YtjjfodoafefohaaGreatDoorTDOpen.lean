/- What the law's arguments open to. -/
import Derived.Test.YtjjfodoafefohaaGreatDoorEngM7
import Derived.Test.YtjjfodoafefohaaGreatDoorProg
namespace Go.Proofs.YtjjfodoafefohaaGreatDoor.TD
open Go Go.VS Go.RowKit
set_option maxRecDepth 100000
set_option linter.unusedVariables false
set_option linter.unusedSimpArgs false
noncomputable def bytes9 : Nat := Tryz.prog.bytesOf 9
def okS26 (xs : List ByteArray) : Prop := (∀ x ∈ xs, (fun s : ByteArray => s.size ≤ 140737488351232) x) ∧ xs.length * bytes9 ≤ 140737488351232
theorem opens26 : OpensE Tryz.prog 26 (fun xs : List ByteArray => [L.sl false 1 (xs.map (fun s : ByteArray => [L.str s]))]) 1 okS26 := opensE_slice (enc := (fun s : ByteArray => [L.str s])) Tryz.underlying26 (opensE_string Tryz.underlying9) (fun _ => rfl) (by decide) (by kernel_rfl) rfl
noncomputable def bytes3 : Nat := Tryz.prog.bytesOf 3
def okS141 (xs : List Int) : Prop := (∀ x ∈ xs, (fun n : Int => (Lit.int .i64 n).wf = true) x) ∧ xs.length * bytes3 ≤ 140737488351232
theorem opens141 : OpensE Tryz.prog 141 (fun xs : List Int => [L.sl false 1 (xs.map (fun n : Int => [L.int .i64 n]))]) 1 okS141 := opensE_slice (enc := (fun n : Int => [L.int .i64 n])) Tryz.underlying141 (opensE_int Tryz.underlying3) (fun _ => rfl) (by decide) (by kernel_rfl) rfl
def ok154 (x : KNode) : Prop := (fun n : Int => (Lit.int .i64 n).wf = true) x.kind ∧ (fun n : Int => (Lit.int .i64 n).wf = true) x.n ∧ (fun s : ByteArray => s.size ≤ 140737488351232) x.s ∧ okS26 x.names ∧ okS141 x.args
theorem opens154 : OpensE Tryz.prog 154 (KNode.row false) 5 ok154 := opensE_struct (fun a : Int × Int × ByteArray × (List ByteArray) × (List Int) => (⟨a.1, a.2.1, a.2.2.1, a.2.2.2.1, a.2.2.2.2⟩ : KNode)) (fun _ => rfl) (fun _ h => h) Tryz.underlying154 (by kernel_rfl) (opensFE_cons (P := Tryz.prog) (enc := (fun n : Int => [L.int .i64 n])) (sz := 1) (G := (fun n : Int => (Lit.int .i64 n).wf = true)) (by kernel_rfl) (by kernel_rfl) (fun _ => rfl) (opensE_int Tryz.underlying3) (opensFE_cons (P := Tryz.prog) (enc := (fun n : Int => [L.int .i64 n])) (sz := 1) (G := (fun n : Int => (Lit.int .i64 n).wf = true)) (by kernel_rfl) (by kernel_rfl) (fun _ => rfl) (opensE_int Tryz.underlying3) (opensFE_cons (P := Tryz.prog) (enc := (fun s : ByteArray => [L.str s])) (sz := 1) (G := (fun s : ByteArray => s.size ≤ 140737488351232)) (by kernel_rfl) (by kernel_rfl) (fun _ => rfl) (opensE_string Tryz.underlying9) (opensFE_cons (P := Tryz.prog) (enc := (fun xs : List ByteArray => [L.sl false 1 (xs.map (fun s : ByteArray => [L.str s]))])) (sz := 1) (G := okS26) (by kernel_rfl) (by kernel_rfl) (fun _ => rfl) opens26 (opensFE_last (P := Tryz.prog) (enc := (fun xs : List Int => [L.sl false 1 (xs.map (fun n : Int => [L.int .i64 n]))])) (sz := 1) (G := okS141) (by kernel_rfl) (by kernel_rfl) (fun _ => rfl) opens141)))))
noncomputable def bytes154 : Nat := Tryz.prog.bytesOf 154
def okS22 (xs : List KNode) : Prop := (∀ x ∈ xs, ok154 x) ∧ xs.length * bytes154 ≤ 140737488351232
theorem opens22 : OpensE Tryz.prog 22 (fun xs : List KNode => [L.sl false 5 (xs.map (KNode.row false))]) 1 okS22 := opensE_slice (enc := (KNode.row false)) Tryz.underlying22 opens154 (fun _ => rfl) (by decide) (by kernel_rfl) rfl
def ok24 (x : KProg) : Prop := okS22 x.nodes ∧ (fun n : Int => (Lit.int .i64 n).wf = true) x.root
theorem opens24 : OpensE Tryz.prog 24 (KProg.row false) 2 ok24 := opensE_struct (fun a : (List KNode) × Int => (⟨a.1, a.2⟩ : KProg)) (fun _ => rfl) (fun _ h => h) Tryz.underlying24 (by kernel_rfl) (opensFE_cons (P := Tryz.prog) (enc := (fun xs : List KNode => [L.sl false 5 (xs.map (KNode.row false))])) (sz := 1) (G := okS22) (by kernel_rfl) (by kernel_rfl) (fun _ => rfl) opens22 (opensFE_last (P := Tryz.prog) (enc := (fun n : Int => [L.int .i64 n])) (sz := 1) (G := (fun n : Int => (Lit.int .i64 n).wf = true)) (by kernel_rfl) (by kernel_rfl) (fun _ => rfl) (opensE_int Tryz.underlying3)))
end Go.Proofs.YtjjfodoafefohaaGreatDoor.TD
