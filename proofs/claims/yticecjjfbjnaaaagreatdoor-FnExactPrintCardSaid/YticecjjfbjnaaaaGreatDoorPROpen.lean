/- What the law's arguments open to. -/
import Derived.Test.YticecjjfbjnaaaaGreatDoorEngM7
import Derived.Test.YticecjjfbjnaaaaGreatDoorProg
namespace Go.Proofs.YticecjjfbjnaaaaGreatDoor.PR
open Go Go.VS Go.RowKit
set_option maxRecDepth 100000
set_option linter.unusedVariables false
set_option linter.unusedSimpArgs false
noncomputable def bytes9 : Nat := Tryz.prog.bytesOf 9
def okS39 (xs : List ByteArray) : Prop := (∀ x ∈ xs, (fun s : ByteArray => s.size ≤ 140737488351232) x) ∧ xs.length * bytes9 ≤ 140737488351232
theorem opens39 : OpensE Tryz.prog 39 (fun xs : List ByteArray => [L.sl false 1 (xs.map (fun s : ByteArray => [L.str s]))]) 1 okS39 := opensE_slice (enc := (fun s : ByteArray => [L.str s])) Tryz.underlying39 (opensE_string Tryz.underlying9) (fun _ => rfl) (by decide) (by kernel_rfl) rfl
noncomputable def bytes3 : Nat := Tryz.prog.bytesOf 3
def okS56 (xs : List Int) : Prop := (∀ x ∈ xs, (fun n : Int => (Lit.int .i64 n).wf = true) x) ∧ xs.length * bytes3 ≤ 140737488351232
theorem opens56 : OpensE Tryz.prog 56 (fun xs : List Int => [L.sl false 1 (xs.map (fun n : Int => [L.int .i64 n]))]) 1 okS56 := opensE_slice (enc := (fun n : Int => [L.int .i64 n])) Tryz.underlying56 (opensE_int Tryz.underlying3) (fun _ => rfl) (by decide) (by kernel_rfl) rfl
def ok166 (x : KNode) : Prop := (fun n : Int => (Lit.int .i64 n).wf = true) x.kind ∧ (fun n : Int => (Lit.int .i64 n).wf = true) x.n ∧ (fun s : ByteArray => s.size ≤ 140737488351232) x.s ∧ okS39 x.names ∧ okS56 x.args
theorem opens166 : OpensE Tryz.prog 166 (KNode.row false) 5 ok166 := opensE_struct (fun a : Int × Int × ByteArray × (List ByteArray) × (List Int) => (⟨a.1, a.2.1, a.2.2.1, a.2.2.2.1, a.2.2.2.2⟩ : KNode)) (fun _ => rfl) (fun _ h => h) Tryz.underlying166 (by kernel_rfl) (opensFE_cons (P := Tryz.prog) (enc := (fun n : Int => [L.int .i64 n])) (sz := 1) (G := (fun n : Int => (Lit.int .i64 n).wf = true)) (by kernel_rfl) (by kernel_rfl) (fun _ => rfl) (opensE_int Tryz.underlying3) (opensFE_cons (P := Tryz.prog) (enc := (fun n : Int => [L.int .i64 n])) (sz := 1) (G := (fun n : Int => (Lit.int .i64 n).wf = true)) (by kernel_rfl) (by kernel_rfl) (fun _ => rfl) (opensE_int Tryz.underlying3) (opensFE_cons (P := Tryz.prog) (enc := (fun s : ByteArray => [L.str s])) (sz := 1) (G := (fun s : ByteArray => s.size ≤ 140737488351232)) (by kernel_rfl) (by kernel_rfl) (fun _ => rfl) (opensE_string Tryz.underlying9) (opensFE_cons (P := Tryz.prog) (enc := (fun xs : List ByteArray => [L.sl false 1 (xs.map (fun s : ByteArray => [L.str s]))])) (sz := 1) (G := okS39) (by kernel_rfl) (by kernel_rfl) (fun _ => rfl) opens39 (opensFE_last (P := Tryz.prog) (enc := (fun xs : List Int => [L.sl false 1 (xs.map (fun n : Int => [L.int .i64 n]))])) (sz := 1) (G := okS56) (by kernel_rfl) (by kernel_rfl) (fun _ => rfl) opens56)))))
noncomputable def bytes166 : Nat := Tryz.prog.bytesOf 166
def okS35 (xs : List KNode) : Prop := (∀ x ∈ xs, ok166 x) ∧ xs.length * bytes166 ≤ 140737488351232
theorem opens35 : OpensE Tryz.prog 35 (fun xs : List KNode => [L.sl false 5 (xs.map (KNode.row false))]) 1 okS35 := opensE_slice (enc := (KNode.row false)) Tryz.underlying35 opens166 (fun _ => rfl) (by decide) (by kernel_rfl) rfl
def ok37 (x : KProg) : Prop := okS35 x.nodes ∧ (fun n : Int => (Lit.int .i64 n).wf = true) x.root
theorem opens37 : OpensE Tryz.prog 37 (KProg.row false) 2 ok37 := opensE_struct (fun a : (List KNode) × Int => (⟨a.1, a.2⟩ : KProg)) (fun _ => rfl) (fun _ h => h) Tryz.underlying37 (by kernel_rfl) (opensFE_cons (P := Tryz.prog) (enc := (fun xs : List KNode => [L.sl false 5 (xs.map (KNode.row false))])) (sz := 1) (G := okS35) (by kernel_rfl) (by kernel_rfl) (fun _ => rfl) opens35 (opensFE_last (P := Tryz.prog) (enc := (fun n : Int => [L.int .i64 n])) (sz := 1) (G := (fun n : Int => (Lit.int .i64 n).wf = true)) (by kernel_rfl) (by kernel_rfl) (fun _ => rfl) (opensE_int Tryz.underlying3)))
end Go.Proofs.YticecjjfbjnaaaaGreatDoor.PR
