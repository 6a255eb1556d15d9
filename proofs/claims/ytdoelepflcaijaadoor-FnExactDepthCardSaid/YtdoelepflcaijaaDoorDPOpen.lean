/- What the law's arguments open to. -/
import Derived.Test.YtdoelepflcaijaaDoorEngM7
import Derived.Test.YtdoelepflcaijaaDoorProg
namespace Go.Proofs.YtdoelepflcaijaaDoor.DP
open Go Go.VS Go.RowKit
set_option maxRecDepth 100000
set_option linter.unusedVariables false
set_option linter.unusedSimpArgs false
noncomputable def bytes9 : Nat := Tryd.prog.bytesOf 9
def okS108 (xs : List ByteArray) : Prop := (∀ x ∈ xs, (fun s : ByteArray => s.size ≤ 140737488351232) x) ∧ xs.length * bytes9 ≤ 140737488351232
theorem opens108 : OpensE Tryd.prog 108 (fun xs : List ByteArray => [L.sl false 1 (xs.map (fun s : ByteArray => [L.str s]))]) 1 okS108 := opensE_slice (enc := (fun s : ByteArray => [L.str s])) Tryd.underlying108 (opensE_string Tryd.underlying9) (fun _ => rfl) (by decide) (by kernel_rfl) rfl
noncomputable def bytes3 : Nat := Tryd.prog.bytesOf 3
def okS23 (xs : List Int) : Prop := (∀ x ∈ xs, (fun n : Int => (Lit.int .i64 n).wf = true) x) ∧ xs.length * bytes3 ≤ 140737488351232
theorem opens23 : OpensE Tryd.prog 23 (fun xs : List Int => [L.sl false 1 (xs.map (fun n : Int => [L.int .i64 n]))]) 1 okS23 := opensE_slice (enc := (fun n : Int => [L.int .i64 n])) Tryd.underlying23 (opensE_int Tryd.underlying3) (fun _ => rfl) (by decide) (by kernel_rfl) rfl
def ok159 (x : KNode) : Prop := (fun n : Int => (Lit.int .i64 n).wf = true) x.kind ∧ (fun n : Int => (Lit.int .i64 n).wf = true) x.n ∧ (fun s : ByteArray => s.size ≤ 140737488351232) x.s ∧ okS108 x.names ∧ okS23 x.args
theorem opens159 : OpensE Tryd.prog 159 (KNode.row false) 5 ok159 := opensE_struct (fun a : Int × Int × ByteArray × (List ByteArray) × (List Int) => (⟨a.1, a.2.1, a.2.2.1, a.2.2.2.1, a.2.2.2.2⟩ : KNode)) (fun _ => rfl) (fun _ h => h) Tryd.underlying159 (by kernel_rfl) (opensFE_cons (P := Tryd.prog) (enc := (fun n : Int => [L.int .i64 n])) (sz := 1) (G := (fun n : Int => (Lit.int .i64 n).wf = true)) (by kernel_rfl) (by kernel_rfl) (fun _ => rfl) (opensE_int Tryd.underlying3) (opensFE_cons (P := Tryd.prog) (enc := (fun n : Int => [L.int .i64 n])) (sz := 1) (G := (fun n : Int => (Lit.int .i64 n).wf = true)) (by kernel_rfl) (by kernel_rfl) (fun _ => rfl) (opensE_int Tryd.underlying3) (opensFE_cons (P := Tryd.prog) (enc := (fun s : ByteArray => [L.str s])) (sz := 1) (G := (fun s : ByteArray => s.size ≤ 140737488351232)) (by kernel_rfl) (by kernel_rfl) (fun _ => rfl) (opensE_string Tryd.underlying9) (opensFE_cons (P := Tryd.prog) (enc := (fun xs : List ByteArray => [L.sl false 1 (xs.map (fun s : ByteArray => [L.str s]))])) (sz := 1) (G := okS108) (by kernel_rfl) (by kernel_rfl) (fun _ => rfl) opens108 (opensFE_last (P := Tryd.prog) (enc := (fun xs : List Int => [L.sl false 1 (xs.map (fun n : Int => [L.int .i64 n]))])) (sz := 1) (G := okS23) (by kernel_rfl) (by kernel_rfl) (fun _ => rfl) opens23)))))
noncomputable def bytes159 : Nat := Tryd.prog.bytesOf 159
def okS59 (xs : List KNode) : Prop := (∀ x ∈ xs, ok159 x) ∧ xs.length * bytes159 ≤ 140737488351232
theorem opens59 : OpensE Tryd.prog 59 (fun xs : List KNode => [L.sl false 5 (xs.map (KNode.row false))]) 1 okS59 := opensE_slice (enc := (KNode.row false)) Tryd.underlying59 opens159 (fun _ => rfl) (by decide) (by kernel_rfl) rfl
def ok61 (x : KProg) : Prop := okS59 x.nodes ∧ (fun n : Int => (Lit.int .i64 n).wf = true) x.root
theorem opens61 : OpensE Tryd.prog 61 (KProg.row false) 2 ok61 := opensE_struct (fun a : (List KNode) × Int => (⟨a.1, a.2⟩ : KProg)) (fun _ => rfl) (fun _ h => h) Tryd.underlying61 (by kernel_rfl) (opensFE_cons (P := Tryd.prog) (enc := (fun xs : List KNode => [L.sl false 5 (xs.map (KNode.row false))])) (sz := 1) (G := okS59) (by kernel_rfl) (by kernel_rfl) (fun _ => rfl) opens59 (opensFE_last (P := Tryd.prog) (enc := (fun n : Int => [L.int .i64 n])) (sz := 1) (G := (fun n : Int => (Lit.int .i64 n).wf = true)) (by kernel_rfl) (by kernel_rfl) (fun _ => rfl) (opensE_int Tryd.underlying3)))
end Go.Proofs.YtdoelepflcaijaaDoor.DP
