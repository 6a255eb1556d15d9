/- What the law's arguments open to. -/
import Derived.Test.YtohbmodoiindgaaDoorEngM7
import Derived.Test.YtohbmodoiindgaaDoorProg
namespace Go.Proofs.YtohbmodoiindgaaDoor.ST
open Go Go.VS Go.RowKit
set_option maxRecDepth 100000
set_option linter.unusedVariables false
set_option linter.unusedSimpArgs false
noncomputable def bytes9 : Nat := Tryd.prog.bytesOf 9
def okS43 (xs : List ByteArray) : Prop := (∀ x ∈ xs, (fun s : ByteArray => s.size ≤ 140737488351232) x) ∧ xs.length * bytes9 ≤ 140737488351232
theorem opens43 : OpensE Tryd.prog 43 (fun xs : List ByteArray => [L.sl false 1 (xs.map (fun s : ByteArray => [L.str s]))]) 1 okS43 := opensE_slice (enc := (fun s : ByteArray => [L.str s])) Tryd.underlying43 (opensE_string Tryd.underlying9) (fun _ => rfl) (by decide) (by kernel_rfl) rfl
noncomputable def bytes3 : Nat := Tryd.prog.bytesOf 3
def okS69 (xs : List Int) : Prop := (∀ x ∈ xs, (fun n : Int => (Lit.int .i64 n).wf = true) x) ∧ xs.length * bytes3 ≤ 140737488351232
theorem opens69 : OpensE Tryd.prog 69 (fun xs : List Int => [L.sl false 1 (xs.map (fun n : Int => [L.int .i64 n]))]) 1 okS69 := opensE_slice (enc := (fun n : Int => [L.int .i64 n])) Tryd.underlying69 (opensE_int Tryd.underlying3) (fun _ => rfl) (by decide) (by kernel_rfl) rfl
def ok90 (x : KNode) : Prop := (fun n : Int => (Lit.int .i64 n).wf = true) x.kind ∧ (fun n : Int => (Lit.int .i64 n).wf = true) x.n ∧ (fun s : ByteArray => s.size ≤ 140737488351232) x.s ∧ okS43 x.names ∧ okS69 x.args
theorem opens90 : OpensE Tryd.prog 90 (KNode.row false) 5 ok90 := opensE_struct (fun a : Int × Int × ByteArray × (List ByteArray) × (List Int) => (⟨a.1, a.2.1, a.2.2.1, a.2.2.2.1, a.2.2.2.2⟩ : KNode)) (fun _ => rfl) (fun _ h => h) Tryd.underlying90 (by kernel_rfl) (opensFE_cons (P := Tryd.prog) (enc := (fun n : Int => [L.int .i64 n])) (sz := 1) (G := (fun n : Int => (Lit.int .i64 n).wf = true)) (by kernel_rfl) (by kernel_rfl) (fun _ => rfl) (opensE_int Tryd.underlying3) (opensFE_cons (P := Tryd.prog) (enc := (fun n : Int => [L.int .i64 n])) (sz := 1) (G := (fun n : Int => (Lit.int .i64 n).wf = true)) (by kernel_rfl) (by kernel_rfl) (fun _ => rfl) (opensE_int Tryd.underlying3) (opensFE_cons (P := Tryd.prog) (enc := (fun s : ByteArray => [L.str s])) (sz := 1) (G := (fun s : ByteArray => s.size ≤ 140737488351232)) (by kernel_rfl) (by kernel_rfl) (fun _ => rfl) (opensE_string Tryd.underlying9) (opensFE_cons (P := Tryd.prog) (enc := (fun xs : List ByteArray => [L.sl false 1 (xs.map (fun s : ByteArray => [L.str s]))])) (sz := 1) (G := okS43) (by kernel_rfl) (by kernel_rfl) (fun _ => rfl) opens43 (opensFE_last (P := Tryd.prog) (enc := (fun xs : List Int => [L.sl false 1 (xs.map (fun n : Int => [L.int .i64 n]))])) (sz := 1) (G := okS69) (by kernel_rfl) (by kernel_rfl) (fun _ => rfl) opens69)))))
noncomputable def bytes90 : Nat := Tryd.prog.bytesOf 90
def okS39 (xs : List KNode) : Prop := (∀ x ∈ xs, ok90 x) ∧ xs.length * bytes90 ≤ 140737488351232
theorem opens39 : OpensE Tryd.prog 39 (fun xs : List KNode => [L.sl false 5 (xs.map (KNode.row false))]) 1 okS39 := opensE_slice (enc := (KNode.row false)) Tryd.underlying39 opens90 (fun _ => rfl) (by decide) (by kernel_rfl) rfl
def ok41 (x : KProg) : Prop := okS39 x.nodes ∧ (fun n : Int => (Lit.int .i64 n).wf = true) x.root
theorem opens41 : OpensE Tryd.prog 41 (KProg.row false) 2 ok41 := opensE_struct (fun a : (List KNode) × Int => (⟨a.1, a.2⟩ : KProg)) (fun _ => rfl) (fun _ h => h) Tryd.underlying41 (by kernel_rfl) (opensFE_cons (P := Tryd.prog) (enc := (fun xs : List KNode => [L.sl false 5 (xs.map (KNode.row false))])) (sz := 1) (G := okS39) (by kernel_rfl) (by kernel_rfl) (fun _ => rfl) opens39 (opensFE_last (P := Tryd.prog) (enc := (fun n : Int => [L.int .i64 n])) (sz := 1) (G := (fun n : Int => (Lit.int .i64 n).wf = true)) (by kernel_rfl) (by kernel_rfl) (fun _ => rfl) (opensE_int Tryd.underlying3)))
end Go.Proofs.YtohbmodoiindgaaDoor.ST
