-- Written by a program of this session (row.py).
import Derived.Test.YtgfejfeafppagaaDoorZFnExactProgOkPFnExactProgOkx14
import Derived.Test.YtgfejfeafppagaaDoorZFnExactProgOkOpens
namespace Go.Proofs.YtgfejfeafppagaaDoor.PFnExactProgOk
open Go.RowKit Go.Proofs.YtgfejfeafppagaaDoorW.PrintWords Go.Proofs.YtgfejfeafppagaaDoorW.PrintLast Go.Proofs.YtgfejfeafppagaaDoorW.PrintMore
def ok150 (x : S150) : Prop := (fun n : Int => (Lit.int .i64 n).wf = true) x.f0 ∧ (fun n : Int => (Lit.int .i64 n).wf = true) x.f1 ∧ (fun s : ByteArray => s.size ≤ 140737488351232) x.f2 ∧ (fun xs : List ByteArray => (∀ x ∈ xs, (fun s : ByteArray => s.size ≤ 140737488351232) x) ∧ xs.length * 16 ≤ 140737488351232) x.f3 ∧ (fun xs : List Int => (∀ x ∈ xs, (fun n : Int => (Lit.int .i64 n).wf = true) x) ∧ xs.length * 8 ≤ 140737488351232) x.f4
theorem opens150 : Opens.Opens Tryd.prog k150 150 ok150 := Opens.opens_struct (fun x : S150 => (x.f0, x.f1, x.f2, x.f3, x.f4)) (fun a => ⟨a.1, a.2.1, a.2.2.1, a.2.2.2.1, a.2.2.2.2⟩) (fun _ => rfl) Tryd.underlying150 (by kernel_rfl) (Opens.opensFs_cons (by kernel_rfl) (by kernel_rfl) (Opens.opens_int Tryd.underlying3) (Opens.opensFs_cons (by kernel_rfl) (by kernel_rfl) (Opens.opens_int Tryd.underlying3) (Opens.opensFs_cons (by kernel_rfl) (by kernel_rfl) (Opens.opens_string Tryd.underlying9) (Opens.opensFs_cons (by kernel_rfl) (by kernel_rfl) (Opens.opens_slice Tryd.underlying93 (Opens.opens_string Tryd.underlying9) (by kernel_rfl) (by kernel_rfl)) (Opens.opensFs_last (by kernel_rfl) (by kernel_rfl) (Opens.opens_slice Tryd.underlying50 (Opens.opens_int Tryd.underlying3) (by kernel_rfl) (by kernel_rfl)))))))
def ok61 (x : S61) : Prop := (fun xs : List (S150) => (∀ x ∈ xs, ok150 x) ∧ xs.length * 80 ≤ 140737488351232) x.f0 ∧ (fun n : Int => (Lit.int .i64 n).wf = true) x.f1
theorem opens61 : Opens.Opens Tryd.prog k61 61 ok61 := Opens.opens_struct (fun x : S61 => (x.f0, x.f1)) (fun a => ⟨a.1, a.2⟩) (fun _ => rfl) Tryd.underlying61 (by kernel_rfl) (Opens.opensFs_cons (by kernel_rfl) (by kernel_rfl) (Opens.opens_slice Tryd.underlying59 opens150 (by kernel_rfl) (by kernel_rfl)) (Opens.opensFs_last (by kernel_rfl) (by kernel_rfl) (Opens.opens_int Tryd.underlying3)))
/-- The one pure statement. -/
def laws_FnExactProgOk.Pure : Prop := ∀ (x0 : S61), ok61 x0 → ∃ k, laws_FnExactProgOk.f k x0.f0 x0.f1 = some true
end Go.Proofs.YtgfejfeafppagaaDoor.PFnExactProgOk
