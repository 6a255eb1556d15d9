-- Written by a program of this session (row.py).
import Derived.Test.YtggjjhbdpionpaaPFnExactTruthx2
import Derived.Test.YtggjjhbdpionpaaOpens
namespace Go.Proofs.Ytggjjhbdpionpaa.PFnExactTruth
open Go.RowKit Go.Proofs.YtggjjhbdpionpaaW.PrintWords Go.Proofs.YtggjjhbdpionpaaW.PrintLast Go.Proofs.YtggjjhbdpionpaaW.PrintMore
def ok24 (x : S24) : Prop := (fun n : Int => (Lit.int .i64 n).wf = true) x.f0 ∧ (fun n : Int => (Lit.int .i64 n).wf = true) x.f1 ∧ (fun s : ByteArray => s.size ≤ 140737488351232) x.f2
theorem opens24 : Opens.Opens Try.prog k24 24 ok24 := Opens.opens_struct (fun x : S24 => (x.f0, x.f1, x.f2)) (fun a => ⟨a.1, a.2.1, a.2.2⟩) (fun _ => rfl) Try.underlying24 (by kernel_rfl) (Opens.opensFs_cons (by kernel_rfl) (by kernel_rfl) (Opens.opens_int Try.underlying3) (Opens.opensFs_cons (by kernel_rfl) (by kernel_rfl) (Opens.opens_int Try.underlying3) (Opens.opensFs_last (by kernel_rfl) (by kernel_rfl) (Opens.opens_string Try.underlying9))))
/-- The one pure statement. -/
def laws_FnExactTruth.Pure : Prop := ∀ (x0 : S24), ok24 x0 → laws_FnExactTruth.f x0.f0 x0.f1 x0.f2 = some true
end Go.Proofs.Ytggjjhbdpionpaa.PFnExactTruth
