-- Written by a program of this session (row.py).
import Derived.Test.YtggjjhbdpionpaaDoorPFnExactDecx1
import Derived.Test.YtggjjhbdpionpaaDoorOpens
namespace Go.Proofs.YtggjjhbdpionpaaDoor.PFnExactDec
open Go.RowKit Go.Proofs.YtggjjhbdpionpaaDoorW.PrintWords Go.Proofs.YtggjjhbdpionpaaDoorW.PrintLast Go.Proofs.YtggjjhbdpionpaaDoorW.PrintMore
/-- The one pure statement. -/
def laws_FnExactDec.Pure : Prop := ∀ (x0 : Int), (fun n : Int => (Lit.int .i64 n).wf = true) x0 → ∃ k, laws_FnExactDec.f k x0 = some true
end Go.Proofs.YtggjjhbdpionpaaDoor.PFnExactDec
