-- Written by a program of this session (row.py).
import Derived.Test.YtggjjhbdpionpaaPFnExactHexx1
import Derived.Test.YtggjjhbdpionpaaOpens
namespace Go.Proofs.Ytggjjhbdpionpaa.PFnExactHex
open Go.RowKit Go.Proofs.YtggjjhbdpionpaaW.PrintWords Go.Proofs.YtggjjhbdpionpaaW.PrintLast Go.Proofs.YtggjjhbdpionpaaW.PrintMore
/-- The one pure statement. -/
def laws_FnExactHex.Pure : Prop := ∀ (x0 : ByteArray), (fun s : ByteArray => s.size ≤ 140737488351232) x0 → ∃ k, laws_FnExactHex.f k x0 = some true
end Go.Proofs.Ytggjjhbdpionpaa.PFnExactHex
