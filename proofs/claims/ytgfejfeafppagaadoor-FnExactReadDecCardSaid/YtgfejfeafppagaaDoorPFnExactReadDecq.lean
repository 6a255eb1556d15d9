-- Written by a program of this session (row.py).
import Derived.Test.YtgfejfeafppagaaDoorPFnExactReadDecx2
import Derived.Test.YtgfejfeafppagaaDoorOpens
namespace Go.Proofs.YtgfejfeafppagaaDoor.PFnExactReadDec
open Go.RowKit Go.Proofs.YtgfejfeafppagaaDoorW.PrintWords Go.Proofs.YtgfejfeafppagaaDoorW.PrintLast Go.Proofs.YtgfejfeafppagaaDoorW.PrintMore
/-- The one pure statement. -/
def laws_FnExactReadDec.Pure : Prop := ∀ (x0 : ByteArray), (fun s : ByteArray => s.size ≤ 140737488351232) x0 → ∃ k, laws_FnExactReadDec.f k x0 = some true
end Go.Proofs.YtgfejfeafppagaaDoor.PFnExactReadDec
