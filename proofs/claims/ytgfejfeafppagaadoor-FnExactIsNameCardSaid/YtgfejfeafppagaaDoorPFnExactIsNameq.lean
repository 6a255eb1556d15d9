-- Written by a program of this session (row.py).
import Derived.Test.YtgfejfeafppagaaDoorPFnExactIsNamex4
import Derived.Test.YtgfejfeafppagaaDoorOpens
namespace Go.Proofs.YtgfejfeafppagaaDoor.PFnExactIsName
open Go.RowKit Go.Proofs.YtgfejfeafppagaaDoorW.PrintWords Go.Proofs.YtgfejfeafppagaaDoorW.PrintLast Go.Proofs.YtgfejfeafppagaaDoorW.PrintMore
/-- The one pure statement. -/
def laws_FnExactIsName.Pure : Prop := ∀ (x0 : ByteArray), (fun s : ByteArray => s.size ≤ 140737488351232) x0 → ∃ k, laws_FnExactIsName.f k x0 = some true
end Go.Proofs.YtgfejfeafppagaaDoor.PFnExactIsName
