import Derived.Test.YtgfejfeafppagaaDoorPFnExactReadDecq
import Derived.Test.YtgfejfeafppagaaDoorPFnExactReadDecReadDec
/- FnExactReadDec: the program's reading of a short decimal number and the reference's answer alike. -/
namespace Go.Proofs.YtgfejfeafppagaaDoor.Pure
open Go.RowKit Go.Proofs.YtgfejfeafppagaaDoor.Aux Go.Proofs.YtgfejfeafppagaaDoor.PFnExactReadDec

theorem FnExactReadDec : laws_FnExactReadDec.Pure := by
  intro s hs
  obtain ⟨r, ⟨k, hk⟩, h2, _⟩ := readDec_same s hs
  refine ⟨k, ?_⟩
  unfold laws_FnExactReadDec.f
  by_cases h0 : (s.size : Int) > 1048576
  · rw [if_pos h0]
  · rw [if_neg h0, show spec_ReadDec.f k s = some r from hk k (Nat.le_refl k), h2]
    simp

end Go.Proofs.YtgfejfeafppagaaDoor.Pure
