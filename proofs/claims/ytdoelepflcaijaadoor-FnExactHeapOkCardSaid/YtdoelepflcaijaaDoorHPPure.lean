/- HeapOk: the law answers true. -/
import Derived.Test.YtdoelepflcaijaaDoorHPFit
import Derived.Test.YtdoelepflcaijaaDoorHPHeapA
namespace Go.Proofs.YtdoelepflcaijaaDoor.HP
open Go Go.VS
set_option maxRecDepth 10000
set_option maxHeartbeats 8000000
set_option linter.unusedSimpArgs false
set_option linter.unusedVariables false
theorem pure (x0 : List KCell) (h0 : okS52 x0) : ∃ outs, A 6 [.leaf (.sl false 6 (x0.map (KCell.row false)))] = some ([.leaf (.bool true)], outs) := by
  have hf := fitS52 h0
  refine ⟨_, run_laws_FnExactHeapOk (r := ([.leaf (.bool true)], [.gone])) ?_⟩
  have hz := szCellS x0 1048576 (by decide) (by decide) hf.1 hf.2
  by_cases hw : ((x0.length + KCell.us x0 : Nat) : Int) ≤ 1048576
  · have ht := toCellS x0 hw
    have hw2 : (x0.length : Int) + KCell.us x0 ≤ 1048576 := by omega
    have hc := KCell.cnts_le x0
    have he := eqCellS x0 (by omega)
    have hs := specHeapOk x0 hw2
    have hi := implHeapOk x0 hw2
    rw [szR_pos hw] at hz
    generalize heapB x0 = d at *
    simp (maxSteps := 1000000) (disch := omega) [if_pos, if_neg, wrap_i64, wrap_u8, laws_FnExactHeapOk.b, hz, ht, hs, hi, he]
  · rw [szR_neg (by omega)] at hz
    simp (maxSteps := 1000000) (disch := omega) [if_pos, if_neg, wrap_i64, wrap_u8, laws_FnExactHeapOk.b, hz]
end Go.Proofs.YtdoelepflcaijaaDoor.HP
