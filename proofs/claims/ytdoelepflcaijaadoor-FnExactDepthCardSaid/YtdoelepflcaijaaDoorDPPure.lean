/- Depth: the law answers true. -/
import Derived.Test.YtdoelepflcaijaaDoorDPFit
import Derived.Test.YtdoelepflcaijaaDoorDPDepthA
namespace Go.Proofs.YtdoelepflcaijaaDoor.DP
open Go Go.VS
set_option maxRecDepth 10000
set_option maxHeartbeats 8000000
set_option linter.unusedSimpArgs false
set_option linter.unusedVariables false
theorem pure (x0 : KProg) (h0 : ok61 x0) : ∃ outs, A 7 [.agg (KProg.row false x0)] = some ([.leaf (.bool true)], outs) := by
  have hf := fit61 h0
  refine ⟨_, run_laws_FnExactDepth (r := ([.leaf (.bool true)], [.gone])) ?_⟩
  have hz := szProg x0 1048576 (by decide) (by decide) hf
  by_cases hw : (KProg.w x0 : Int) ≤ 1048576
  · have ht := toProg x0 hw
    have hc := KNode.cnts_le x0.nodes
    have hw' := hw
    simp only [KProg.w] at hw'
    have he := eqProg x0 (by omega)
    have hs := specDepth x0 hw
    have hi := implDepth x0 hw
    rw [szR_pos hw] at hz
    generalize depthB x0 = d at *
    simp (maxSteps := 1000000) (disch := omega) [if_pos, if_neg, wrap_i64, wrap_u8, laws_FnExactDepth.b, hz, ht, hs, hi, he]
  · rw [szR_neg (by omega)] at hz
    simp (maxSteps := 1000000) (disch := omega) [if_pos, if_neg, wrap_i64, wrap_u8, laws_FnExactDepth.b, hz]
end Go.Proofs.YtdoelepflcaijaaDoor.DP
