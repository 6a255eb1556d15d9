/- Print: the law answers true. -/
import Derived.Test.YticecjjfbjnaaaaGreatDoorPRFit
import Derived.Test.YticecjjfbjnaaaaGreatDoorPRPrintA
namespace Go.Proofs.YticecjjfbjnaaaaGreatDoor.PR
open Go Go.VS
set_option maxRecDepth 10000
set_option maxHeartbeats 8000000
set_option linter.unusedSimpArgs false
set_option linter.unusedVariables false
theorem pure (x0 : KProg) (h0 : ok37 x0) : ∃ outs, A 5 [.agg (KProg.row false x0)] = some ([.leaf (.bool true)], outs) := by
 have hf := fit37 h0
 refine ⟨_, run_laws_FnExactPrint (r := ([.leaf (.bool true)], [.gone])) ?_⟩
 have hz := szProg x0 1048576 (by decide) (by decide) hf
 by_cases hw : (KProg.w x0 : Int) ≤ 1048576
 ·have ht := toProg x0 hw
  have hc := KNode.cnts_le x0.nodes
  have hw' := hw
  simp only [KProg.w] at hw'
  have he := eqProg x0 (by omega)
  have hs := specPrint x0 hw
  have hi := implPrint x0 hw
  rw [szR_pos hw] at hz
  generalize printB x0 = d at *
  generalize canB x0 = b at *
  cases b <;> simp (maxSteps := 1000000) (disch := omega) [ip, wr, laws_FnExactPrint.b, hz, ht, hs, hi, he]
 ·rw [szR_neg (by omega)] at hz
  simp (maxSteps := 1000000) (disch := omega) [ip, wr, laws_FnExactPrint.b, hz]
end Go.Proofs.YticecjjfbjnaaaaGreatDoor.PR
