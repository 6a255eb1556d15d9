/- Sets: the law answers true. -/
import Derived.Test.YtohbmodoiindgaaDoorSTFit
import Derived.Test.YtohbmodoiindgaaDoorSTSetsA
namespace Go.Proofs.YtohbmodoiindgaaDoor.ST
open Go Go.VS
set_option maxRecDepth 10000
set_option maxHeartbeats 8000000
set_option linter.unusedSimpArgs false
set_option linter.unusedVariables false
theorem pure (x0 : KProg) (h0 : ok41 x0) : ∃ outs, A 4 [.agg (KProg.row false x0)] = some ([.leaf (.bool true)], outs) := by
  have hf := fit41 h0
  refine ⟨_, run_laws_FnExactSets (r := ([.leaf (.bool true)], [.gone])) ?_⟩
  have hz := szProg x0 1048576 (by decide) (by decide) hf
  by_cases hw : (KProg.w x0 : Int) ≤ 1048576
  · have ht := toProg x0 hw
    have hc := KNode.cnts_le x0.nodes
    have hw' := hw
    simp only [KProg.w] at hw'
    have he := eqProg x0 (by omega)
    have hs := specSets x0 hw
    have hi := implSets x0 hw
    have hl := setsB_length x0
    have htp : (KProg.top x0 : Int) ≤ 1000000000 := by simp only [KProg.top]; omega
    rw [szR_pos hw] at hz
    generalize setsB x0 = d at *
    have m1 := markProg x0 1 (by decide) (by omega)
    have e1 := eqStringS d (by omega)
    have m2 := markStringS d 1 (by decide) (by omega)
    have q2 := heldStringS d 1 (by decide) (by omega)
    generalize KProg.top x0 = tp at *
    simp (maxSteps := 1000000) (disch := omega) [if_pos, if_neg, wrap_i64, wrap_u8, laws_FnExactSets.b, hz, ht, hs, hi, he, m1, e1, m2, q2]
  · rw [szR_neg (by omega)] at hz
    simp (maxSteps := 1000000) (disch := omega) [if_pos, if_neg, wrap_i64, wrap_u8, laws_FnExactSets.b, hz]
end Go.Proofs.YtohbmodoiindgaaDoor.ST
