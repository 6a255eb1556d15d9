/- Tidy: the law answers true. -/
import Derived.Test.YtjjfodoafefohaaGreatDoorTDFit
import Derived.Test.YtjjfodoafefohaaGreatDoorTDTidyA
namespace Go.Proofs.YtjjfodoafefohaaGreatDoor.TD
open Go Go.VS
set_option maxRecDepth 10000
set_option maxHeartbeats 8000000
set_option linter.unusedSimpArgs false
set_option linter.unusedVariables false
theorem pure (x0 : KProg) (h0 : ok24 x0) : ∃ outs, A 4 [.agg (KProg.row false x0)] = some ([.leaf (.bool true)], outs) := by
  have hf := fit24 h0
  refine ⟨_, run_laws_FnExactTidy (r := ([.leaf (.bool true)], [.gone])) ?_⟩
  have hz := szProg x0 1048576 (by decide) (by decide) hf
  by_cases hw : (KProg.w x0 : Int) ≤ 1048576
  · have ht := toProg x0 hw
    have hc := KNode.cnts_le x0.nodes
    have hw' := hw
    simp only [KProg.w] at hw'
    have he := eqProg x0 (by omega)
    have hs := specTidy x0 hw
    have hi := implTidy x0 hw
    have hl := tidyB_cnts x0 hw
    have htp : (KProg.top x0 : Int) ≤ 1000000000 := by simp only [KProg.top]; omega
    rw [szR_pos hw] at hz
    generalize tidyB x0 = d at *
    have hdp : (KProg.top d : Int) ≤ 1000000000 := by simp only [KProg.top]; omega
    have m1 := markProg x0 1 (by decide) (by omega)
    have e1 := eqProg d (by omega)
    have m2 := markProg d 1 (by decide) (by omega)
    have q2 := heldProg d 1 (by decide) (by omega)
    generalize KProg.top x0 = tp at *
    generalize KProg.top d = td at *
    simp (maxSteps := 1000000) (disch := omega) [if_pos, if_neg, wrap_i64, wrap_u8, laws_FnExactTidy.b, hz, ht, hs, hi, he, m1, e1, m2, q2]
  · rw [szR_neg (by omega)] at hz
    simp (maxSteps := 1000000) (disch := omega) [if_pos, if_neg, wrap_i64, wrap_u8, laws_FnExactTidy.b, hz]
end Go.Proofs.YtjjfodoafefohaaGreatDoor.TD
