/- Free: the law answers true. -/
import Derived.Test.YticecjjfbjnaaaaGreatDoorFRFit
import Derived.Test.YticecjjfbjnaaaaGreatDoorFRFreeA
namespace Go.Proofs.YticecjjfbjnaaaaGreatDoor.FR
open Go Go.VS
set_option maxRecDepth 10000
set_option maxHeartbeats 8000000
set_option linter.unusedSimpArgs false
set_option linter.unusedVariables false
theorem pure (x0 : KProg) (x1 : Int) (h0 : ok37 x0) (h1 : (Lit.int .i64 x1).wf = true) : ∃ outs, A 4 [.agg (KProg.row false x0), .leaf (.int .i64 x1)] = some ([.leaf (.bool true)], outs) := by
  have hf := fit37 h0
  refine ⟨_, run_laws_FnExactFree (r := ([.leaf (.bool true)], [.gone, .gone])) ?_⟩
  have hz := szProg x0 1048576 (by decide) (by decide) hf
  by_cases hw : (KProg.w x0 : Int) ≤ 1048576
  · have ht := toProg x0 hw
    have hc := KNode.cnts_le x0.nodes
    have hw' := hw
    simp only [KProg.w] at hw'
    have he := eqProg x0 (by omega)
    have hs := specFree x0 x1 hw
    have hi := implFree x0 x1 hw
    have hl := freeB_length x0 x1
    have htp : (KProg.top x0 : Int) ≤ 1000000000 := by simp only [KProg.top]; omega
    rw [szR_pos hw] at hz
    generalize freeB x0 x1 = d at *
    have m1 := markProg x0 1 (by decide) (by omega)
    have e1 := eqStringS d (by omega)
    have m2 := markStringS d 1 (by decide) (by omega)
    have q2 := heldStringS d 1 (by decide) (by omega)
    generalize KProg.top x0 = tp at *
    simp (maxSteps := 1000000) (disch := omega) [if_pos, if_neg, wrap_i64, wrap_u8, laws_FnExactFree.b, hz, ht, hs, hi, he, m1, e1, m2, q2]
  · rw [szR_neg (by omega)] at hz
    simp (maxSteps := 1000000) (disch := omega) [if_pos, if_neg, wrap_i64, wrap_u8, laws_FnExactFree.b, hz]
end Go.Proofs.YticecjjfbjnaaaaGreatDoor.FR
