/- SrcOk: the law answers true. -/
import Derived.Test.YtjjfodoafefohaaGreatDoorSOFit
import Derived.Test.YtjjfodoafefohaaGreatDoorSOSrcB
namespace Go.Proofs.YtjjfodoafefohaaGreatDoor.SO
open Go Go.VS
set_option maxRecDepth 10000
set_option maxHeartbeats 8000000
set_option linter.unusedSimpArgs false
set_option linter.unusedVariables false
theorem pure (x0 : KSrc) (h0 : ok44 x0) : ∃ outs, A 6 [.agg (KSrc.row false x0)] = some ([.leaf (.bool true)], outs) := by
  have hf := fit44 h0
  refine ⟨_, run_laws_FnExactSrcOk (r := ([.leaf (.bool true)], [.gone])) ?_⟩
  have hz := szSrc x0 1048576 (by decide) (by decide) hf
  by_cases hw : (KSrc.w x0 : Int) ≤ 1048576
  · have ht := toSrc x0 hw
    have hc1 := KType.cnts_le x0.types
    have hc2 := KDef.cnts_le x0.defs
    have hc3 := KDef.cnts_le x0.convs
    have hw' := hw
    simp only [KSrc.w] at hw'
    have he := eqSrc x0 (by omega)
    have hs := specSrcOk x0 hw
    have hi := implSrcOk x0 hw
    rw [szR_pos hw] at hz
    generalize srcB x0 = d at *
    simp (maxSteps := 1000000) (disch := omega) [if_pos, if_neg, wrap_i64, wrap_u8, laws_FnExactSrcOk.b, hz, ht, hs, hi, he]
  · rw [szR_neg (by omega)] at hz
    simp (maxSteps := 1000000) (disch := omega) [if_pos, if_neg, wrap_i64, wrap_u8, laws_FnExactSrcOk.b, hz]
end Go.Proofs.YtjjfodoafefohaaGreatDoor.SO
