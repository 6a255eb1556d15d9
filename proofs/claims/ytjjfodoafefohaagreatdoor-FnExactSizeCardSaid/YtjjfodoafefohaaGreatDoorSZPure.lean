/- Size: the law answers true. -/
import Derived.Test.YtjjfodoafefohaaGreatDoorSZFit
import Derived.Test.YtjjfodoafefohaaGreatDoorSZSizeA
namespace Go.Proofs.YtjjfodoafefohaaGreatDoor.SZ
open Go Go.VS
set_option maxRecDepth 10000
set_option maxHeartbeats 8000000
set_option linter.unusedSimpArgs false
set_option linter.unusedVariables false
theorem pure (x0 : KSys) (h0 : ok70 x0) : ∃ outs, A 10 [.agg (KSys.row false x0)] = some ([.leaf (.bool true)], outs) := by
  have hf := fit70 h0
  refine ⟨_, run_laws_FnExactSize (r := ([.leaf (.bool true)], [.gone])) ?_⟩
  have hz := szSys x0 1048576 (by decide) (by decide) hf
  by_cases hw : (KSys.w x0 : Int) ≤ 1048576
  · have ht := toSys x0 hw
    have hc1 := KCell.cnts_le x0.heap
    have hc2 := KInst.cnts_le x0.insts
    have hc3 := KUnit.cnts_le x0.units
    have hw' := hw
    simp only [KSys.w] at hw'
    have he := eqSys x0 (by omega)
    have hs := specSize x0 hw
    have hi := implSize x0 hw
    rw [szR_pos hw] at hz
    generalize bigB x0 = d at *
    simp (maxSteps := 1000000) (disch := omega) [if_pos, if_neg, wrap_i64, wrap_u8, laws_FnExactSize.b, hz, ht, hs, hi, he]
  · rw [szR_neg (by omega)] at hz
    simp (maxSteps := 1000000) (disch := omega) [if_pos, if_neg, wrap_i64, wrap_u8, laws_FnExactSize.b, hz]
end Go.Proofs.YtjjfodoafefohaaGreatDoor.SZ
