/- Order: the law answers true. -/
import Derived.Test.YtjjfodoafefohaaGreatDoorORFit
import Derived.Test.YtjjfodoafefohaaGreatDoorOROrderB
namespace Go.Proofs.YtjjfodoafefohaaGreatDoor.OR
open Go Go.VS
set_option maxRecDepth 10000
set_option maxHeartbeats 8000000
set_option linter.unusedSimpArgs false
set_option linter.unusedVariables false
theorem pure (x0 : List KSrc) (h0 : okS57 x0) : ∃ outs, A 8 [.leaf (KSrc.sl false x0)] = some ([.leaf (.bool true)], outs) := by
  have hf := fitS57 h0
  refine ⟨_, run_laws_FnExactOrder (r := ([.leaf (.bool true)], [.gone])) ?_⟩
  have hz := szSrcS x0 1048576 (by decide) (by decide) hf.1 hf.2
  generalize hwn : x0.length + KSrc.us x0 = wn at hz
  by_cases hw : (wn : Int) ≤ 1048576
  · rw [szR_pos hw] at hz
    have ht := toSrcS x0 (by omega)
    have hc := KSrc.cnts_le x0
    have he := eqSrcS x0 (by omega)
    have hs := specOrder x0 (by omega) (by omega)
    have hi := implOrder x0 (by omega) (by omega)
    have hl := orderB_length x0
    generalize orderB x0 = r at *
    generalize r.getD [] = d at *
    generalize r.isSome = b at *
    have m1 := markSrcS x0 1 (by decide) (by omega)
    have e1 := eqStringS d (by omega)
    have m2 := markStringS d 1 (by decide) (by omega)
    have q2 := heldStringS d 1 (by decide) (by omega)
    generalize KSrc.cnts x0 = tp at *
    cases b <;> simp (maxSteps := 1000000) (disch := omega) [if_pos, if_neg, wrap_i64, wrap_u8, laws_FnExactOrder.b, hz, ht, hs, hi, he, m1, e1, m2, q2]
  · rw [szR_neg (by omega)] at hz
    simp (maxSteps := 1000000) (disch := omega) [if_pos, if_neg, wrap_i64, wrap_u8, laws_FnExactOrder.b, hz]
end Go.Proofs.YtjjfodoafefohaaGreatDoor.OR
