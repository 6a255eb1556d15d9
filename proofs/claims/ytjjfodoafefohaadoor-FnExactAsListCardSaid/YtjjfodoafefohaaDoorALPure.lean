/- AsList: the law answers true. -/
import Derived.Test.YtjjfodoafefohaaDoorALFit
import Derived.Test.YtjjfodoafefohaaDoorALAsListA
namespace Go.Proofs.YtjjfodoafefohaaDoor.AL
open Go Go.VS
set_option maxRecDepth 10000
set_option maxHeartbeats 8000000
set_option linter.unusedSimpArgs false
set_option linter.unusedVariables false
theorem pure (x0 : List KCell) (x1 : KValue) (h0 : okS22 x0) (h1 : ok24 x1) : ∃ outs, A 3 [.leaf (.sl false 6 (x0.map (KCell.row false))), .agg (KValue.row false x1)] = some ([.leaf (.bool true)], outs) := by
  have hf := fitS22 h0
  have hf1 := fit24 h1
  refine ⟨_, run_laws_FnExactAsList (r := ([.leaf (.bool true)], [.gone, .gone])) ?_⟩
  have hz := szCellS x0 1048576 (by decide) (by decide) hf.1 hf.2
  generalize hwn : x0.length + KCell.us x0 = wn at hz
  by_cases hw : (wn : Int) ≤ 1048576
  · rw [szR_pos hw] at hz
    have hz2 := szValue x1 (1048576 - (wn : Int)) (by omega) (by omega) hf1
    by_cases hv : (KValue.w x1 : Int) ≤ 1048576 - (wn : Int)
    · rw [szR_pos hv] at hz2
      have ht := toCellS x0 (by omega)
      have ht1 := toValue x1 (by omega)
      have hw2 : (x0.length : Int) + KCell.us x0 ≤ 1048576 := by omega
      have hc := KCell.cnts_le x0
      have he := eqCellS x0 (by omega)
      have hvw : (x1.s.size : Int) ≤ 1048576 := by simp only [KValue.w] at hv; omega
      have hs := specAsList x0 x1 hw2 hvw
      have hi := implAsList x0 x1 hw2 hvw
      have hl := asListB_length x0 x1
      generalize asListB x0 x1 = r at *
      generalize r.getD [] = d at *
      generalize r.isSome = b at *
      have hd := valCnts d
      have m1 := markCellS x0 1 (by decide) (by omega)
      have e1 := eqValueS d (by omega)
      have m2 := markValueS d 1 (by decide) (by omega)
      have q2 := heldValueS d 1 (by decide) (by omega)
      generalize KCell.cnts x0 = tp at *
      generalize KValue.cnts d = td at *
      cases b <;> simp (maxSteps := 1000000) (disch := omega) [if_pos, if_neg, wrap_i64, wrap_u8, laws_FnExactAsList.b, hz, hz2, ht, ht1, hs, hi, he, m1, e1, m2, q2]
    · rw [szR_neg (by omega)] at hz2
      simp (maxSteps := 1000000) (disch := omega) [if_pos, if_neg, wrap_i64, wrap_u8, laws_FnExactAsList.b, hz, hz2]
  · rw [szR_neg (by omega)] at hz
    simp (maxSteps := 1000000) (disch := omega) [if_pos, if_neg, wrap_i64, wrap_u8, laws_FnExactAsList.b, hz]
end Go.Proofs.YtjjfodoafefohaaDoor.AL
