/- Compare: the law answers true. -/
import Derived.Test.YtjjfodoafefohaaGreatDoorCMFit
import Derived.Test.YtjjfodoafefohaaGreatDoorCMCompB
namespace Go.Proofs.YtjjfodoafefohaaGreatDoor.CM
open Go Go.VS
set_option maxRecDepth 10000
set_option maxHeartbeats 8000000
set_option linter.unusedSimpArgs false
set_option linter.unusedVariables false
theorem pure (x0 x1 : KSrc) (h0 : ok44 x0) (h1 : ok44 x1) : ∃ outs, A 7 [.agg (KSrc.row false x0), .agg (KSrc.row false x1)] = some ([.leaf (.bool true)], outs) := by
  have hf := fit44 h0
  have hf1 := fit44 h1
  refine ⟨_, run_laws_FnExactCompare (r := ([.leaf (.bool true)], [.gone, .gone])) ?_⟩
  have hz := szSrc x0 1048576 (by decide) (by decide) hf
  by_cases hw : (KSrc.w x0 : Int) ≤ 1048576
  · rw [szR_pos hw] at hz
    have hz2 := szSrc x1 (1048576 - (KSrc.w x0 : Int)) (by omega) (by omega) hf1
    by_cases hv : (KSrc.w x1 : Int) ≤ 1048576 - (KSrc.w x0 : Int)
    · rw [szR_pos hv] at hz2
      have hv' : (KSrc.w x1 : Int) ≤ 1048576 := by omega
      have ht := toSrc x0 hw
      have ht1 := toSrc x1 hv'
      have a1 := KType.cnts_le x0.types
      have a2 := KDef.cnts_le x0.defs
      have a3 := KDef.cnts_le x0.convs
      have b1 := KType.cnts_le x1.types
      have b2 := KDef.cnts_le x1.defs
      have b3 := KDef.cnts_le x1.convs
      have hw2 := hw
      have hw3 := hv'
      simp only [KSrc.w] at hw2 hw3
      have he := eqSrc x0 (by omega)
      have he1 := eqSrc x1 (by omega)
      have hs := specCompare x0 x1 hw hv'
      have hi := implCompare x0 x1 hw hv'
      have hl := compB_length x0 x1
      have tp0 : (KSrc.top x0 : Int) ≤ 1000000000 := by simp only [KSrc.top]; omega
      have tp1 : (KSrc.top x1 : Int) ≤ 1000000000 := by simp only [KSrc.top]; omega
      generalize compB x0 x1 = d at *
      have m1 := markSrc x0 1 (by decide) (by omega)
      have m3 := markSrc x1 (1 + (KSrc.top x0 : Int)) (by omega) (by omega)
      have e1 := eqStringS d (by omega)
      have m2 := markStringS d 1 (by decide) (by omega)
      have q2 := heldStringS d 1 (by decide) (by omega)
      generalize KSrc.top x0 = t0 at *
      generalize KSrc.top x1 = t1 at *
      simp (maxSteps := 1000000) (disch := omega) [if_pos, if_neg, wrap_i64, wrap_u8, laws_FnExactCompare.b, hz, hz2, ht, ht1, hs, hi, he, he1, m1, m3, e1, m2, q2]
    · rw [szR_neg (by omega)] at hz2
      simp (maxSteps := 1000000) (disch := omega) [if_pos, if_neg, wrap_i64, wrap_u8, laws_FnExactCompare.b, hz, hz2]
  · rw [szR_neg (by omega)] at hz
    simp (maxSteps := 1000000) (disch := omega) [if_pos, if_neg, wrap_i64, wrap_u8, laws_FnExactCompare.b, hz]
end Go.Proofs.YtjjfodoafefohaaGreatDoor.CM
