/- Needs: the law answers true. -/
import Derived.Test.YticecjjfbjnaaaaNEFit
import Derived.Test.YticecjjfbjnaaaaNENeedB
namespace Go.Proofs.Yticecjjfbjnaaaa.NE
open Go Go.VS
set_option maxRecDepth 10000
set_option maxHeartbeats 8000000
set_option linter.unusedSimpArgs false
set_option linter.unusedVariables false
theorem pure (x0 : List KSrc) (x1 : ByteArray) (h0 : okS22 x0) (h1 : (fun s : ByteArray => s.size ≤ 140737488351232) x1) : ∃ outs, A 3 [.leaf (KSrc.sl false x0), .leaf (.str x1)] = some ([.leaf (.bool true)], outs) := by
  have hf := fitS22 h0
  refine ⟨_, run_laws_FnExactNeeds (r := ([.leaf (.bool true)], [.gone, .gone])) ?_⟩
  by_cases hn : ((x1.size : Int) ≤ 1048576)
  · have hn' : ¬ (1048576 : Int) < x1.size := by omega
    have hz := szSrcS x0 1048576 (by decide) (by decide) hf.1 hf.2
    generalize hwn : x0.length + KSrc.us x0 = wn at hz
    by_cases hw : (wn : Int) ≤ 1048576
    · rw [szR_pos hw] at hz
      have ht := toSrcS x0 (by omega)
      have hc := KSrc.cnts_le x0
      have he := eqSrcS x0 (by omega)
      have hs := specNeeds x0 x1 (by omega) (by omega)
      have hi := implNeeds x0 x1 (by omega) (by omega)
      have hl := needsB_length x0 x1
      generalize needsB x0 x1 = d at *
      have m1 := markSrcS x0 1 (by decide) (by omega)
      have e1 := eqStringS d (by omega)
      have m2 := markStringS d 1 (by decide) (by omega)
      have q2 := heldStringS d 1 (by decide) (by omega)
      generalize KSrc.cnts x0 = tp at *
      simp (maxSteps := 1000000) (disch := omega) [if_pos, if_neg, wrap_i64, wrap_u8, laws_FnExactNeeds.b, hn, hn', hz, ht, hs, hi, he, m1, e1, m2, q2]
    · rw [szR_neg (by omega)] at hz
      simp (maxSteps := 1000000) (disch := omega) [if_pos, if_neg, wrap_i64, wrap_u8, laws_FnExactNeeds.b, hn, hn', hz]
  · have hn' : (1048576 : Int) < x1.size := by omega
    simp (maxSteps := 1000000) (disch := omega) [if_pos, if_neg, wrap_i64, wrap_u8, laws_FnExactNeeds.b, hn']
end Go.Proofs.Yticecjjfbjnaaaa.NE
