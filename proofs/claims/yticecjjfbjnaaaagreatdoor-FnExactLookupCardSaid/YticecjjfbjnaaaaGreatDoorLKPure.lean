/- Lookup: the law answers true. -/
import Derived.Test.YticecjjfbjnaaaaGreatDoorLKFit
import Derived.Test.YticecjjfbjnaaaaGreatDoorLKLookA
namespace Go.Proofs.YticecjjfbjnaaaaGreatDoor.LK
open Go Go.VS
set_option maxRecDepth 10000
set_option maxHeartbeats 8000000
set_option linter.unusedSimpArgs false
set_option linter.unusedVariables false
theorem pure (x0 : KSys) (x1 : Int) (x2 : ByteArray) (h0 : ok66 x0) (h1 : (fun n : Int => (Lit.int .i64 n).wf = true) x1) (h2 : (fun s : ByteArray => s.size ≤ 140737488351232) x2) : ∃ outs, A 7 [.agg (KSys.row false x0), .leaf (.int .i64 x1), .leaf (.str x2)] = some ([.leaf (.bool true)], outs) := by
 have hf := fit66 h0
 refine ⟨_, run_laws_FnExactLookup (r := ([.leaf (.bool true)], [.gone, .gone, .gone])) ?_⟩
 by_cases hn : ((x2.size : Int) ≤ 1048576)
 ·have hn' : ¬ (1048576 : Int) < x2.size := by omega
  have hz := szSys x0 1048576 (by decide) (by decide) hf
  by_cases hw : (KSys.w x0 : Int) ≤ 1048576
  ·have ht := toSys x0 hw
   have hc1 := KCell.cnts_le x0.heap
   have hc2 := KInst.cnts_le x0.insts
   have hc3 := KUnit.cnts_le x0.units
   have hw' := hw
   simp only [KSys.w] at hw'
   have he := eqSys x0 (by omega)
   have hs := specLookup x0 x1 x2 hw
   have hi := implLookup x0 x1 x2 hw
   rw [szR_pos hw] at hz
   generalize lookB x0 x1 x2 = v at *
   have hv := eqValue v
   generalize isZero v = b at *
   cases b <;> simp (maxSteps := 1000000) (disch := omega) [ip, wr, laws_FnExactLookup.b, hn, hn', hz, ht, hs, hi, he, hv]
  ·rw [szR_neg (by omega)] at hz
   simp (maxSteps := 1000000) (disch := omega) [ip, wr, laws_FnExactLookup.b, hn, hn', hz]
 ·have hn' : (1048576 : Int) < x2.size := by omega
  simp (maxSteps := 1000000) (disch := omega) [ip, wr, laws_FnExactLookup.b, hn']
end Go.Proofs.YticecjjfbjnaaaaGreatDoor.LK
