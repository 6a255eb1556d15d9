/- Start: the law answers true. -/
import Derived.Test.YticecjjfbjnaaaaGreatDoorSAFit
import Derived.Test.YticecjjfbjnaaaaGreatDoorSAStartA
namespace Go.Proofs.YticecjjfbjnaaaaGreatDoor.SA
open Go Go.VS
set_option maxRecDepth 10000
set_option maxHeartbeats 8000000
set_option linter.unusedSimpArgs false
set_option linter.unusedVariables false
theorem pure (x0 : KSys) (x1 : Int) (h0 : ok66 x0) (h1 : (fun n : Int => (Lit.int .i64 n).wf = true) x1) : ∃ outs, A 8 [.agg (KSys.row false x0), .leaf (.int .i64 x1)] = some ([.leaf (.bool true)], outs) := by
 have hf := fit66 h0
 refine ⟨_, run_laws_FnExactStart (r := ([.leaf (.bool true)], [.gone, .gone])) ?_⟩
 have hz := szSys x0 1048576 (by decide) (by decide) hf
 by_cases hw : (KSys.w x0 : Int) ≤ 1048576
 ·have ht := toSys x0 hw
  have hc1 := KCell.cnts_le x0.heap
  have hc2 := KInst.cnts_le x0.insts
  have hc3 := KUnit.cnts_le x0.units
  have hw' := hw
  simp only [KSys.w] at hw'
  have he := eqSys x0 (by omega)
  have hs := specStart x0 x1 hw
  have hi := implStart x0 x1 hw
  rw [szR_pos hw] at hz
  obtain ⟨g1, g2, g3⟩ := machB_flat x0 x1
  have tp0 : (KSys.top x0 : Int) ≤ 1000000000 := by simp only [KSys.top]; omega
  generalize machB x0 x1 = d at *
  have m1 := markSys x0 1 (by decide) (by omega)
  have e1 := eqMachine d (by simp [g1, g2, KBind.cnts, KFrame.cnts])
  have m2 := markMachine d 1 (by decide) (by simp [KMachine.top, g1, g2, KBind.cnts, KFrame.cnts])
  have q2 := heldMachine d 1 (by decide) (by simp [KMachine.top, g1, g2, KBind.cnts, KFrame.cnts])
  generalize KSys.top x0 = t0 at *
  generalize startB x0 x1 = b at *
  cases b <;> simp (maxSteps := 1000000) (disch := omega) [ip, wr, laws_FnExactStart.b, hz, ht, hs, hi, he, m1, e1, m2, q2]
 ·rw [szR_neg (by omega)] at hz
  simp (maxSteps := 1000000) (disch := omega) [ip, wr, laws_FnExactStart.b, hz]
end Go.Proofs.YticecjjfbjnaaaaGreatDoor.SA
