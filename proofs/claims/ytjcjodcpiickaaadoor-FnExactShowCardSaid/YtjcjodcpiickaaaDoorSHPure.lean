/- Show: the law answers true. -/
import Derived.Test.YtjcjodcpiickaaaDoorSHFit
import Derived.Test.YtjcjodcpiickaaaDoorSHShowC
namespace Go.Proofs.YtjcjodcpiickaaaDoor.SH
open Go Go.VS
set_option maxRecDepth 10000
set_option maxHeartbeats 8000000
set_option linter.unusedSimpArgs false
set_option linter.unusedVariables false
theorem num_in {n : Int} (h : (Lit.int .i64 n).wf = true) : -9223372036854775808 ≤ n ∧ n ≤ 9223372036854775807 := by
 simp [Lit.wf, IntKind.min, IntKind.max, IntKind.signed, IntKind.bits] at h
 omega
theorem pure (x0 : KData) (h0 : ok25 x0) : ∃ outs, A 3 [.agg (KData.row false x0)] = some ([.leaf (.bool true)], outs) := by
 have hf := fit25 h0
 have hn : ∀ c ∈ x0.cells, -9223372036854775808 ≤ c.n ∧ c.n ≤ 9223372036854775807 := fun c hc => num_in (h0.1.1 c hc).2.1
 refine ⟨_, run_laws_FnExactShow (r := ([.leaf (.bool true)], [.gone])) ?_⟩
 have hz := szData x0 1048576 (by decide) (by decide) hf
 by_cases hw : (KData.w x0 : Int) ≤ 1048576
 ·have ht := toData x0 hw
  have hc := KDatum.cnts_le x0.cells
  have hw' := hw
  simp only [KData.w] at hw'
  have he := eqData x0 (by omega)
  have hd : ShowOk x0 := ⟨by omega, hn⟩
  have hs := specShow hd (by omega) (by omega)
  have hi := implShow hd (by omega) (by omega)
  rw [szR_pos hw] at hz
  generalize (⟨(showB x0).toArray⟩ : ByteArray) = s at *
  simp (maxSteps := 1000000) (disch := omega) [ip, wr, laws_FnExactShow.b, hz, ht, hs, hi, he]
 ·rw [szR_neg (by omega)] at hz
  simp (maxSteps := 1000000) (disch := omega) [ip, wr, laws_FnExactShow.b, hz]
end Go.Proofs.YtjcjodcpiickaaaDoor.SH
