/- DataOk: the law answers true. -/
import Derived.Test.YtjcjodcpiickaaaGreatDoorDKFit
import Derived.Test.YtjcjodcpiickaaaGreatDoorDKDataA
namespace Go.Proofs.YtjcjodcpiickaaaGreatDoor.DK
open Go Go.VS
set_option maxRecDepth 10000
set_option maxHeartbeats 8000000
set_option linter.unusedSimpArgs false
set_option linter.unusedVariables false
theorem num_in {n : Int} (h : (Lit.int .i64 n).wf = true) : -9223372036854775808 ≤ n ∧ n ≤ 9223372036854775807 := by
 simp [Lit.wf, IntKind.min, IntKind.max, IntKind.signed, IntKind.bits] at h
 omega
theorem showB_len {d : KData} (hd : ShowOk d) (hus : KDatum.us d.cells ≤ 1048576) (ht : (d.tops.length : Int) ≤ 1048576) : (showB d).length ≤ 1000000000 := by
 unfold showB
 by_cases hwh : wholeB d = true
 ·rw [if_pos hwh]
  have := tops_len hd (whole_of hwh) hus ht
  omega
 ·rw [if_neg hwh]
  simp
theorem pure (x0 : KData) (h0 : ok48 x0) : ∃ outs, A 5 [.agg (KData.row false x0)] = some ([.leaf (.bool true)], outs) := by
 have hf := fit48 h0
 have hn : ∀ c ∈ x0.cells, -9223372036854775808 ≤ c.n ∧ c.n ≤ 9223372036854775807 := fun c hc => num_in (h0.1.1 c hc).2.1
 refine ⟨_, run_laws_FnExactDataOk (r := ([.leaf (.bool true)], [.gone])) ?_⟩
 have hz := szData x0 1048576 (by decide) (by decide) hf
 by_cases hw : (KData.w x0 : Int) ≤ 1048576
 ·have ht := toData x0 hw
  have hc := KDatum.cnts_le x0.cells
  have hw' := hw
  simp only [KData.w] at hw'
  have he := eqData x0 (by omega)
  have hd : ShowOk x0 := ⟨by omega, hn⟩
  have hl := showB_len hd (by omega) (by omega)
  have hs := specDataOk hd (by omega) (by omega) hl
  have hi := implDataOk hd (by omega) (by omega) hl
  rw [szR_pos hw] at hz
  generalize dataOkB x0 = s at *
  simp (maxSteps := 1000000) (disch := omega) [ip, wr, laws_FnExactDataOk.b, hz, ht, hs, hi, he]
 ·rw [szR_neg (by omega)] at hz
  simp (maxSteps := 1000000) (disch := omega) [ip, wr, laws_FnExactDataOk.b, hz]
end Go.Proofs.YtjcjodcpiickaaaGreatDoor.DK
