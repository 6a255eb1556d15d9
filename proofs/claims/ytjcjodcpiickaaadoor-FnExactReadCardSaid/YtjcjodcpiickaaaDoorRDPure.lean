/- Read: the law answers true. -/
import Derived.Test.YtjcjodcpiickaaaDoorRDOpen
import Derived.Test.YtjcjodcpiickaaaDoorRDReadE
namespace Go.Proofs.YtjcjodcpiickaaaDoor.RD
open Go Go.VS
set_option maxRecDepth 10000
set_option maxHeartbeats 8000000
set_option linter.unusedSimpArgs false
set_option linter.unusedVariables false
theorem us_small {cs : List KDatum} (h : ∀ c ∈ cs, c.s.size ≤ 16) : KDatum.us cs ≤ 16 * cs.length := by
 induction cs with
 | nil => simp [KDatum.us]
 | cons c cs ih =>
  have h1 := h c (by simp)
  have h2 := ih fun x hx => h x (by simp [hx])
  simp only [KDatum.us, KDatum.w, List.length_cons]
  omega
theorem pure (x0 : ByteArray) (h0 : (fun s : ByteArray => s.size ≤ 140737488351232) x0) : ∃ outs, A 4 [.leaf (.str x0)] = some ([.leaf (.bool true)], outs) := by
 refine ⟨_, run_laws_FnExactRead (r := ([.leaf (.bool true)], [.gone])) ?_⟩
 by_cases hn : ((x0.size : Int) ≤ 1048576)
 ·have hn' : ¬ (1048576 : Int) < x0.size := by omega
  have hs := specRead (s := x0) (by omega)
  have hi := implRead (s := x0) (by omega)
  obtain ⟨z1, z2, z3⟩ := readR_size x0
  have z4 := us_small z3
  have z5 := KDatum.cnts_le (readR x0).1.cells
  generalize readR x0 = z at *
  obtain ⟨d, i⟩ := z
  simp only at z1 z2 z4 z5
  have e1 := eqData d (by omega)
  have m1 := markData d 1 (by decide) (by simp only [KData.top]; omega)
  have q1 := heldData d 1 (by decide) (by simp only [KData.top]; omega)
  generalize KData.top d = td at *
  generalize KData.markTop 1 d = d2 at *
  simp (maxSteps := 1000000) (disch := omega) [ip, wr, laws_FnExactRead.b, hn, hn', hs, hi, e1, m1, q1]
 ·have hn' : (1048576 : Int) < x0.size := by omega
  simp (maxSteps := 1000000) (disch := omega) [ip, wr, laws_FnExactRead.b, hn']
end Go.Proofs.YtjcjodcpiickaaaDoor.RD
