/- Rows of names, each once; the names that a program sets: the program's and the reference's tell the same. -/
import Derived.Test.YticecjjfbjnaaaaGreatDoorSAProgA
namespace Go.Proofs.YticecjjfbjnaaaaGreatDoor.SA
open Go Go.VS Go.Lib
set_option maxRecDepth 10000
set_option maxHeartbeats 8000000
set_option linter.unusedSimpArgs false
set_option linter.unusedVariables false
theorem strIdx_mem (l : List ByteArray) (s : ByteArray) : (0 ≤ strIdx l s 0) ↔ s ∈ l := by
 constructor
 ·intro h
  refine Classical.byContradiction fun hn => ?_
  have : ∀ (l : List ByteArray) (k : Int), s ∉ l → strIdx l s k = -1 := by
   intro l
   induction l with
   | nil => intro k _; rfl
   | cons x l ih =>
    intro k hm
    simp only [List.mem_cons, not_or] at hm
    unfold strIdx
    rw [if_neg hm.1, ih _ hm.2]
  rw [this l 0 hn] at h
  omega
 ·intro h
  exact (strIdx_ge l s 0 h).1
theorem sContainsL (l : List ByteArray) (s : ByteArray) (hl : (l.length : Int) ≤ 1000000000) : A 141 [.leaf (Kstrs false l), .leaf (.str s)] = some ([.leaf (.bool (decide (s ∈ l)))], [.gone, .gone]) := by
 have h1 := sIndexL l s hl
 have h2 := strIdx_mem l s
 refine run_slices_Contains_string_string ?_
 generalize strIdx l s 0 = j at *
 by_cases hm : s ∈ l
 ·have hj := h2.2 hm
  simp (maxSteps := 1000000) (disch := omega) [ip, wr, slices_Contains_string_string.b, h1, hm, hj]
 ·have h3 : ¬ 0 ≤ j := fun h => hm (h2.1 h)
  have hj : j < 0 := by omega
  simp (maxSteps := 1000000) (disch := omega) [ip, wr, slices_Contains_string_string.b, h1, hm, hj]
theorem sContains (l : List ByteArray) (s : ByteArray) (hl : (l.length : Int) ≤ 1048576) : A 141 [.leaf (Kstrs false l), .leaf (.str s)] = some ([.leaf (.bool (decide (s ∈ l)))], [.gone, .gone]) := sContainsL l s (by omega)
end Go.Proofs.YticecjjfbjnaaaaGreatDoor.SA
