/- How big a system is: the program's and the reference's tell the same. -/
import Derived.Test.YtjjfodoafefohaaGreatDoorSZSysB
namespace Go.Proofs.YtjjfodoafefohaaGreatDoor.SZ
open Go Go.VS Go.Lib
set_option maxRecDepth 10000
set_option maxHeartbeats 8000000
set_option linter.unusedSimpArgs false
set_option linter.unusedVariables false
noncomputable def bigB (y : KSys) : Int := if sysB y = true then (y.heap.length : Int) + y.insts.length + y.units.length else 0
theorem implSize (y : KSys) (hw : (KSys.w y : Int) ≤ 1048576) : A 46 [.agg (KSys.row false y)] = some ([.leaf (.int .i64 (bigB y))], [.gone]) := by
  have hP := implSysOk y hw
  obtain ⟨w1, w2, w3, w4⟩ := sysw hw
  refine run_impl_Size ?_
  unfold bigB
  cases hk : sysB y with
  | false =>
    rw [hk] at hP
    simp (maxSteps := 1000000) (disch := omega) [if_pos, if_neg, wrap_i64, wrap_u8, impl_Size.b, hP]
  | true =>
    rw [hk] at hP
    simp (maxSteps := 1000000) (disch := omega) [if_pos, if_neg, wrap_i64, wrap_u8, impl_Size.b, hP]
theorem specSize (y : KSys) (hw : (KSys.w y : Int) ≤ 1048576) : A 45 [.agg (KSys.row false y)] = some ([.leaf (.int .i64 (bigB y))], [.gone]) := by
  have hP := specSysOk y hw
  obtain ⟨w1, w2, w3, w4⟩ := sysw hw
  refine run_spec_Size ?_
  unfold bigB
  cases hk : sysB y with
  | false =>
    rw [hk] at hP
    simp (maxSteps := 1000000) (disch := omega) [if_pos, if_neg, wrap_i64, wrap_u8, spec_Size.b, hP]
  | true =>
    rw [hk] at hP
    simp (maxSteps := 1000000) (disch := omega) [if_pos, if_neg, wrap_i64, wrap_u8, spec_Size.b, hP]
end Go.Proofs.YtjjfodoafefohaaGreatDoor.SZ
