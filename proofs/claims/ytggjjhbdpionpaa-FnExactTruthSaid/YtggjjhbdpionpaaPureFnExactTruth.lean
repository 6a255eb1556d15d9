/- Truth of the program and of the reference answer alike for every value, and the value is left as it was. No condition. -/
import Derived.Test.YtggjjhbdpionpaaPFnExactTruthq
namespace Go.Proofs.Ytggjjhbdpionpaa.Pure
open Go.RowKit Go.Proofs.Ytggjjhbdpionpaa.PFnExactTruth Go.Proofs.YtggjjhbdpionpaaW.PrintWords Go.Proofs.YtggjjhbdpionpaaW.PrintLast Go.Proofs.YtggjjhbdpionpaaW.PrintMore

theorem FnExactTruth : laws_FnExactTruth.Pure := by
  intro x _
  unfold laws_FnExactTruth.f laws_szValue.f laws_toValue.f spec_Truth.f impl_Truth.f
  by_cases h : wrap64 (1048576 - (x.f2.size : Int)) < 0
  · simp [h]
  · simp [h]

end Go.Proofs.Ytggjjhbdpionpaa.Pure
