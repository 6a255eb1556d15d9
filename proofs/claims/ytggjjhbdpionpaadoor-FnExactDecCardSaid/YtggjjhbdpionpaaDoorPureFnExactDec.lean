import Derived.Test.YtggjjhbdpionpaaDoorPFnExactDecDec
/- FnExactDec: the program's decimal text and the reference's are the same. -/
namespace Go.Proofs.YtggjjhbdpionpaaDoor.Pure
open Go.RowKit Go.Proofs.YtggjjhbdpionpaaDoor.Aux Go.Proofs.YtggjjhbdpionpaaDoor.PFnExactDec

theorem FnExactDec : laws_FnExactDec.Pure := by
  intro n hn
  have hn' : -9223372036854775808 ≤ n ∧ n ≤ 9223372036854775807 := by
    have := wf64 hn
    omega
  obtain ⟨k, hk⟩ := spec_dec_is n (by omega) (by omega)
  refine ⟨k, ?_⟩
  unfold laws_FnExactDec.f impl_Dec.f strconv_Itoa.f
  rw [show spec_Dec.f k n = some (str (Go.Lib.itoa n)) from hk k (Nat.le_refl k), if_pos hn']
  simp only [Option.bind_some]
  rw [if_pos (show (⟨(Go.Lib.itoa n).toArray⟩ : ByteArray).toList = (str (Go.Lib.itoa n)).toList from rfl)]

end Go.Proofs.YtggjjhbdpionpaaDoor.Pure
