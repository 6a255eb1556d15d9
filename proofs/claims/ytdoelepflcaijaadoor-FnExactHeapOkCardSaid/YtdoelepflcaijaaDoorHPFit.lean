/- Arguments that can be read fit what their sizes are asked of (printed by fits.py). -/
import Derived.Test.YtdoelepflcaijaaDoorHPOpen
import Derived.Test.YtdoelepflcaijaaDoorHPFam
namespace Go.Proofs.YtdoelepflcaijaaDoor.HP
open Go Go.VS Go.RowKit
set_option linter.unusedVariables false
set_option linter.unusedSimpArgs false
theorem len_fit {n b : Nat} (h : n * b ≤ 140737488351232) (hb : 1 ≤ b) : (n : Int) ≤ 1000000000000000 := by
  have := Nat.le_mul_of_pos_right n hb
  omega
theorem pos108_bytes9 : 1 ≤ bytes9 := of_decide_eq_true (by kernel_rfl)
theorem fitS108 {xs : List ByteArray} (h : okS108 xs) : (xs.length : Int) ≤ 1000000000000000 ∧ strsFit xs := ⟨len_fit h.2 pos108_bytes9, strsFit_of h.1⟩
theorem fit178 {x : KValue} (h : ok178 x) : KValue.fit x := by
  obtain ⟨h0, h1, h2⟩ := h
  exact ⟨Int.le_trans (Int.ofNat_le.2 h2) (by decide), trivial⟩
theorem pos109_bytes178 : 1 ≤ bytes178 := of_decide_eq_true (by kernel_rfl)
theorem fitS109 {xs : List KValue} (h : okS109 xs) : (xs.length : Int) ≤ 1000000000000000 ∧ KValue.fits xs := ⟨len_fit h.2 pos109_bytes178, KValue.fits_of fun x hx => fit178 (h.1 x hx)⟩
theorem fit111 {x : KCell} (h : ok111 x) : KCell.fit x := by
  obtain ⟨h0, h1, h2, h3, h4, h5⟩ := h
  exact ⟨Int.le_trans (Int.ofNat_le.2 h1) (by decide), (fitS108 h4).1, (fitS108 h4).2, (fitS109 h5).1, (fitS109 h5).2, trivial⟩
theorem pos52_bytes111 : 1 ≤ bytes111 := of_decide_eq_true (by kernel_rfl)
theorem fitS52 {xs : List KCell} (h : okS52 xs) : (xs.length : Int) ≤ 1000000000000000 ∧ KCell.fits xs := ⟨len_fit h.2 pos52_bytes111, KCell.fits_of fun x hx => fit111 (h.1 x hx)⟩
end Go.Proofs.YtdoelepflcaijaaDoor.HP
