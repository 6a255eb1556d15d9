/- Arguments that can be read fit what their sizes are asked of (printed by fits.py). -/
import Derived.Test.YtjjfodoafefohaaDoorALOpen
import Derived.Test.YtjjfodoafefohaaDoorALFam
namespace Go.Proofs.YtjjfodoafefohaaDoor.AL
open Go Go.VS Go.RowKit
set_option linter.unusedVariables false
set_option linter.unusedSimpArgs false
theorem len_fit {n b : Nat} (h : n * b ≤ 140737488351232) (hb : 1 ≤ b) : (n : Int) ≤ 1000000000000000 := by
  have := Nat.le_mul_of_pos_right n hb
  omega
theorem pos41_bytes9 : 1 ≤ bytes9 := of_decide_eq_true (by kernel_rfl)
theorem fitS41 {xs : List ByteArray} (h : okS41 xs) : (xs.length : Int) ≤ 1000000000000000 ∧ strsFit xs := ⟨len_fit h.2 pos41_bytes9, strsFit_of h.1⟩
theorem fit24 {x : KValue} (h : ok24 x) : KValue.fit x := by
  obtain ⟨h0, h1, h2⟩ := h
  exact ⟨Int.le_trans (Int.ofNat_le.2 h2) (by decide), trivial⟩
theorem pos42_bytes24 : 1 ≤ bytes24 := of_decide_eq_true (by kernel_rfl)
theorem fitS42 {xs : List KValue} (h : okS42 xs) : (xs.length : Int) ≤ 1000000000000000 ∧ KValue.fits xs := ⟨len_fit h.2 pos42_bytes24, KValue.fits_of fun x hx => fit24 (h.1 x hx)⟩
theorem fit44 {x : KCell} (h : ok44 x) : KCell.fit x := by
  obtain ⟨h0, h1, h2, h3, h4, h5⟩ := h
  exact ⟨Int.le_trans (Int.ofNat_le.2 h1) (by decide), (fitS41 h4).1, (fitS41 h4).2, (fitS42 h5).1, (fitS42 h5).2, trivial⟩
theorem pos22_bytes44 : 1 ≤ bytes44 := of_decide_eq_true (by kernel_rfl)
theorem fitS22 {xs : List KCell} (h : okS22 xs) : (xs.length : Int) ≤ 1000000000000000 ∧ KCell.fits xs := ⟨len_fit h.2 pos22_bytes44, KCell.fits_of fun x hx => fit44 (h.1 x hx)⟩
end Go.Proofs.YtjjfodoafefohaaDoor.AL
