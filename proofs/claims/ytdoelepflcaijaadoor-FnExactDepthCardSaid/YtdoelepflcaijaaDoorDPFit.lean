/- Arguments that can be read fit what their sizes are asked of (printed by fits.py). -/
import Derived.Test.YtdoelepflcaijaaDoorDPOpen
import Derived.Test.YtdoelepflcaijaaDoorDPFam
namespace Go.Proofs.YtdoelepflcaijaaDoor.DP
open Go Go.VS Go.RowKit
set_option linter.unusedVariables false
set_option linter.unusedSimpArgs false
theorem len_fit {n b : Nat} (h : n * b ≤ 140737488351232) (hb : 1 ≤ b) : (n : Int) ≤ 1000000000000000 := by
  have := Nat.le_mul_of_pos_right n hb
  omega
theorem pos108_bytes9 : 1 ≤ bytes9 := of_decide_eq_true (by kernel_rfl)
theorem fitS108 {xs : List ByteArray} (h : okS108 xs) : (xs.length : Int) ≤ 1000000000000000 ∧ strsFit xs := ⟨len_fit h.2 pos108_bytes9, strsFit_of h.1⟩
theorem pos23_bytes3 : 1 ≤ bytes3 := of_decide_eq_true (by kernel_rfl)
theorem fitS23 {xs : List Int} (h : okS23 xs) : (xs.length : Int) ≤ 1000000000000000 := len_fit h.2 pos23_bytes3
theorem fit159 {x : KNode} (h : ok159 x) : KNode.fit x := by
  obtain ⟨h0, h1, h2, h3, h4⟩ := h
  exact ⟨Int.le_trans (Int.ofNat_le.2 h2) (by decide), (fitS108 h3).1, (fitS108 h3).2, fitS23 h4, trivial⟩
theorem pos59_bytes159 : 1 ≤ bytes159 := of_decide_eq_true (by kernel_rfl)
theorem fitS59 {xs : List KNode} (h : okS59 xs) : (xs.length : Int) ≤ 1000000000000000 ∧ KNode.fits xs := ⟨len_fit h.2 pos59_bytes159, KNode.fits_of fun x hx => fit159 (h.1 x hx)⟩
theorem fit61 {x : KProg} (h : ok61 x) : KProg.fit x := by
  obtain ⟨h0, h1⟩ := h
  exact ⟨(fitS59 h0).1, (fitS59 h0).2, trivial⟩
end Go.Proofs.YtdoelepflcaijaaDoor.DP
