/- Arguments that can be read fit what their sizes are asked of (printed by fits.py). -/
import Derived.Test.YtohbmodoiindgaaDoorSTOpen
import Derived.Test.YtohbmodoiindgaaDoorSTFam
namespace Go.Proofs.YtohbmodoiindgaaDoor.ST
open Go Go.VS Go.RowKit
set_option linter.unusedVariables false
set_option linter.unusedSimpArgs false
theorem len_fit {n b : Nat} (h : n * b ≤ 140737488351232) (hb : 1 ≤ b) : (n : Int) ≤ 1000000000000000 := by
  have := Nat.le_mul_of_pos_right n hb
  omega
theorem pos43_bytes9 : 1 ≤ bytes9 := of_decide_eq_true (by kernel_rfl)
theorem fitS43 {xs : List ByteArray} (h : okS43 xs) : (xs.length : Int) ≤ 1000000000000000 ∧ strsFit xs := ⟨len_fit h.2 pos43_bytes9, strsFit_of h.1⟩
theorem pos69_bytes3 : 1 ≤ bytes3 := of_decide_eq_true (by kernel_rfl)
theorem fitS69 {xs : List Int} (h : okS69 xs) : (xs.length : Int) ≤ 1000000000000000 := len_fit h.2 pos69_bytes3
theorem fit90 {x : KNode} (h : ok90 x) : KNode.fit x := by
  obtain ⟨h0, h1, h2, h3, h4⟩ := h
  exact ⟨Int.le_trans (Int.ofNat_le.2 h2) (by decide), (fitS43 h3).1, (fitS43 h3).2, fitS69 h4, trivial⟩
theorem pos39_bytes90 : 1 ≤ bytes90 := of_decide_eq_true (by kernel_rfl)
theorem fitS39 {xs : List KNode} (h : okS39 xs) : (xs.length : Int) ≤ 1000000000000000 ∧ KNode.fits xs := ⟨len_fit h.2 pos39_bytes90, KNode.fits_of fun x hx => fit90 (h.1 x hx)⟩
theorem fit41 {x : KProg} (h : ok41 x) : KProg.fit x := by
  obtain ⟨h0, h1⟩ := h
  exact ⟨(fitS39 h0).1, (fitS39 h0).2, trivial⟩
end Go.Proofs.YtohbmodoiindgaaDoor.ST
