/- Arguments that can be read fit what their sizes are asked of (printed by fits.py). -/
import Derived.Test.YticecjjfbjnaaaaGreatDoorPROpen
import Derived.Test.YticecjjfbjnaaaaGreatDoorPRFam
namespace Go.Proofs.YticecjjfbjnaaaaGreatDoor.PR
open Go Go.VS Go.RowKit
set_option linter.unusedVariables false
set_option linter.unusedSimpArgs false
theorem len_fit {n b : Nat} (h : n * b ≤ 140737488351232) (hb : 1 ≤ b) : (n : Int) ≤ 1000000000000000 := by
  have := Nat.le_mul_of_pos_right n hb
  omega
theorem pos39_bytes9 : 1 ≤ bytes9 := of_decide_eq_true (by kernel_rfl)
theorem fitS39 {xs : List ByteArray} (h : okS39 xs) : (xs.length : Int) ≤ 1000000000000000 ∧ strsFit xs := ⟨len_fit h.2 pos39_bytes9, strsFit_of h.1⟩
theorem pos56_bytes3 : 1 ≤ bytes3 := of_decide_eq_true (by kernel_rfl)
theorem fitS56 {xs : List Int} (h : okS56 xs) : (xs.length : Int) ≤ 1000000000000000 := len_fit h.2 pos56_bytes3
theorem fit166 {x : KNode} (h : ok166 x) : KNode.fit x := by
  obtain ⟨h0, h1, h2, h3, h4⟩ := h
  exact ⟨Int.le_trans (Int.ofNat_le.2 h2) (by decide), (fitS39 h3).1, (fitS39 h3).2, fitS56 h4, trivial⟩
theorem pos35_bytes166 : 1 ≤ bytes166 := of_decide_eq_true (by kernel_rfl)
theorem fitS35 {xs : List KNode} (h : okS35 xs) : (xs.length : Int) ≤ 1000000000000000 ∧ KNode.fits xs := ⟨len_fit h.2 pos35_bytes166, KNode.fits_of fun x hx => fit166 (h.1 x hx)⟩
theorem fit37 {x : KProg} (h : ok37 x) : KProg.fit x := by
  obtain ⟨h0, h1⟩ := h
  exact ⟨(fitS35 h0).1, (fitS35 h0).2, trivial⟩
end Go.Proofs.YticecjjfbjnaaaaGreatDoor.PR
