/- Arguments that can be read fit what their sizes are asked of (printed by fits.py). -/
import Derived.Test.YthkfnfppihgejaaGreatDoorLNOpen
import Derived.Test.YthkfnfppihgejaaGreatDoorLNFam
namespace Go.Proofs.YthkfnfppihgejaaGreatDoor.LN
open Go Go.VS Go.RowKit
set_option linter.unusedVariables false
set_option linter.unusedSimpArgs false
theorem len_fit {n b : Nat} (h : n * b ≤ 140737488351232) (hb : 1 ≤ b) : (n : Int) ≤ 1000000000000000 := by
  have := Nat.le_mul_of_pos_right n hb
  omega
theorem pos22_bytes9 : 1 ≤ bytes9 := of_decide_eq_true (by kernel_rfl)
theorem fitS22 {xs : List ByteArray} (h : okS22 xs) : (xs.length : Int) ≤ 1000000000000000 ∧ strsFit xs := ⟨len_fit h.2 pos22_bytes9, strsFit_of h.1⟩
theorem fit72 {x : KType} (h : ok72 x) : KType.fit x := by
  obtain ⟨h0, h1⟩ := h
  exact ⟨Int.le_trans (Int.ofNat_le.2 h0) (by decide), trivial⟩
theorem pos23_bytes72 : 1 ≤ bytes72 := of_decide_eq_true (by kernel_rfl)
theorem fitS23 {xs : List KType} (h : okS23 xs) : (xs.length : Int) ≤ 1000000000000000 ∧ KType.fits xs := ⟨len_fit h.2 pos23_bytes72, KType.fits_of fun x hx => fit72 (h.1 x hx)⟩
theorem pos87_bytes3 : 1 ≤ bytes3 := of_decide_eq_true (by kernel_rfl)
theorem fitS87 {xs : List Int} (h : okS87 xs) : (xs.length : Int) ≤ 1000000000000000 := len_fit h.2 pos87_bytes3
theorem fit128 {x : KNode} (h : ok128 x) : KNode.fit x := by
  obtain ⟨h0, h1, h2, h3, h4⟩ := h
  exact ⟨Int.le_trans (Int.ofNat_le.2 h2) (by decide), (fitS22 h3).1, (fitS22 h3).2, fitS87 h4, trivial⟩
theorem pos74_bytes128 : 1 ≤ bytes128 := of_decide_eq_true (by kernel_rfl)
theorem fitS74 {xs : List KNode} (h : okS74 xs) : (xs.length : Int) ≤ 1000000000000000 ∧ KNode.fits xs := ⟨len_fit h.2 pos74_bytes128, KNode.fits_of fun x hx => fit128 (h.1 x hx)⟩
theorem fit76 {x : KProg} (h : ok76 x) : KProg.fit x := by
  obtain ⟨h0, h1⟩ := h
  exact ⟨(fitS74 h0).1, (fitS74 h0).2, trivial⟩
theorem fit78 {x : KDef} (h : ok78 x) : KDef.fit x := by
  obtain ⟨h0, h1⟩ := h
  exact ⟨Int.le_trans (Int.ofNat_le.2 h0) (by decide), fit76 h1, trivial⟩
theorem pos24_bytes78 : 1 ≤ bytes78 := of_decide_eq_true (by kernel_rfl)
theorem fitS24 {xs : List KDef} (h : okS24 xs) : (xs.length : Int) ≤ 1000000000000000 ∧ KDef.fits xs := ⟨len_fit h.2 pos24_bytes78, KDef.fits_of fun x hx => fit78 (h.1 x hx)⟩
theorem fit26 {x : KSrc} (h : ok26 x) : KSrc.fit x := by
  obtain ⟨h0, h1, h2, h3, h4, h5⟩ := h
  exact ⟨Int.le_trans (Int.ofNat_le.2 h0) (by decide), (fitS22 h1).1, (fitS22 h1).2, (fitS22 h2).1, (fitS22 h2).2, (fitS23 h3).1, (fitS23 h3).2, (fitS24 h4).1, (fitS24 h4).2, (fitS24 h5).1, (fitS24 h5).2, trivial⟩
end Go.Proofs.YthkfnfppihgejaaGreatDoor.LN
