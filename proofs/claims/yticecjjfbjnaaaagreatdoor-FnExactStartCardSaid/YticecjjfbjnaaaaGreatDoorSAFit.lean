/- Arguments that can be read fit what their sizes are asked of (printed by fits.py). -/
import Derived.Test.YticecjjfbjnaaaaGreatDoorSAOpen
import Derived.Test.YticecjjfbjnaaaaGreatDoorSAFam
namespace Go.Proofs.YticecjjfbjnaaaaGreatDoor.SA
open Go Go.VS Go.RowKit
set_option linter.unusedVariables false
set_option linter.unusedSimpArgs false
theorem len_fit {n b : Nat} (h : n * b ≤ 140737488351232) (hb : 1 ≤ b) : (n : Int) ≤ 1000000000000000 := by
  have := Nat.le_mul_of_pos_right n hb
  omega
theorem pos39_bytes9 : 1 ≤ bytes9 := of_decide_eq_true (by kernel_rfl)
theorem fitS39 {xs : List ByteArray} (h : okS39 xs) : (xs.length : Int) ≤ 1000000000000000 ∧ strsFit xs := ⟨len_fit h.2 pos39_bytes9, strsFit_of h.1⟩
theorem fit274 {x : KValue} (h : ok274 x) : KValue.fit x := by
  obtain ⟨h0, h1, h2⟩ := h
  exact ⟨Int.le_trans (Int.ofNat_le.2 h2) (by decide), trivial⟩
theorem pos180_bytes274 : 1 ≤ bytes274 := of_decide_eq_true (by kernel_rfl)
theorem fitS180 {xs : List KValue} (h : okS180 xs) : (xs.length : Int) ≤ 1000000000000000 ∧ KValue.fits xs := ⟨len_fit h.2 pos180_bytes274, KValue.fits_of fun x hx => fit274 (h.1 x hx)⟩
theorem fit182 {x : KCell} (h : ok182 x) : KCell.fit x := by
  obtain ⟨h0, h1, h2, h3, h4, h5⟩ := h
  exact ⟨Int.le_trans (Int.ofNat_le.2 h1) (by decide), (fitS39 h4).1, (fitS39 h4).2, (fitS180 h5).1, (fitS180 h5).2, trivial⟩
theorem pos62_bytes182 : 1 ≤ bytes182 := of_decide_eq_true (by kernel_rfl)
theorem fitS62 {xs : List KCell} (h : okS62 xs) : (xs.length : Int) ≤ 1000000000000000 ∧ KCell.fits xs := ⟨len_fit h.2 pos62_bytes182, KCell.fits_of fun x hx => fit182 (h.1 x hx)⟩
theorem fit276 {x : KLink} (h : ok276 x) : KLink.fit x := by
  obtain ⟨h0, h1, h2⟩ := h
  exact ⟨Int.le_trans (Int.ofNat_le.2 h0) (by decide), Int.le_trans (Int.ofNat_le.2 h2) (by decide), trivial⟩
theorem pos184_bytes276 : 1 ≤ bytes276 := of_decide_eq_true (by kernel_rfl)
theorem fitS184 {xs : List KLink} (h : okS184 xs) : (xs.length : Int) ≤ 1000000000000000 ∧ KLink.fits xs := ⟨len_fit h.2 pos184_bytes276, KLink.fits_of fun x hx => fit276 (h.1 x hx)⟩
theorem fit278 {x : KType} (h : ok278 x) : KType.fit x := by
  obtain ⟨h0, h1⟩ := h
  exact ⟨Int.le_trans (Int.ofNat_le.2 h0) (by decide), trivial⟩
theorem pos185_bytes278 : 1 ≤ bytes278 := of_decide_eq_true (by kernel_rfl)
theorem fitS185 {xs : List KType} (h : okS185 xs) : (xs.length : Int) ≤ 1000000000000000 ∧ KType.fits xs := ⟨len_fit h.2 pos185_bytes278, KType.fits_of fun x hx => fit278 (h.1 x hx)⟩
theorem fit187 {x : KInst} (h : ok187 x) : KInst.fit x := by
  obtain ⟨h0, h1, h2, h3, h4, h5⟩ := h
  exact ⟨Int.le_trans (Int.ofNat_le.2 h0) (by decide), (fitS39 h2).1, (fitS39 h2).2, (fitS180 h3).1, (fitS180 h3).2, (fitS184 h4).1, (fitS184 h4).2, (fitS185 h5).1, (fitS185 h5).2, trivial⟩
theorem pos63_bytes187 : 1 ≤ bytes187 := of_decide_eq_true (by kernel_rfl)
theorem fitS63 {xs : List KInst} (h : okS63 xs) : (xs.length : Int) ≤ 1000000000000000 ∧ KInst.fits xs := ⟨len_fit h.2 pos63_bytes187, KInst.fits_of fun x hx => fit187 (h.1 x hx)⟩
theorem pos56_bytes3 : 1 ≤ bytes3 := of_decide_eq_true (by kernel_rfl)
theorem fitS56 {xs : List Int} (h : okS56 xs) : (xs.length : Int) ≤ 1000000000000000 := len_fit h.2 pos56_bytes3
theorem fit166 {x : KNode} (h : ok166 x) : KNode.fit x := by
  obtain ⟨h0, h1, h2, h3, h4⟩ := h
  exact ⟨Int.le_trans (Int.ofNat_le.2 h2) (by decide), (fitS39 h3).1, (fitS39 h3).2, fitS56 h4, trivial⟩
theorem pos35_bytes166 : 1 ≤ bytes166 := of_decide_eq_true (by kernel_rfl)
theorem fitS35 {xs : List KNode} (h : okS35 xs) : (xs.length : Int) ≤ 1000000000000000 ∧ KNode.fits xs := ⟨len_fit h.2 pos35_bytes166, KNode.fits_of fun x hx => fit166 (h.1 x hx)⟩
theorem fit37 {x : KProg} (h : ok37 x) : KProg.fit x := by
  obtain ⟨h0, h1⟩ := h
  exact ⟨(fitS35 h0).1, (fitS35 h0).2, trivial⟩
theorem fit190 {x : KUnit} (h : ok190 x) : KUnit.fit x := by
  obtain ⟨h0, h1⟩ := h
  exact ⟨fit37 h1, trivial⟩
theorem pos64_bytes190 : 1 ≤ bytes190 := of_decide_eq_true (by kernel_rfl)
theorem fitS64 {xs : List KUnit} (h : okS64 xs) : (xs.length : Int) ≤ 1000000000000000 ∧ KUnit.fits xs := ⟨len_fit h.2 pos64_bytes190, KUnit.fits_of fun x hx => fit190 (h.1 x hx)⟩
theorem fit66 {x : KSys} (h : ok66 x) : KSys.fit x := by
  obtain ⟨h0, h1, h2, h3⟩ := h
  exact ⟨(fitS62 h0).1, (fitS62 h0).2, (fitS63 h1).1, (fitS63 h1).2, (fitS64 h2).1, (fitS64 h2).2, (fitS39 h3).1, (fitS39 h3).2, trivial⟩
end Go.Proofs.YticecjjfbjnaaaaGreatDoor.SA
