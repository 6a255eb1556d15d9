/- Arguments that can be read fit what their sizes are asked of (printed by fits.py). -/
import Derived.Test.YtjjfodoafefohaaGreatDoorCMOpen
import Derived.Test.YtjjfodoafefohaaGreatDoorCMFam
namespace Go.Proofs.YtjjfodoafefohaaGreatDoor.CM
open Go Go.VS Go.RowKit
set_option linter.unusedVariables false
set_option linter.unusedSimpArgs false
theorem len_fit {n b : Nat} (h : n * b ≤ 140737488351232) (hb : 1 ≤ b) : (n : Int) ≤ 1000000000000000 := by
  have := Nat.le_mul_of_pos_right n hb
  omega
theorem pos26_bytes9 : 1 ≤ bytes9 := of_decide_eq_true (by kernel_rfl)
theorem fitS26 {xs : List ByteArray} (h : okS26 xs) : (xs.length : Int) ≤ 1000000000000000 ∧ strsFit xs := ⟨len_fit h.2 pos26_bytes9, strsFit_of h.1⟩
theorem fit172 {x : KType} (h : ok172 x) : KType.fit x := by
  obtain ⟨h0, h1⟩ := h
  exact ⟨Int.le_trans (Int.ofNat_le.2 h0) (by decide), trivial⟩
theorem pos41_bytes172 : 1 ≤ bytes172 := of_decide_eq_true (by kernel_rfl)
theorem fitS41 {xs : List KType} (h : okS41 xs) : (xs.length : Int) ≤ 1000000000000000 ∧ KType.fits xs := ⟨len_fit h.2 pos41_bytes172, KType.fits_of fun x hx => fit172 (h.1 x hx)⟩
theorem pos141_bytes3 : 1 ≤ bytes3 := of_decide_eq_true (by kernel_rfl)
theorem fitS141 {xs : List Int} (h : okS141 xs) : (xs.length : Int) ≤ 1000000000000000 := len_fit h.2 pos141_bytes3
theorem fit154 {x : KNode} (h : ok154 x) : KNode.fit x := by
  obtain ⟨h0, h1, h2, h3, h4⟩ := h
  exact ⟨Int.le_trans (Int.ofNat_le.2 h2) (by decide), (fitS26 h3).1, (fitS26 h3).2, fitS141 h4, trivial⟩
theorem pos22_bytes154 : 1 ≤ bytes154 := of_decide_eq_true (by kernel_rfl)
theorem fitS22 {xs : List KNode} (h : okS22 xs) : (xs.length : Int) ≤ 1000000000000000 ∧ KNode.fits xs := ⟨len_fit h.2 pos22_bytes154, KNode.fits_of fun x hx => fit154 (h.1 x hx)⟩
theorem fit24 {x : KProg} (h : ok24 x) : KProg.fit x := by
  obtain ⟨h0, h1⟩ := h
  exact ⟨(fitS22 h0).1, (fitS22 h0).2, trivial⟩
theorem fit175 {x : KDef} (h : ok175 x) : KDef.fit x := by
  obtain ⟨h0, h1⟩ := h
  exact ⟨Int.le_trans (Int.ofNat_le.2 h0) (by decide), fit24 h1, trivial⟩
theorem pos42_bytes175 : 1 ≤ bytes175 := of_decide_eq_true (by kernel_rfl)
theorem fitS42 {xs : List KDef} (h : okS42 xs) : (xs.length : Int) ≤ 1000000000000000 ∧ KDef.fits xs := ⟨len_fit h.2 pos42_bytes175, KDef.fits_of fun x hx => fit175 (h.1 x hx)⟩
theorem fit44 {x : KSrc} (h : ok44 x) : KSrc.fit x := by
  obtain ⟨h0, h1, h2, h3, h4, h5⟩ := h
  exact ⟨Int.le_trans (Int.ofNat_le.2 h0) (by decide), (fitS26 h1).1, (fitS26 h1).2, (fitS26 h2).1, (fitS26 h2).2, (fitS41 h3).1, (fitS41 h3).2, (fitS42 h4).1, (fitS42 h4).2, (fitS42 h5).1, (fitS42 h5).2, trivial⟩
end Go.Proofs.YtjjfodoafefohaaGreatDoor.CM
