/- Arguments that can be read fit what their sizes are asked of (printed by fits.py). -/
import Derived.Test.YtjjfodoafefohaaGreatDoorSZOpen
import Derived.Test.YtjjfodoafefohaaGreatDoorSZFam
namespace Go.Proofs.YtjjfodoafefohaaGreatDoor.SZ
open Go Go.VS Go.RowKit
set_option linter.unusedVariables false
set_option linter.unusedSimpArgs false
theorem len_fit {n b : Nat} (h : n * b ≤ 140737488351232) (hb : 1 ≤ b) : (n : Int) ≤ 1000000000000000 := by
  have := Nat.le_mul_of_pos_right n hb
  omega
theorem pos26_bytes9 : 1 ≤ bytes9 := of_decide_eq_true (by kernel_rfl)
theorem fitS26 {xs : List ByteArray} (h : okS26 xs) : (xs.length : Int) ≤ 1000000000000000 ∧ strsFit xs := ⟨len_fit h.2 pos26_bytes9, strsFit_of h.1⟩
theorem fit250 {x : KValue} (h : ok250 x) : KValue.fit x := by
  obtain ⟨h0, h1, h2⟩ := h
  exact ⟨Int.le_trans (Int.ofNat_le.2 h2) (by decide), trivial⟩
theorem pos189_bytes250 : 1 ≤ bytes250 := of_decide_eq_true (by kernel_rfl)
theorem fitS189 {xs : List KValue} (h : okS189 xs) : (xs.length : Int) ≤ 1000000000000000 ∧ KValue.fits xs := ⟨len_fit h.2 pos189_bytes250, KValue.fits_of fun x hx => fit250 (h.1 x hx)⟩
theorem fit191 {x : KCell} (h : ok191 x) : KCell.fit x := by
  obtain ⟨h0, h1, h2, h3, h4, h5⟩ := h
  exact ⟨Int.le_trans (Int.ofNat_le.2 h1) (by decide), (fitS26 h4).1, (fitS26 h4).2, (fitS189 h5).1, (fitS189 h5).2, trivial⟩
theorem pos66_bytes191 : 1 ≤ bytes191 := of_decide_eq_true (by kernel_rfl)
theorem fitS66 {xs : List KCell} (h : okS66 xs) : (xs.length : Int) ≤ 1000000000000000 ∧ KCell.fits xs := ⟨len_fit h.2 pos66_bytes191, KCell.fits_of fun x hx => fit191 (h.1 x hx)⟩
theorem fit252 {x : KLink} (h : ok252 x) : KLink.fit x := by
  obtain ⟨h0, h1, h2⟩ := h
  exact ⟨Int.le_trans (Int.ofNat_le.2 h0) (by decide), Int.le_trans (Int.ofNat_le.2 h2) (by decide), trivial⟩
theorem pos193_bytes252 : 1 ≤ bytes252 := of_decide_eq_true (by kernel_rfl)
theorem fitS193 {xs : List KLink} (h : okS193 xs) : (xs.length : Int) ≤ 1000000000000000 ∧ KLink.fits xs := ⟨len_fit h.2 pos193_bytes252, KLink.fits_of fun x hx => fit252 (h.1 x hx)⟩
theorem fit172 {x : KType} (h : ok172 x) : KType.fit x := by
  obtain ⟨h0, h1⟩ := h
  exact ⟨Int.le_trans (Int.ofNat_le.2 h0) (by decide), trivial⟩
theorem pos41_bytes172 : 1 ≤ bytes172 := of_decide_eq_true (by kernel_rfl)
theorem fitS41 {xs : List KType} (h : okS41 xs) : (xs.length : Int) ≤ 1000000000000000 ∧ KType.fits xs := ⟨len_fit h.2 pos41_bytes172, KType.fits_of fun x hx => fit172 (h.1 x hx)⟩
theorem fit195 {x : KInst} (h : ok195 x) : KInst.fit x := by
  obtain ⟨h0, h1, h2, h3, h4, h5⟩ := h
  exact ⟨Int.le_trans (Int.ofNat_le.2 h0) (by decide), (fitS26 h2).1, (fitS26 h2).2, (fitS189 h3).1, (fitS189 h3).2, (fitS193 h4).1, (fitS193 h4).2, (fitS41 h5).1, (fitS41 h5).2, trivial⟩
theorem pos67_bytes195 : 1 ≤ bytes195 := of_decide_eq_true (by kernel_rfl)
theorem fitS67 {xs : List KInst} (h : okS67 xs) : (xs.length : Int) ≤ 1000000000000000 ∧ KInst.fits xs := ⟨len_fit h.2 pos67_bytes195, KInst.fits_of fun x hx => fit195 (h.1 x hx)⟩
theorem pos141_bytes3 : 1 ≤ bytes3 := of_decide_eq_true (by kernel_rfl)
theorem fitS141 {xs : List Int} (h : okS141 xs) : (xs.length : Int) ≤ 1000000000000000 := len_fit h.2 pos141_bytes3
theorem fit154 {x : KNode} (h : ok154 x) : KNode.fit x := by
  obtain ⟨h0, h1, h2, h3, h4⟩ := h
  exact ⟨Int.le_trans (Int.ofNat_le.2 h2) (by decide), (fitS26 h3).1, (fitS26 h3).2, fitS141 h4, trivial⟩
theorem pos22_bytes154 : 1 ≤ bytes154 := of_decide_eq_true (by kernel_rfl)
theorem fitS22 {xs : List KNode} (h : okS22 xs) : (xs.length : Int) ≤ 1000000000000000 ∧ KNode.fits xs := ⟨len_fit h.2 pos22_bytes154, KNode.fits_of fun x hx => fit154 (h.1 x hx)⟩
theorem fit24 {x : KProg} (h : ok24 x) : KProg.fit x := by
  obtain ⟨h0, h1⟩ := h
  exact ⟨(fitS22 h0).1, (fitS22 h0).2, trivial⟩
theorem fit198 {x : KUnit} (h : ok198 x) : KUnit.fit x := by
  obtain ⟨h0, h1⟩ := h
  exact ⟨fit24 h1, trivial⟩
theorem pos68_bytes198 : 1 ≤ bytes198 := of_decide_eq_true (by kernel_rfl)
theorem fitS68 {xs : List KUnit} (h : okS68 xs) : (xs.length : Int) ≤ 1000000000000000 ∧ KUnit.fits xs := ⟨len_fit h.2 pos68_bytes198, KUnit.fits_of fun x hx => fit198 (h.1 x hx)⟩
theorem fit70 {x : KSys} (h : ok70 x) : KSys.fit x := by
  obtain ⟨h0, h1, h2, h3⟩ := h
  exact ⟨(fitS66 h0).1, (fitS66 h0).2, (fitS67 h1).1, (fitS67 h1).2, (fitS68 h2).1, (fitS68 h2).2, (fitS26 h3).1, (fitS26 h3).2, trivial⟩
end Go.Proofs.YtjjfodoafefohaaGreatDoor.SZ
