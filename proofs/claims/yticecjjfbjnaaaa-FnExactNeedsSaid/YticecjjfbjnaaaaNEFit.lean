/- Arguments that can be read fit what their sizes are asked of (printed by fits.py). -/
import Derived.Test.YticecjjfbjnaaaaNEOpen
import Derived.Test.YticecjjfbjnaaaaNEFam
namespace Go.Proofs.Yticecjjfbjnaaaa.NE
open Go Go.VS Go.RowKit
set_option linter.unusedVariables false
set_option linter.unusedSimpArgs false
theorem len_fit {n b : Nat} (h : n * b ≤ 140737488351232) (hb : 1 ≤ b) : (n : Int) ≤ 1000000000000000 := by
  have := Nat.le_mul_of_pos_right n hb
  omega
theorem pos24_bytes9 : 1 ≤ bytes9 := of_decide_eq_true (by kernel_rfl)
theorem fitS24 {xs : List ByteArray} (h : okS24 xs) : (xs.length : Int) ≤ 1000000000000000 ∧ strsFit xs := ⟨len_fit h.2 pos24_bytes9, strsFit_of h.1⟩
theorem fit78 {x : KType} (h : ok78 x) : KType.fit x := by
  obtain ⟨h0, h1⟩ := h
  exact ⟨Int.le_trans (Int.ofNat_le.2 h0) (by decide), trivial⟩
theorem pos34_bytes78 : 1 ≤ bytes78 := of_decide_eq_true (by kernel_rfl)
theorem fitS34 {xs : List KType} (h : okS34 xs) : (xs.length : Int) ≤ 1000000000000000 ∧ KType.fits xs := ⟨len_fit h.2 pos34_bytes78, KType.fits_of fun x hx => fit78 (h.1 x hx)⟩
theorem pos102_bytes3 : 1 ≤ bytes3 := of_decide_eq_true (by kernel_rfl)
theorem fitS102 {xs : List Int} (h : okS102 xs) : (xs.length : Int) ≤ 1000000000000000 := len_fit h.2 pos102_bytes3
theorem fit122 {x : KNode} (h : ok122 x) : KNode.fit x := by
  obtain ⟨h0, h1, h2, h3, h4⟩ := h
  exact ⟨Int.le_trans (Int.ofNat_le.2 h2) (by decide), (fitS24 h3).1, (fitS24 h3).2, fitS102 h4, trivial⟩
theorem pos80_bytes122 : 1 ≤ bytes122 := of_decide_eq_true (by kernel_rfl)
theorem fitS80 {xs : List KNode} (h : okS80 xs) : (xs.length : Int) ≤ 1000000000000000 ∧ KNode.fits xs := ⟨len_fit h.2 pos80_bytes122, KNode.fits_of fun x hx => fit122 (h.1 x hx)⟩
theorem fit82 {x : KProg} (h : ok82 x) : KProg.fit x := by
  obtain ⟨h0, h1⟩ := h
  exact ⟨(fitS80 h0).1, (fitS80 h0).2, trivial⟩
theorem fit84 {x : KDef} (h : ok84 x) : KDef.fit x := by
  obtain ⟨h0, h1⟩ := h
  exact ⟨Int.le_trans (Int.ofNat_le.2 h0) (by decide), fit82 h1, trivial⟩
theorem pos35_bytes84 : 1 ≤ bytes84 := of_decide_eq_true (by kernel_rfl)
theorem fitS35 {xs : List KDef} (h : okS35 xs) : (xs.length : Int) ≤ 1000000000000000 ∧ KDef.fits xs := ⟨len_fit h.2 pos35_bytes84, KDef.fits_of fun x hx => fit84 (h.1 x hx)⟩
theorem fit37 {x : KSrc} (h : ok37 x) : KSrc.fit x := by
  obtain ⟨h0, h1, h2, h3, h4, h5⟩ := h
  exact ⟨Int.le_trans (Int.ofNat_le.2 h0) (by decide), (fitS24 h1).1, (fitS24 h1).2, (fitS24 h2).1, (fitS24 h2).2, (fitS34 h3).1, (fitS34 h3).2, (fitS35 h4).1, (fitS35 h4).2, (fitS35 h5).1, (fitS35 h5).2, trivial⟩
theorem pos22_bytes37 : 1 ≤ bytes37 := of_decide_eq_true (by kernel_rfl)
theorem fitS22 {xs : List KSrc} (h : okS22 xs) : (xs.length : Int) ≤ 1000000000000000 ∧ KSrc.fits xs := ⟨len_fit h.2 pos22_bytes37, KSrc.fits_of fun x hx => fit37 (h.1 x hx)⟩
end Go.Proofs.Yticecjjfbjnaaaa.NE
