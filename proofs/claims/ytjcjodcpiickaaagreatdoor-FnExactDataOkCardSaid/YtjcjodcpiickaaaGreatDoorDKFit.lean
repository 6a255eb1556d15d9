/- Arguments that can be read fit what their sizes are asked of (printed by fits.py). -/
import Derived.Test.YtjcjodcpiickaaaGreatDoorDKOpen
import Derived.Test.YtjcjodcpiickaaaGreatDoorDKFam
namespace Go.Proofs.YtjcjodcpiickaaaGreatDoor.DK
open Go Go.VS Go.RowKit
set_option linter.unusedVariables false
set_option linter.unusedSimpArgs false
theorem len_fit {n b : Nat} (h : n * b ≤ 140737488351232) (hb : 1 ≤ b) : (n : Int) ≤ 1000000000000000 := by
  have := Nat.le_mul_of_pos_right n hb
  omega
theorem fit204 {x : KDatum} (h : ok204 x) : KDatum.fit x := by
  obtain ⟨h0, h1, h2, h3, h4⟩ := h
  exact ⟨Int.le_trans (Int.ofNat_le.2 h2) (by decide), trivial⟩
theorem pos46_bytes204 : 1 ≤ bytes204 := of_decide_eq_true (by kernel_rfl)
theorem fitS46 {xs : List KDatum} (h : okS46 xs) : (xs.length : Int) ≤ 1000000000000000 ∧ KDatum.fits xs := ⟨len_fit h.2 pos46_bytes204, KDatum.fits_of fun x hx => fit204 (h.1 x hx)⟩
theorem pos26_bytes3 : 1 ≤ bytes3 := of_decide_eq_true (by kernel_rfl)
theorem fitS26 {xs : List Int} (h : okS26 xs) : (xs.length : Int) ≤ 1000000000000000 := len_fit h.2 pos26_bytes3
theorem fit48 {x : KData} (h : ok48 x) : KData.fit x := by
  obtain ⟨h0, h1⟩ := h
  exact ⟨(fitS46 h0).1, (fitS46 h0).2, fitS26 h1, trivial⟩
end Go.Proofs.YtjcjodcpiickaaaGreatDoor.DK
