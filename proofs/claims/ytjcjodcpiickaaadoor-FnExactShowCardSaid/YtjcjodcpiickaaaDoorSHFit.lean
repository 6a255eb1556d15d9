/- Arguments that can be read fit what their sizes are asked of (printed by fits.py). -/
import Derived.Test.YtjcjodcpiickaaaDoorSHOpen
import Derived.Test.YtjcjodcpiickaaaDoorSHFam
namespace Go.Proofs.YtjcjodcpiickaaaDoor.SH
open Go Go.VS Go.RowKit
set_option linter.unusedVariables false
set_option linter.unusedSimpArgs false
theorem len_fit {n b : Nat} (h : n * b ≤ 140737488351232) (hb : 1 ≤ b) : (n : Int) ≤ 1000000000000000 := by
  have := Nat.le_mul_of_pos_right n hb
  omega
theorem fit66 {x : KDatum} (h : ok66 x) : KDatum.fit x := by
  obtain ⟨h0, h1, h2, h3, h4⟩ := h
  exact ⟨Int.le_trans (Int.ofNat_le.2 h2) (by decide), trivial⟩
theorem pos22_bytes66 : 1 ≤ bytes66 := of_decide_eq_true (by kernel_rfl)
theorem fitS22 {xs : List KDatum} (h : okS22 xs) : (xs.length : Int) ≤ 1000000000000000 ∧ KDatum.fits xs := ⟨len_fit h.2 pos22_bytes66, KDatum.fits_of fun x hx => fit66 (h.1 x hx)⟩
theorem pos23_bytes3 : 1 ≤ bytes3 := of_decide_eq_true (by kernel_rfl)
theorem fitS23 {xs : List Int} (h : okS23 xs) : (xs.length : Int) ≤ 1000000000000000 := len_fit h.2 pos23_bytes3
theorem fit25 {x : KData} (h : ok25 x) : KData.fit x := by
  obtain ⟨h0, h1⟩ := h
  exact ⟨(fitS22 h0).1, (fitS22 h0).2, fitS23 h1, trivial⟩
end Go.Proofs.YtjcjodcpiickaaaDoor.SH
