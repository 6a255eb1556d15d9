/- What a door's list of variables gives, and the world that the program's start leaves. -/
import Derived.Test.YtjcjodcpiickaaaGreatDoorEngM7
import Derived.Test.YtjcjodcpiickaaaGreatDoorRows
import Derived.Lib.LaidTab
import Derived.Lib.ItoaNum
import Derived.Stop.LaidErr
import Derived.LaidMore
import Derived.ProofKit
import Derived.HandedShaped
import Derived.Stop.Joined
namespace Go.Proofs.YtjcjodcpiickaaaGreatDoor.DoorKit
open Go.RowKit
noncomputable def door (os : Os) : World := World.doorLaid Tryz.prog 4000 os
theorem door_os (os : Os) : (door os).os = os := by kernel_rfl
theorem door_shaped (os : Os) (args : Array Value) : ((door os).forCall (fun _ _ => 0) ⟨#[], args, []⟩).Shaped Tryz.prog := World.shaped_of_RefB (by kernel_rfl) (by kernel_rfl)
theorem eq10 : (Rows.laid_internal_strconv_uint64pow10 : DataW Unit) = Lib.tabData .u64 Lib.pow10Tab := by kernel_rfl
/-- The table of the powers of ten, where it stands first on the list. -/
theorem tab10 {W : World} {r : List (String × DataW Unit)} (h : laidMet Tryz.prog (("internal/strconv.uint64pow10", Rows.laid_internal_strconv_uint64pow10) :: r) W) : Lib.TabIs Tryz.prog W "internal/strconv.uint64pow10" .u64 Lib.pow10Tab := by
  rw [eq10] at h
  exact Lib.tabIs_of_head (g := 1) (t := 323) (e := 272) (n := 20) (by kernel_rfl) (by kernel_rfl) Tryz.underlying323 Tryz.underlying272 (by kernel_rfl) (by kernel_rfl) h
theorem star : "*" ++ "errors.errorString" = "*errors.errorString" := by decide
theorem rowErr (u : TypeId) (h : Tryz.prog.typeName? 3 u = some "*errors.errorString") : u = 344 :=
  typeName_ptr_named (nm := "errors.errorString") (by rw [star]; kernel_rfl) (by kernel_rfl) (by decide) u (by rw [star]; exact h)
theorem errSyn {W : World} {r : List (String × DataW Unit)} (h : laidMet Tryz.prog (("strconv.ErrSyntax", Rows.laid_strconv_ErrSyntax) :: r) W) : ∃ tp p, W.var? Tryz.prog "strconv.ErrSyntax" = some #[.iface tp p] := by
  obtain ⟨a, s, hv, _⟩ := laid_sentinel (n := "strconv.ErrSyntax") (g := 2) (ti := 117) (tp := 344) (te := 346) (ts := 9) h (by kernel_rfl) (by kernel_rfl) Tryz.underlying117 rowErr Tryz.underlying344 Tryz.underlying346 rfl rfl Tryz.underlying9 (by kernel_rfl) (by kernel_rfl)
  exact ⟨_, _, hv⟩
theorem errRan {W : World} {r : List (String × DataW Unit)} (h : laidMet Tryz.prog (("strconv.ErrRange", Rows.laid_strconv_ErrRange) :: r) W) : ∃ tp p, W.var? Tryz.prog "strconv.ErrRange" = some #[.iface tp p] := by
  obtain ⟨a, s, hv, _⟩ := laid_sentinel (n := "strconv.ErrRange") (g := 3) (ti := 117) (tp := 344) (te := 346) (ts := 9) h (by kernel_rfl) (by kernel_rfl) Tryz.underlying117 rowErr Tryz.underlying344 Tryz.underlying346 rfl rfl Tryz.underlying9 (by kernel_rfl) (by kernel_rfl)
  exact ⟨_, _, hv⟩
end Go.Proofs.YtjcjodcpiickaaaGreatDoor.DoorKit
namespace Go.Proofs.YtjcjodcpiickaaaGreatDoor
open Go Go.RowKit
set_option linter.unusedVariables false
set_option linter.unusedSimpArgs false
theorem cell_belowX {w W : World} {g : Nat} {v : Value} (hb : Below w.heap.size w W) (h : w.cell? ⟨g, 0, none⟩ = some v) : W.cell? ⟨g, 0, none⟩ = some v := by
  have hlt : g < w.heap.size := by
    rcases Nat.lt_or_ge g w.heap.size with hh | hh
    · exact hh
    · simp only [World.cell?, Array.getElem?_eq_none hh] at h; cases h
  simp only [World.cell?] at h ⊢
  rw [hb.block g hlt]
  exact h
/-- What the library's own variables hold: some number; the table of the powers of ten; two errors. -/
structure LaidX (w : World) : Prop where
  maxLen : ∃ m, w.cell? ⟨0, 0, none⟩ = some (.int .i64 m)
  esyn : ∃ tp p, w.var? Tryz.prog "strconv.ErrSyntax" = some #[.iface tp p]
  eran : ∃ tp p, w.var? Tryz.prog "strconv.ErrRange" = some #[.iface tp p]
  p10 : Lib.TabIs Tryz.prog w "internal/strconv.uint64pow10" .u64 Lib.pow10Tab
theorem var_below {w W : World} {n : String} {g : Nat} {cs : Array Value} (hg : Tryz.prog.globalNamed n = some g) (hb : Below w.heap.size w W) (h : w.var? Tryz.prog n = some cs) : W.var? Tryz.prog n = some cs := by
  have hlt : g < w.heap.size := by
    unfold World.var? at h
    rw [hg] at h
    simp only [Option.bind_some] at h
    rcases Nat.lt_or_ge g w.heap.size with hh | hh
    · exact hh
    · rw [Array.getElem?_eq_none hh] at h
      cases h
  unfold World.var? at h ⊢
  rw [hg] at h ⊢
  simp only [Option.bind_some] at h ⊢
  rw [hb.block g hlt]
  exact h
theorem LaidX.below {w W : World} (h : LaidX w) (hb : Below w.heap.size w W) : LaidX W := {
  maxLen := by
    obtain ⟨m, hm⟩ := h.maxLen
    exact ⟨m, cell_belowX hb hm⟩
  esyn := by
    obtain ⟨tp, p, he⟩ := h.esyn
    exact ⟨tp, p, var_below (g := 2) (by kernel_rfl) hb he⟩
  eran := by
    obtain ⟨tp, p, he⟩ := h.eran
    exact ⟨tp, p, var_below (g := 3) (by kernel_rfl) hb he⟩
  p10 := var_below (g := 1) (by kernel_rfl) hb h.p10 }
end Go.Proofs.YtjcjodcpiickaaaGreatDoor

