/- What a tied card's list of variables gives the walks, at this program; and the world that the program's start leaves. -/
import Derived.Test.YtgfejfeafppagaaDoorRows
import Derived.Lib.LaidTab
import Derived.Lib.ItoaNum
import Derived.Stop.LaidErr
import Derived.LaidMore
import Derived.ProofKit
import Derived.HandedShaped
import Derived.Stop.Joined
namespace Go.Proofs.YtgfejfeafppagaaDoor.DoorKit
open Go.RowKit
noncomputable def door (os : Os) : World := World.doorLaid Tryd.prog 4000 os
theorem door_os (os : Os) : (door os).os = os := by kernel_rfl
theorem door_shaped (os : Os) (args : Array Value) : ((door os).forCall (fun _ _ => 0) ⟨#[], args, []⟩).Shaped Tryd.prog := World.shaped_of_RefB (by kernel_rfl) (by kernel_rfl)
theorem eq10 : (Rows.laid_internal_strconv_uint64pow10 : DataW Unit) = Lib.tabData .u64 Lib.pow10Tab := by kernel_rfl
/-- The table of the powers of ten, where it stands first on the list. -/
theorem tab10 {W : World} {r : List (String × DataW Unit)} (h : laidMet Tryd.prog (("internal/strconv.uint64pow10", Rows.laid_internal_strconv_uint64pow10) :: r) W) : Lib.TabIs Tryd.prog W "internal/strconv.uint64pow10" .u64 Lib.pow10Tab := by
  rw [eq10] at h
  exact Lib.tabIs_of_head (g := 3) (t := 190) (e := 171) (n := 20) (by kernel_rfl) (by kernel_rfl) Tryd.underlying190 Tryd.underlying171 (by kernel_rfl) (by kernel_rfl) h
theorem star : "*" ++ "errors.errorString" = "*errors.errorString" := by decide
theorem rowErr (u : TypeId) (h : Tryd.prog.typeName? 3 u = some "*errors.errorString") : u = 186 :=
  typeName_ptr_named (nm := "errors.errorString") (by rw [star]; kernel_rfl) (by kernel_rfl) (by decide) u (by rw [star]; exact h)
theorem errSyn {W : World} {r : List (String × DataW Unit)} (h : laidMet Tryd.prog (("strconv.ErrSyntax", Rows.laid_strconv_ErrSyntax) :: r) W) : ∃ tp p, W.var? Tryd.prog "strconv.ErrSyntax" = some #[.iface tp p] := by
  obtain ⟨a, s, hv, _⟩ := laid_sentinel (n := "strconv.ErrSyntax") (g := 0) (ti := 74) (tp := 186) (te := 188) (ts := 9) h (by kernel_rfl) (by kernel_rfl) Tryd.underlying74 rowErr Tryd.underlying186 Tryd.underlying188 rfl rfl Tryd.underlying9 (by kernel_rfl) (by kernel_rfl)
  exact ⟨_, _, hv⟩
theorem errRan {W : World} {r : List (String × DataW Unit)} (h : laidMet Tryd.prog (("strconv.ErrRange", Rows.laid_strconv_ErrRange) :: r) W) : ∃ tp p, W.var? Tryd.prog "strconv.ErrRange" = some #[.iface tp p] := by
  obtain ⟨a, s, hv, _⟩ := laid_sentinel (n := "strconv.ErrRange") (g := 1) (ti := 74) (tp := 186) (te := 188) (ts := 9) h (by kernel_rfl) (by kernel_rfl) Tryd.underlying74 rowErr Tryd.underlying186 Tryd.underlying188 rfl rfl Tryd.underlying9 (by kernel_rfl) (by kernel_rfl)
  exact ⟨_, _, hv⟩
end Go.Proofs.YtgfejfeafppagaaDoor.DoorKit
