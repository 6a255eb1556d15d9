/- What a tied card's list of variables gives the walks, at this program; and the world that the program's start leaves. -/
import Derived.Test.YtggjjhbdpionpaaDoorRows
import Derived.Lib.LaidTab
import Derived.Lib.ItoaNum
import Derived.Stop.LaidErr
import Derived.LaidMore
import Derived.ProofKit
import Derived.HandedShaped
import Derived.Stop.Joined
namespace Go.Proofs.YtggjjhbdpionpaaDoor.DoorKit
open Go.RowKit
noncomputable def door (os : Os) : World := World.doorLaid Tryd.prog 4000 os
theorem door_os (os : Os) : (door os).os = os := by kernel_rfl
theorem door_shaped (os : Os) (args : Array Value) : ((door os).forCall (fun _ _ => 0) ⟨#[], args, []⟩).Shaped Tryd.prog := World.shaped_of_RefB (by kernel_rfl) (by kernel_rfl)
theorem eq10 : (Rows.laid_internal_strconv_uint64pow10 : DataW Unit) = Lib.tabData .u64 Lib.pow10Tab := by kernel_rfl
/-- The table of the powers of ten, where it stands first on the list. -/
theorem tab10 {W : World} {r : List (String × DataW Unit)} (h : laidMet Tryd.prog (("internal/strconv.uint64pow10", Rows.laid_internal_strconv_uint64pow10) :: r) W) : Lib.TabIs Tryd.prog W "internal/strconv.uint64pow10" .u64 Lib.pow10Tab := by
  rw [eq10] at h
  exact Lib.tabIs_of_head (g := 0) (t := 77) (e := 70) (n := 20) (by kernel_rfl) (by kernel_rfl) Tryd.underlying77 Tryd.underlying70 (by kernel_rfl) (by kernel_rfl) h
end Go.Proofs.YtggjjhbdpionpaaDoor.DoorKit
