/- slices.Sort of texts, by the kit's contract. -/
import Derived.Test.YticecjjfbjnaaaaEngDoor
import Derived.Test.YticecjjfbjnaaaaShelf
import Derived.Test.YticecjjfbjnaaaaEngSortR
namespace Go.Proofs.Yticecjjfbjnaaaa
open Go Go.VS Go.RowKit
set_option linter.unusedVariables false
set_option linter.unusedSimpArgs false
theorem okSortS : ∀ W, LaidX W → ∀ cs res outs, runSortS cs = some (res, outs) → Answers Try.prog W 25 cs res outs ∧ ((⟨[.M], true⟩ : Sig).own = true → res.all CV.free = true ∧ outs.all CV.free = true) := by
  intro W hX cs res outs h
  obtain ⟨h1, h2⟩ := runSortS_ok (fun b cap ss w => Try.slices_Sort_string b 0 cap ss w) (fun p cap w => Try.slices_Sort_string_none p cap w) h
  exact ⟨h1, fun _ => h2⟩
def prim_slices_Sort_string_string : PEntry Try.prog LaidX := ⟨25, ⟨[.M], true⟩, runSortS, by kernel_rfl, okSortS⟩
end Go.Proofs.Yticecjjfbjnaaaa
