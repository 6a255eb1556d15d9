/- strings.IndexByte, by the kit's contract. -/
import Derived.Test.YtjcjodcpiickaaaGreatDoorEngDoor
import Derived.Test.YtjcjodcpiickaaaGreatDoorShelf
namespace Go.Proofs.YtjcjodcpiickaaaGreatDoor
open Go Go.VS Go.RowKit
set_option linter.unusedVariables false
set_option linter.unusedSimpArgs false
def runIndexByte : List CV → Option (List CV × List CV)
  | [.leaf (.str a), .leaf (.int .u8 c)] => some ([.leaf (.int .i64 (Lib.indexByte a.data.toList c.toNat.toUInt8))], [.gone, .gone])
  | _ => none
theorem okIndexByte : ∀ W, LaidX W → ∀ cs res outs, runIndexByte cs = some (res, outs) → Answers Tryz.prog W 211 cs res outs ∧ ((⟨[.V, .V], true⟩ : Sig).own = true → res.all CV.free = true ∧ outs.all CV.free = true) := by
  intro W hX cs res outs h
  unfold runIndexByte at h
  split at h
  · rename_i a c
    simp only [Option.some.injEq, Prod.mk.injEq] at h
    obtain ⟨rfl, rfl⟩ := h
    refine ⟨answers_scal (cs := [.leaf (.str a), .leaf (.int .u8 c)]) (vs := [.string a, .int .u8 c]) (rs := [.int .i64 (Lib.indexByte a.data.toList c.toNat.toUInt8)]) rfl rfl fun w hw => ?_, fun _ => ⟨rfl, rfl⟩⟩
    refine (Tryz.strings_IndexByte a c w).mono ?_
    rintro e w' ⟨rfl, rfl⟩
    exact ⟨rfl, Below.refl _ _⟩
  · cases h
def prim_strings_IndexByte : PEntry Tryz.prog LaidX := ⟨211, ⟨[.V, .V], true⟩, runIndexByte, by kernel_rfl, okIndexByte⟩
end Go.Proofs.YtjcjodcpiickaaaGreatDoor
