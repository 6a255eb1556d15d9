/- strings.Contains, by the kit's contract. -/
import Derived.Test.YthkfnfppihgejaaGreatDoorEngDoor
import Derived.Test.YthkfnfppihgejaaGreatDoorShelf
namespace Go.Proofs.YthkfnfppihgejaaGreatDoor
open Go Go.VS Go.RowKit
set_option linter.unusedVariables false
set_option linter.unusedSimpArgs false
def runContains : List CV → Option (List CV × List CV)
  | [.leaf (.str a), .leaf (.str b)] => if a.size < 4294967281 then some ([.leaf (.bool (Lib.contains a.data.toList b.data.toList))], [.gone, .gone]) else none
  | _ => none
theorem okContains : ∀ W, LaidX W → ∀ cs res outs, runContains cs = some (res, outs) → Answers Tryz.prog W 99 cs res outs ∧ ((⟨[.V, .V], true⟩ : Sig).own = true → res.all CV.free = true ∧ outs.all CV.free = true) := by
  intro W hX cs res outs h
  unfold runContains at h
  split at h
  · rename_i a b
    split at h
    · rename_i hs
      simp only [Option.some.injEq, Prod.mk.injEq] at h
      obtain ⟨rfl, rfl⟩ := h
      refine ⟨answers_scal (cs := [.leaf (.str a), .leaf (.str b)]) (vs := [.string a, .string b]) (rs := [.bool (Lib.contains a.data.toList b.data.toList)]) rfl rfl fun w hw => ?_, fun _ => ⟨rfl, rfl⟩⟩
      obtain ⟨m, hm⟩ := (hX.below hw).maxLen
      refine (Tryz.strings_Contains a b m w hs hm).mono ?_
      rintro e w' ⟨rfl, rfl⟩
      exact ⟨rfl, Below.refl _ _⟩
    · cases h
  · cases h
def prim_strings_Contains : PEntry Tryz.prog LaidX := ⟨99, ⟨[.V, .V], true⟩, runContains, by kernel_rfl, okContains⟩
end Go.Proofs.YthkfnfppihgejaaGreatDoor
