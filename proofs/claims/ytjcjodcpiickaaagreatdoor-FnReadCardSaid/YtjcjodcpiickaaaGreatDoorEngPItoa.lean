/- strconv.Itoa, by the kit's contract. -/
import Derived.Test.YtjcjodcpiickaaaGreatDoorEngDoor
import Derived.Test.YtjcjodcpiickaaaGreatDoorShelf
namespace Go.Proofs.YtjcjodcpiickaaaGreatDoor
open Go Go.VS Go.RowKit
set_option linter.unusedVariables false
set_option linter.unusedSimpArgs false
def runItoa : List CV → Option (List CV × List CV)
  | [.leaf (.int .i64 n)] => if -9223372036854775808 ≤ n ∧ n ≤ 9223372036854775807 then some ([.leaf (.str ⟨(Lib.itoa n).toArray⟩)], [.gone]) else none
  | _ => none
theorem grow_drawn_belowX (w : World) (k : Nat) (os : Array Obj) : Below w.heap.size w (Go.Sort.grow (w.drewN k) os) := by
  refine ⟨rfl, rfl, rfl, ?_, fun i hi => ?_⟩
  · show w.heap.size ≤ (w.heap ++ os).size
    simp
  · show (w.heap ++ os)[i]? = w.heap[i]?
    rw [Array.getElem?_append_left hi]
theorem okItoa : ∀ W, LaidX W → ∀ cs res outs, runItoa cs = some (res, outs) → Answers Tryz.prog W 218 cs res outs ∧ ((⟨[.V], true⟩ : Sig).own = true → res.all CV.free = true ∧ outs.all CV.free = true) := by
  intro W hX cs res outs h
  unfold runItoa at h
  split at h
  · rename_i n
    split at h
    · rename_i hn
      simp only [Option.some.injEq, Prod.mk.injEq] at h
      obtain ⟨rfl, rfl⟩ := h
      refine ⟨answers_scal (cs := [.leaf (.int .i64 n)]) (vs := [.int .i64 n]) (rs := [.string ⟨(Lib.itoa n).toArray⟩]) rfl rfl fun w hw => ?_, fun _ => ⟨rfl, rfl⟩⟩
      refine (Tryz.strconv_Itoa n hn.1 hn.2 w (hX.below hw).p10).mono ?_
      rintro e w' ⟨rfl, k, os, rfl⟩
      exact ⟨rfl, grow_drawn_belowX w k os⟩
    · cases h
  · cases h
def prim_strconv_Itoa : PEntry Tryz.prog LaidX := ⟨218, ⟨[.V], true⟩, runItoa, by kernel_rfl, okItoa⟩
end Go.Proofs.YtjcjodcpiickaaaGreatDoor
