-- Written by a program of this session (mk.py over the kit's print).
import Derived.Test.YtgfejfeafppagaaDoorProg
import Derived.Below
import Derived.Deep.Draws
import Derived.Deep.AppendLies
import Derived.Maps.AppendAt
import Derived.OwnWalk
import Derived.Laws.BytesArg
import Derived.Laws.MakeOwn
import Derived.Laws.OwnMore
import Derived.Deep.OwnRows
import Derived.Tactics
import Derived.Lib.ConvBytes
import Derived.Laws.Slices
import Derived.WalkKit
import Derived.KernelRfl
import Derived.RowKit3
import Derived.Deep.LoopGhost
import Derived.Deep.QuietTactic
import Derived.BigQuiet
import Derived.WideLaws
import Derived.Deep.DeepCutAuto
import Derived.Deep.CutBlock
import Derived.Deep.RegionHeld3
import Derived.Laws.Rows
import Derived.Lib.AppendStr
import Derived.ArgAppend
import Derived.Laws.IdiomCopy
import Derived.OrdersHeld
import Derived.Laws.BitsLemmas
import Derived.RowKit
import Derived.Test.YtgfejfeafppagaaDoorWWords
import Derived.Test.YtgfejfeafppagaaDoorWLast
import Derived.Test.YtgfejfeafppagaaDoorWTab
import Derived.Test.YtgfejfeafppagaaDoorWFour
import Derived.Test.YtgfejfeafppagaaDoorWQPut
import Derived.Test.YtgfejfeafppagaaDoorWApart
import Derived.Test.YtgfejfeafppagaaDoorWArr
import Derived.Test.YtgfejfeafppagaaDoorWZeros
import Derived.Test.YtgfejfeafppagaaDoorWFoot
import Derived.Test.YtgfejfeafppagaaDoorWKept
import Derived.Test.YtgfejfeafppagaaDoorWShare
import Derived.Test.YtgfejfeafppagaaDoorWN
import Derived.Test.YtgfejfeafppagaaDoorWFootNe
import Derived.Test.YtgfejfeafppagaaDoorWAt
import Derived.Test.YtgfejfeafppagaaDoorWEqStruct
import Derived.Test.YtgfejfeafppagaaDoorWRepsOne
import Derived.Test.YtgfejfeafppagaaDoorWInv
import Derived.Test.YtgfejfeafppagaaDoorWInvWords
import Derived.Test.YtgfejfeafppagaaDoorWGuard
import Derived.Test.YtgfejfeafppagaaDoorWNEv
import Derived.Test.YtgfejfeafppagaaDoorWMore
import Derived.Lib.Hide
import Derived.Test.YtgfejfeafppagaaDoorShelf
namespace Go.Proofs.YtgfejfeafppagaaDoor.PFnExactIsName
open Go.RowKit Go.Proofs.YtgfejfeafppagaaDoorW.PrintWords Go.Proofs.YtgfejfeafppagaaDoorW.PrintLast Go.Proofs.YtgfejfeafppagaaDoorW.PrintMore
attribute [local go_sem] max2_int min2_int max_two min_two max_three min_three max_four min_four   -- for this text's walks alone
set_option linter.unusedVariables false
set_option linter.unusedSimpArgs false



def errW : Option Int → Value
  | none => .nilIface
  | some c => .iface 0 (.int .i64 c)
theorem errW_none : errW none = .nilIface := rfl
theorem errW_some (c : Int) : errW (some c) = .iface 0 (.int .i64 c) := rfl

theorem info5 : (Tryd.prog.info? 5).map (fun i => (i.zero, i.size, i.bytes)) = some (some (.int .u8 0), 1, 1) := by kernel_rfl
theorem info9 : (Tryd.prog.info? 9).map (fun i => (i.zero, i.size, i.bytes)) = some (some (.string ⟨#[]⟩), 1, 16) := by kernel_rfl
-- the values' own types

/-- What the library's own variables hold: some number; the table of the powers of ten; two errors. -/
structure Laid (w : World) : Prop where
  maxLen : ∃ m, w.cell? ⟨2, 0, none⟩ = some (.int .i64 m)
  esyn : ∃ tp p, w.var? Tryd.prog "strconv.ErrSyntax" = some #[.iface tp p]
  eran : ∃ tp p, w.var? Tryd.prog "strconv.ErrRange" = some #[.iface tp p]
  p10 : Lib.TabIs Tryd.prog w "internal/strconv.uint64pow10" .u64 Lib.pow10Tab
theorem var_below {w W : World} {n : String} {g : Nat} {cs : Array Value} (hg : Tryd.prog.globalNamed n = some g) (hb : Below w.heap.size w W) (h : w.var? Tryd.prog n = some cs) : W.var? Tryd.prog n = some cs := by
  have hlt : g < w.heap.size := by
    unfold World.var? at h
    rw [hg] at h
    simp only [Option.bind_some] at h
    rcases Nat.lt_or_ge g w.heap.size with hh | hh
    · exact hh
    · rw [Array.getElem?_eq_none hh] at h
      cases h
  unfold World.var? at h ⊢
  rw [hg] at h ⊢
  simp only [Option.bind_some] at h ⊢
  rw [hb.block g hlt]
  exact h
theorem Laid.below {w W : World} (h : Laid w) (hb : Below w.heap.size w W) : Laid W := {
  maxLen := by
    obtain ⟨m, hm⟩ := h.maxLen
    exact ⟨m, pw_cell_below hb hm⟩
  esyn := by
    obtain ⟨tp, p, he⟩ := h.esyn
    exact ⟨tp, p, var_below (g := 0) (by kernel_rfl) hb he⟩
  eran := by
    obtain ⟨tp, p, he⟩ := h.eran
    exact ⟨tp, p, var_below (g := 1) (by kernel_rfl) hb he⟩
  p10 := var_below (g := 3) (by kernel_rfl) hb h.p10 }
theorem Laid.drawn {w W : World} (h : Laid w) (hb : Drawn0 w W) : Laid W := h.below hb.below

end Go.Proofs.YtgfejfeafppagaaDoor.PFnExactIsName
