/- What is all its own leans on blocks of cells alone. -/
import Derived.Test.YtjcjodcpiickaaaGreatDoorEngM7
namespace Go.VS
open Go Go.RowKit
set_option linter.unusedSimpArgs false
set_option linter.unusedVariables false
variable {w w' : World} {I I' : Nat → Prop} {S S' : Nat → Prop} {l : L} {v : Value}
def CellsIn (w : World) (x : Nat) : Prop := ∃ cs e f, w.heap[x]? = some (.cells cs e f)
theorem RepL.trim (h : RepL w I l v S) (hf : l.free = true) : RepL w (fun _ => False) l v (fun x => S x ∧ CellsIn w x) := by
  induction h with
  | bad v S => exact .bad ..
  | self t v S => exact .self ..
  | bts e l v S h1 h2 =>
    refine .bts _ _ _ _ h1 fun g hg => ⟨h2 g hg, ?_⟩
    rcases h1.2 with ⟨rfl, _⟩ | ⟨g', cap, cur, rfl, _, hb, _⟩
    · cases hg
    · simp only [Value.ownBlock, Option.some.injEq] at hg
      subst hg
      exact ⟨_, _, _, hb⟩
  | int => exact .int ..
  | bool => exact .bool ..
  | str => exact .str ..
  | fn f vs S h => exact .fn _ _ _ h
  | clo f vals S b cs e h1 h2 h3 h4 => exact .clo f vals _ b cs e ⟨h1, _, _, _, h2⟩ h2 h3 h4
  | nil o sz S a cap h => exact .nil _ _ _ _ _ h
  | own sz rows S b cap cs e cv D h1 hlen hcap hb hcs hsz hcv hD hdis hrep ih =>
    simp only [L.free, Bool.and_eq_true] at hf
    exact .own sz rows _ b cap cs e cv (fun i j x => D i j x ∧ CellsIn w x) ⟨h1, _, _, _, hb⟩ hlen hcap hb hcs hsz hcv (fun i j x hx => ⟨⟨(hD i j x hx.1).1, hx.2⟩, (hD i j x hx.1).2⟩) (fun i j i' j' x hx hx' => hdis i j i' j' x hx.1 hx'.1) (fun i j r l hr hl => ih i j r l hr hl (freeR_get (freeRR_get hf.2 hr) hl))
  | imm => simp [L.free] at hf
theorem RepRow.trim {row : List L} {get : Nat → Option Value} (h : RepRow w I row get S) (hf : freeR row = true) : RepRow w (fun _ => False) row get (fun x => S x ∧ CellsIn w x) := by
  obtain ⟨D, h1, h2, h3⟩ := h
  refine ⟨fun j x => D j x ∧ CellsIn w x, fun j x hx => ⟨h1 j x hx.1, hx.2⟩, fun j j' x hx hx' => h2 j j' x hx.1 hx'.1, fun j l hl => ?_⟩
  obtain ⟨v, a, b, c⟩ := h3 j l hl
  exact ⟨v, a, b, c.trim (freeR_get hf hl)⟩
theorem box_trim {arg : Tmp → Value} {row : List L} (h : RepC arg w I (.box row) v S) (hf : freeR row = true) : RepC arg w (fun _ => False) (.box row) v (fun x => S x ∧ CellsIn w x) := by
  obtain ⟨b, cs, e, h1, h2, h3, h4, h5, h6⟩ := h
  exact ⟨b, cs, e, h1, ⟨h2, _, _, _, h3⟩, h3, h4, (h5.trim hf).mono (fun _ h => h) fun x hx => ⟨⟨hx.1.1, hx.2⟩, hx.1.2⟩, h6⟩
end Go.VS
