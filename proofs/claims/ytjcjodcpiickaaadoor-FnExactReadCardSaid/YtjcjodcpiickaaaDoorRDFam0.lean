/- Marks, comparisons, sizes and copies of lists of numbers and of texts. -/
import Derived.Test.YtjcjodcpiickaaaDoorEngM7
import Derived.Test.YtjcjodcpiickaaaDoorRDTab
namespace Go.Proofs.YtjcjodcpiickaaaDoor.RD
open Go Go.VS
set_option maxRecDepth 10000
set_option linter.unusedSimpArgs false
set_option linter.unusedVariables false

theorem markText_loop (ks : List Fr) (Q : VX → Env → Prop) :
  ∀ (m : Nat) (k : Int) (s : ByteArray), k.toNat ≤ m → 0 ≤ k → (s.size : Int) + k ≤ 2000000000000000 → (∀ s', (s'.size : Int) ≤ 2000000000000000 → Run G A (.exit 0) [(0, .v (.leaf (.int .i64 0))), (3, .v (.leaf (.str s'))), (7, .v (.leaf (.bool false)))] ks Q) → Run G A (.loop laws_markText.l0) [(0, .v (.leaf (.int .i64 k))), (3, .v (.leaf (.str s)))] ks Q
 | 0, k, s, hm, h0, hs, hq => by
  obtain rfl : k = 0 := by omega
  refine run_loop_at laws_markText.l0.eq_1 ?_
  simp
  exact hq s (by omega)
 | m + 1, k, s, hm, h0, hs, hq => by
  by_cases hk : k = 0
  ·subst hk
   refine run_loop_at laws_markText.l0.eq_1 ?_
   simp
   exact hq s (by omega)
  ·have h2 : k.tmod 10 = k % 10 := Int.tmod_eq_emod_of_nonneg h0
   have h3 : k.tdiv 10 = k / 10 := Int.tdiv_eq_ediv_of_nonneg h0
   refine run_loop_at laws_markText.l0.eq_1 ?_
   simp (maxSteps := 1000000) (disch := omega) [ip, wr, h2, h3]
   refine markText_loop ks Q m (k / 10) _ (by omega) (by omega) (by simp; omega) hq
theorem markText_ex (k : Int) (h : 0 ≤ k) (h2 : k ≤ 1000000000000000) : ∃ s, A 52 [.leaf (.int .i64 k)] = some ([.leaf (.str s)], [.gone]) := by
 obtain ⟨rs, os, h1, rfl, s, rfl⟩ : ∃ rs os, A 52 [.leaf (.int .i64 k)] = some (rs, os) ∧ os = [.gone] ∧ ∃ s, rs = [.leaf (.str s)] := by
  refine runE_laws_markText ?_
  by_cases hk : k = 0
  ·subst hk
   simp [laws_markText.b]
  ·simp (maxSteps := 1000000) (disch := omega) [ip, wr, laws_markText.b]
   refine markText_loop _ _ k.toNat k _ (Nat.le_refl _) h (by simp; omega) fun s' hs => ?_
   simp (maxSteps := 1000000) (disch := omega) [ip, wr]
 exact ⟨s, h1⟩
def textOf : Option (List CV × List CV) → ByteArray
 | some ([.leaf (.str s)], _) => s
 | _ => ⟨#[]⟩
/-- The text of a mark. -/
noncomputable def mtext (k : Int) : ByteArray := textOf (A 52 [.leaf (.int .i64 k)])
theorem markText (k : Int) (h : 0 ≤ k) (h2 : k ≤ 1000000000000000) : A 52 [.leaf (.int .i64 k)] = some ([.leaf (.str (mtext k))], [.gone]) := by
 obtain ⟨s, hs⟩ := markText_ex k h h2
 have : mtext k = s := by unfold mtext; rw [hs]; rfl
 rw [this, hs]

end Go.Proofs.YtjcjodcpiickaaaDoor.RD
