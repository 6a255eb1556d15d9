/- Lint: the law answers true. -/
import Derived.Test.YthkfnfppihgejaaGreatDoorLNFit
import Derived.Test.YthkfnfppihgejaaGreatDoorLNLintB
namespace Go.Proofs.YthkfnfppihgejaaGreatDoor.LN
open Go Go.VS
set_option maxRecDepth 10000
set_option maxHeartbeats 8000000
set_option linter.unusedSimpArgs false
set_option linter.unusedVariables false
theorem notes_cnt : ∀ l : List KNote, KNote.cnts l = 2 * l.length
 | [] => rfl
 | x :: l => by
  have := notes_cnt l
  simp only [KNote.cnts, KNote.cnt, List.length_cons]
  omega
theorem pure (x0 : KSrc) (x1 : List ByteArray) (h0 : ok26 x0) (h1 : okS22 x1) : ∃ outs, A 3 [.agg (KSrc.row false x0), .leaf (.sl false 1 (x1.map fun s : ByteArray => [L.str s]))] = some ([.leaf (.bool true)], outs) := by
 have hf := fit26 h0
 have hf1 := fitS22 h1
 refine ⟨_, run_laws_FnExactLint (r := ([.leaf (.bool true)], [.gone, .gone])) ?_⟩
 have hz := szSrc x0 1048576 (by decide) (by decide) hf
 by_cases hw : (KSrc.w x0 : Int) ≤ 1048576
 ·rw [szR_pos hw] at hz
  have hz2 := szStringS x1 (1048576 - (KSrc.w x0 : Int)) (by omega) (by omega) hf1.1 hf1.2
  generalize hwn : x1.length + strsU x1 = wn at hz2
  by_cases hv : (wn : Int) ≤ 1048576 - (KSrc.w x0 : Int)
  ·rw [szR_pos hv] at hz2
   have ht := toSrc x0 hw
   have ht1 := toStringS x1 (by omega)
   have a1 := KType.cnts_le x0.types
   have a2 := KDef.cnts_le x0.defs
   have a3 := KDef.cnts_le x0.convs
   have hw2 := hw
   simp only [KSrc.w] at hw2
   have he := eqSrc x0 (by omega)
   have he1 := eqStringS x1 (by omega)
   have hs := specLint x0 x1 hw (by omega)
   have hi := implLint x0 x1 hw (by omega)
   have hl := lintB_length x0 x1 hw
   have tp0 : (KSrc.top x0 : Int) ≤ 1000000000 := by simp only [KSrc.top]; omega
   generalize lintB x0 x1 = d at *
   have hc := notes_cnt d
   have m1 := markSrc x0 1 (by decide) (by omega)
   have m3 := markStringS x1 (1 + (KSrc.top x0 : Int)) (by omega) (by omega)
   have e1 := eqNoteS d (by omega)
   have m2 := markNoteS d 1 (by decide) (by omega)
   have q2 := heldNoteS d 1 (by decide) (by omega)
   generalize KSrc.top x0 = t0 at *
   simp (maxSteps := 1000000) (disch := omega) [ip, wr, laws_FnExactLint.b, hz, hz2, ht, ht1, hs, hi, he, he1, m1, m3, e1, m2, q2]
  ·rw [szR_neg (by omega)] at hz2
   simp (maxSteps := 1000000) (disch := omega) [ip, wr, laws_FnExactLint.b, hz, hz2]
 ·rw [szR_neg (by omega)] at hz
  simp (maxSteps := 1000000) (disch := omega) [ip, wr, laws_FnExactLint.b, hz]
end Go.Proofs.YthkfnfppihgejaaGreatDoor.LN
