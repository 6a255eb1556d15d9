/- Values: the program's and the reference's tell the same. -/
import Derived.Test.YticecjjfbjnaaaaGreatDoorSANameB
import Derived.Test.YticecjjfbjnaaaaGreatDoorSAFam
namespace Go.Proofs.YticecjjfbjnaaaaGreatDoor.SA
open Go Go.VS Go.Lib
set_option maxRecDepth 10000
set_option maxHeartbeats 8000000
set_option linter.unusedSimpArgs false
set_option linter.unusedVariables false
/-- Is there a cell of that kind? -/
def cellB (h : List KCell) (n k : Int) : Bool := decide (0 ≤ n) && (match h[n.toNat]? with
 | some c => decide (c.kind = k)
 | none => false)
/-- Is a value right in a heap? -/
noncomputable def valB (h : List KCell) (v : KValue) : Bool :=
 if v.kind = 1 then within (-1000000) 1000000 v.n && decide (v.s = ⟨#[]⟩) else
 if v.kind = 2 then within 0 1 v.n && decide (v.s = ⟨#[]⟩) else
 if v.kind = 3 then decide (v.n = 0) && decide (v.s = ⟨#[]⟩) else
 if v.kind = 4 then decide (v.n = 0) && sym v.s else
 if v.kind = 5 then decide (v.s = ⟨#[]⟩) && cellB h v.n 1 else
 if v.kind = 6 then decide (v.s = ⟨#[]⟩) && cellB h v.n 2 else
 if v.kind = 7 then decide (v.s = ⟨#[]⟩) && cellB h v.n 3 else false
theorem cellB_cases (h : List KCell) (n : Int) : (∃ c, 0 ≤ n ∧ n < h.length ∧ h[n.toNat]? = some c ∧ ∀ k, cellB h n k = decide (c.kind = k)) ∨ ((n < 0 ∨ (h.length : Int) ≤ n) ∧ ∀ k, cellB h n k = false) := by
 by_cases h0 : 0 ≤ n
 ·by_cases h1 : n < h.length
  ·have hlt : n.toNat < h.length := by omega
   refine .inl ⟨h[n.toNat], h0, h1, List.getElem?_eq_getElem hlt, fun k => ?_⟩
   simp [cellB, h0, List.getElem?_eq_getElem hlt]
  ·refine .inr ⟨.inr (by omega), fun k => ?_⟩
   simp [cellB, List.getElem?_eq_none (show h.length ≤ n.toNat by omega)]
 ·exact .inr ⟨.inl (by omega), fun k => by simp [cellB, h0]⟩
theorem l6Cell (h : List KCell) (n k : Int) (hl : (h.length : Int) ≤ 1048576) : A 67 [.leaf (KCell.sl false h), .leaf (.int .i64 n), .leaf (.int .i64 k)] = some ([.leaf (.bool (cellB h n k))], [.gone, .gone, .gone]) := by
 refine run_spec_l6Cell ?_
 rcases cellB_cases h n with ⟨c, h0, h1, hc, hB⟩ | ⟨h01, hB⟩
 ·have h1' : n.toNat < h.length := by omega
  rw [hB k]
  simp (maxSteps := 1000000) (disch := omega) [ip, wr, spec_l6Cell.b, h0, h1, hc, at_get hc]
  all_goals repeat' ((first | refine runD_cases (fun hcz => ?_) (fun hcz => ?_) | refine gopB_cases (fun hcz => ?_) (fun hcz => ?_) | refine gopB_drawn (fun hcz => ?_) (fun hcz => ?_)) <;> (try simp only [decide_eq_true_eq, decide_eq_false_iff_not, Bool.not_eq_true', Bool.not_eq_false', Bool.not_eq_true, Bool.not_eq_false] at hcz) <;> (try simp (maxSteps := 1000000) (disch := omega) [ip, wr, hcz, h0, h1, hc, at_get hc]))
 ·rw [hB k]
  rcases h01 with h0 | h1
  ·simp (maxSteps := 1000000) (disch := omega) [ip, wr, spec_l6Cell.b, h0]
  ·simp (maxSteps := 1000000) (disch := omega) [ip, wr, spec_l6Cell.b, h1]
theorem specValueOk (h : List KCell) (v : KValue) (hl : (h.length : Int) ≤ 1048576) (hs : (v.s.size : Int) ≤ 1000000000) : A 15 [.leaf (KCell.sl false h), .agg (KValue.row false v)] = some ([.leaf (.bool (valB h v))], [.gone, .gone]) := by
 obtain ⟨kind, n, s⟩ := v
 have hS := l2Sym s (by simp only at hs; omega)
 have hC := fun k => l6Cell h n k hl
 refine run_spec_ValueOk ?_
 simp (maxSteps := 1000000) (disch := omega) [ip, wr, spec_ValueOk.b, hS, hC, l1In', valB]
 all_goals repeat' ((first | refine runD_cases (fun hcz => ?_) (fun hcz => ?_) | refine gopB_cases (fun hcz => ?_) (fun hcz => ?_) | refine gopB_drawn (fun hcz => ?_) (fun hcz => ?_)) <;> (try simp only [decide_eq_true_eq, decide_eq_false_iff_not, Bool.not_eq_true', Bool.not_eq_false', Bool.not_eq_true, Bool.not_eq_false] at hcz) <;> (try simp (maxSteps := 1000000) (disch := omega) [ip, wr, hcz, hS, hC, l1In', valB]))
 all_goals simp_all [valB]
def cellK (kind : Int) : Int := if kind = 5 then 1 else if kind = 6 then 2 else if kind = 7 then 3 else 0
theorem cellKind (k : Int) : A 122 [.leaf (.int .i64 k)] = some ([.leaf (.int .i64 (cellK k))], [.gone]) := by
 refine run_impl_cellKind ?_
 simp (maxSteps := 1000000) (disch := omega) [ip, wr, impl_cellKind.b, cellK]
 all_goals repeat' ((first | refine runD_cases (fun hcz => ?_) (fun hcz => ?_) | refine gopB_cases (fun hcz => ?_) (fun hcz => ?_) | refine gopB_drawn (fun hcz => ?_) (fun hcz => ?_)) <;> (try simp only [decide_eq_true_eq, decide_eq_false_iff_not, Bool.not_eq_true', Bool.not_eq_false', Bool.not_eq_true, Bool.not_eq_false] at hcz) <;> (try simp (maxSteps := 1000000) (disch := omega) [ip, wr, hcz, cellK]))
 all_goals simp_all [cellK]
theorem implValueOk (h : List KCell) (v : KValue) (hl : (h.length : Int) ≤ 1048576) (hs : (v.s.size : Int) ≤ 1000000000) : A 61 [.leaf (KCell.sl false h), .agg (KValue.row false v)] = some ([.leaf (.bool (valB h v))], [.gone, .gone]) := by
 obtain ⟨kind, n, s⟩ := v
 have hS := symOk s (by simp only at hs; omega)
 have hI := inRange' n 0 ((h.length : Int) - 1)
 refine run_impl_ValueOk ?_
 rcases cellB_cases h n with ⟨c, h0, h1, hc, hB⟩ | ⟨h01, hB⟩
 ·have h1' : n.toNat < h.length := by omega
  have hw : within 0 ((h.length : Int) - 1) n = true := by simp [within]; omega
  rw [hw] at hI
  simp (maxSteps := 1000000) (disch := omega) [ip, wr, impl_ValueOk.b, hS, hI, inRange', cellKind, valB, hB, h0, h1, hc, at_get hc]
  all_goals repeat' ((first | refine runD_cases (fun hcz => ?_) (fun hcz => ?_) | refine gopB_cases (fun hcz => ?_) (fun hcz => ?_) | refine gopB_drawn (fun hcz => ?_) (fun hcz => ?_)) <;> (try simp only [decide_eq_true_eq, decide_eq_false_iff_not, Bool.not_eq_true', Bool.not_eq_false', Bool.not_eq_true, Bool.not_eq_false] at hcz) <;> (try simp (maxSteps := 1000000) (disch := omega) [ip, wr, hcz, hS, hI, inRange', cellKind, valB, hB, h0, h1, hc, at_get hc]))
  all_goals simp_all [valB, cellK]
 ·have hw : within 0 ((h.length : Int) - 1) n = false := by simp [within]; omega
  rw [hw] at hI
  simp (maxSteps := 1000000) (disch := omega) [ip, wr, impl_ValueOk.b, hS, hI, inRange', cellKind, valB, hB]
  all_goals repeat' ((first | refine runD_cases (fun hcz => ?_) (fun hcz => ?_) | refine gopB_cases (fun hcz => ?_) (fun hcz => ?_) | refine gopB_drawn (fun hcz => ?_) (fun hcz => ?_)) <;> (try simp only [decide_eq_true_eq, decide_eq_false_iff_not, Bool.not_eq_true', Bool.not_eq_false', Bool.not_eq_true, Bool.not_eq_false] at hcz) <;> (try simp (maxSteps := 1000000) (disch := omega) [ip, wr, hcz, hS, hI, inRange', cellKind, valB, hB]))
  all_goals simp_all [valB, cellK]
end Go.Proofs.YticecjjfbjnaaaaGreatDoor.SA
