/- Heaps: the program's and the reference's tell the same. -/
import Derived.Test.YticecjjfbjnaaaaGreatDoorSAValA
namespace Go.Proofs.YticecjjfbjnaaaaGreatDoor.SA
open Go Go.VS Go.Lib
set_option maxRecDepth 10000
set_option maxHeartbeats 8000000
set_option linter.unusedSimpArgs false
set_option linter.unusedVariables false
/-- Does a value name a cell? -/
def points (v : KValue) : Bool := within 5 7 v.kind
def belowB (i : Int) (v : KValue) : Bool := !points v || decide (v.n < i)
/-- Is a cell right by itself? -/
noncomputable def cellOkB (c : KCell) : Bool :=
 if c.kind = 1 then decide (c.s = ⟨#[]⟩) && decide (c.a = 0) && decide (c.b = 0) && decide (c.names = []) && decide (c.vals.length = 2) else
 if c.kind = 2 then decide (c.s = ⟨#[]⟩) && decide (0 ≤ c.a) && decide (0 ≤ c.b) && c.names.all isName && decide (c.vals.length = c.names.length) else
 if c.kind = 3 then !decide (c.s = ⟨#[]⟩) && within 0 1000 c.a && decide (c.b = 0) && decide (c.names = []) && decide (c.vals.length ≤ 8) else false
noncomputable def cellAt (h : List KCell) (i : Int) (c : KCell) : Bool := cellOkB c && (c.vals.all (valB h) && (decide (c.kind = 3) || c.vals.all (belowB i)))
noncomputable def heapFrom (h : List KCell) : Int → List KCell → Bool
 | _, [] => true
 | i, c :: cs => cellAt h i c && heapFrom h (i + 1) cs
/-- Is a heap right? -/
noncomputable def heapB (h : List KCell) : Bool := decide (h.length ≤ 300) && heapFrom h 0 h
theorem strs_at {l : List ByteArray} {i : Nat} {x : ByteArray} (h : l[i]? = some x) : x.size ≤ strsU l := by
 induction l generalizing i with
 | nil => simp at h
 | cons a l ih =>
  simp only [strsU]
  cases i with
  | zero => simp at h; subst h; omega
  | succ i => have := ih (by simpa using h); omega
theorem vals_at {l : List KValue} {i : Nat} {x : KValue} (h : l[i]? = some x) : KValue.w x ≤ KValue.us l := by
 induction l generalizing i with
 | nil => simp at h
 | cons a l ih =>
  simp only [KValue.us]
  cases i with
  | zero => simp at h; subst h; omega
  | succ i => have := ih (by simpa using h); omega
theorem cells_at {l : List KCell} {i : Nat} {x : KCell} (h : l[i]? = some x) : KCell.w x ≤ KCell.us l := by
 induction l generalizing i with
 | nil => simp at h
 | cons a l ih =>
  simp only [KCell.us]
  cases i with
  | zero => simp at h; subst h; omega
  | succ i => have := ih (by simpa using h); omega
theorem implAllNames (l : List ByteArray) (hl : (l.length : Int) ≤ 1048576) (hu : (strsU l : Int) ≤ 1048576) : A 172 [.leaf (Kstrs false l)] = some ([.leaf (.bool (l.all isName))], [.gone]) := by
 refine run_impl_allNames ?_
 simp (maxSteps := 1000000) (disch := omega) [ip, wr, impl_allNames.b]
 refine at_all 7 impl_allNames.l0.eq_1 isName l (by simp) (fun g => ?_) (fun i x hx hi hp ih => ?_) (fun i x hx hi hp g => ?_)
 ·simp (maxSteps := 1000000) (disch := omega) [ip, wr, g]
 ·have h1 := implIsName x (by have := strs_at hx; omega)
  rw [hp] at h1
  simp (maxSteps := 1000000) (disch := omega) [ip, wr, hx, at_get hx, h1]
  refine run_env ih ?_
  simp
 ·have h1 := implIsName x (by have := strs_at hx; omega)
  rw [hp] at h1
  simp (maxSteps := 1000000) (disch := omega) [ip, wr, hx, at_get hx, h1, g]
theorem implValuesOk (h : List KCell) (l : List KValue) (hh : (h.length : Int) ≤ 1048576) (hl : (l.length : Int) ≤ 1048576) (hu : (KValue.us l : Int) ≤ 1048576) : A 119 [.leaf (KCell.sl false h), .leaf (KValue.sl false l)] = some ([.leaf (.bool (l.all (valB h)))], [.gone, .gone]) := by
 refine run_impl_valuesOk ?_
 simp (maxSteps := 1000000) (disch := omega) [ip, wr, impl_valuesOk.b]
 refine at_all 9 impl_valuesOk.l0.eq_1 (valB h) l (by simp) (fun g => ?_) (fun i x hx hi hp ih => ?_) (fun i x hx hi hp g => ?_)
 ·simp (maxSteps := 1000000) (disch := omega) [ip, wr, g]
 ·have h1 := implValueOk h x hh (by have := vals_at hx; simp only [KValue.w] at this; omega)
  rw [hp] at h1
  simp (maxSteps := 1000000) (disch := omega) [ip, wr, hx, at_get hx, h1]
  refine run_env ih ?_
  simp
 ·have h1 := implValueOk h x hh (by have := vals_at hx; simp only [KValue.w] at this; omega)
  rw [hp] at h1
  simp (maxSteps := 1000000) (disch := omega) [ip, wr, hx, at_get hx, h1, g]
theorem cellK_zero (x : KValue) : (cellK x.kind = 0) ↔ points x = false := by
 unfold cellK points within
 repeat' split
 all_goals simp
 all_goals omega
theorem implAreBelow (l : List KValue) (n : Int) (hl : (l.length : Int) ≤ 1048576) : A 120 [.leaf (KValue.sl false l), .leaf (.int .i64 n)] = some ([.leaf (.bool (l.all (belowB n)))], [.gone, .gone]) := by
 refine run_impl_areBelow ?_
 simp (maxSteps := 1000000) (disch := omega) [ip, wr, impl_areBelow.b]
 refine at_all 9 impl_areBelow.l0.eq_1 (belowB n) l (by simp) (fun g => ?_) (fun i x hx hi hp ih => ?_) (fun i x hx hi hp g => ?_)
 ·simp (maxSteps := 1000000) (disch := omega) [ip, wr, g]
 ·have h1 := cellKind x.kind
  have h2 := cellK_zero x
  unfold belowB at hp
  generalize cellK x.kind = c at h1 h2
  by_cases hc : c = 0
  ·simp (maxSteps := 1000000) (disch := omega) [ip, wr, hx, at_get hx, h1, hc]
   refine run_env ih ?_
   simp
  ·have hq : points x = true := by simpa [hc] using h2
   have hn : x.n < n := by simpa [hq] using hp
   simp (maxSteps := 1000000) (disch := omega) [ip, wr, hx, at_get hx, h1, hc, hn]
   refine run_env ih ?_
   simp
 ·have h1 := cellKind x.kind
  have h2 := cellK_zero x
  unfold belowB at hp
  simp at hp
  generalize cellK x.kind = c at h1 h2
  have hc : ¬ c = 0 := by simp [h2, hp.1]
  simp (maxSteps := 1000000) (disch := omega) [ip, wr, hx, at_get hx, h1, hc, hp.2, g]
theorem implCellOk (c : KCell) (hw : (KCell.w c : Int) ≤ 1048576) : A 118 [.agg (KCell.row false c)] = some ([.leaf (.bool (cellOkB c))], [.gone]) := by
 obtain ⟨kind, s, a, b, names, vals⟩ := c
 simp only [KCell.w] at hw
 have hN := implAllNames names (by omega) (by omega)
 refine run_impl_cellOk ?_
 simp (maxSteps := 1000000) (disch := omega) [ip, wr, impl_cellOk.b, hN, inRange', cellOkB]
 all_goals repeat' ((first | refine runD_cases (fun hcz => ?_) (fun hcz => ?_) | refine gopB_cases (fun hcz => ?_) (fun hcz => ?_) | refine gopB_drawn (fun hcz => ?_) (fun hcz => ?_)) <;> (try simp only [decide_eq_true_eq, decide_eq_false_iff_not, Bool.not_eq_true', Bool.not_eq_false', Bool.not_eq_true, Bool.not_eq_false] at hcz) <;> (try simp (maxSteps := 1000000) (disch := omega) [ip, wr, hcz, hN, inRange', cellOkB]))
 all_goals omega
theorem heapFrom_foldM (h : List KCell) : ∀ (l : List KCell) (i : Int) (r : Option Int), l.foldlM (fun (i : Int) c => if cellAt h i c = true then some (i + 1) else none) i = r → (heapFrom h i l = true ↔ r = some (i + l.length)) ∧ (r = none ∨ r = some (i + l.length))
 | [], i, r, e => by
  rw [← e]
  simp [heapFrom]
 | c :: l, i, r, e => by
  rw [List.foldlM_cons] at e
  by_cases hc : cellAt h i c = true
  ·simp [hc] at e
   have := heapFrom_foldM h l (i + 1) r e
   have e2 : i + 1 + (l.length : Int) = i + ((c :: l).length : Int) := by simp; omega
   rw [e2] at this
   simpa [heapFrom, hc] using this
  ·simp [hc] at e
   rw [← e]
   simp [heapFrom, hc]
theorem heapB_bad {h : List KCell} (hl : h.length ≤ 300) (e : h.foldlM (fun (i : Int) c => if cellAt h i c = true then some (i + 1) else none) 0 = none) : heapB h = false := by
 have := (heapFrom_foldM h h 0 _ e).1
 unfold heapB
 simp at this
 simp [this]
theorem heapB_good {h : List KCell} {i : Int} (hl : h.length ≤ 300) (e : h.foldlM (fun (i : Int) c => if cellAt h i c = true then some (i + 1) else none) 0 = some i) : heapB h = true := by
 have := heapFrom_foldM h h 0 _ e
 unfold heapB
 simp [hl]
 rcases this with ⟨h1, h2 | h2⟩
 ·cases h2
 ·exact h1.2 h2
theorem fold_at {h : List KCell} {l : List KCell} {i : Nat} {n : Int} (hi : (i : Int) < l.length) (e : (l.take i).foldlM (fun (i : Int) c => if cellAt h i c = true then some (i + 1) else none) 0 = some n) : n = i := by
 rcases (heapFrom_foldM h (l.take i) 0 _ e).2 with h2 | h2
 ·cases h2
 ·simp at h2
  omega
theorem implHeapOk (h : List KCell) (hw : (h.length : Int) + KCell.us h ≤ 1048576) : A 60 [.leaf (KCell.sl false h)] = some ([.leaf (.bool (heapB h))], [.gone]) := by
 refine run_impl_HeapOk ?_
 by_cases hl : h.length ≤ 300
 ·have hl' : ¬ 300 < (h.length : Int) := by omega
  simp (maxSteps := 1000000) (disch := omega) [ip, wr, impl_HeapOk.b, hl']
  refine at_foldM (fun e i (s : Int) => e.put 10 (.v (.leaf (.int .i64 i)))) impl_HeapOk.l0.eq_1 (fun (i : Int) c => if cellAt h i c = true then some (i + 1) else none) h 0 (by simp) (fun s g => ?_) (fun i c n s' hx hi hs hf ih => ?_) (fun i c n hx hi hs hf g => ?_)
  ·have := heapB_good hl g
   simp (maxSteps := 1000000) (disch := omega) [ip, wr, this]
  ·obtain rfl := fold_at hi hs
   have hcw := cells_at hx
   have h1 := implCellOk c (by omega)
   simp only [KCell.w] at hcw
   have h2 := implValuesOk h c.vals (by omega) (by omega) (by omega)
   have h3 := implAreBelow c.vals i (by omega)
   split at hf
   ·rename_i hp
    unfold cellAt at hp
    simp only [Bool.and_eq_true, Bool.or_eq_true, decide_eq_true_eq] at hp
    obtain ⟨p1, p2, p3⟩ := hp
    rw [p1] at h1
    rw [p2] at h2
    by_cases k3 : c.kind = 3
    ·simp (maxSteps := 1000000) (disch := omega) [ip, wr, hx, at_get hx, h1, h2]
     refine run_env ih ?_
     simp
    ·rw [p3.resolve_left k3] at h3
     simp (maxSteps := 1000000) (disch := omega) [ip, wr, hx, at_get hx, h1, h2, h3]
     refine run_env ih ?_
     simp
   ·cases hf
  ·obtain rfl := fold_at hi hs
   have hcw := cells_at hx
   have h1 := implCellOk c (by omega)
   simp only [KCell.w] at hcw
   have h2 := implValuesOk h c.vals (by omega) (by omega) (by omega)
   have h3 := implAreBelow c.vals i (by omega)
   have hbad := heapB_bad hl g
   split at hf
   ·cases hf
   ·rename_i hp
    unfold cellAt at hp
    cases p1 : cellOkB c <;> rw [p1] at h1 hp
    ·simp (maxSteps := 1000000) (disch := omega) [ip, wr, hx, at_get hx, h1, hbad]
    ·cases p2 : c.vals.all (valB h) <;> rw [p2] at h2 hp
     ·simp (maxSteps := 1000000) (disch := omega) [ip, wr, hx, at_get hx, h1, h2, hbad]
     ·cases p3 : c.vals.all (belowB i) <;> rw [p3] at h3 hp
      ·have k3 : ¬ c.kind = 3 := by simpa using hp
       simp (maxSteps := 1000000) (disch := omega) [ip, wr, hx, at_get hx, h1, h2, h3, hbad]
      ·simp at hp
 ·have hl' : 300 < (h.length : Int) := by omega
  simp (maxSteps := 1000000) (disch := omega) [ip, wr, impl_HeapOk.b, hl', heapB, hl]
theorem l6Points (v : KValue) : A 125 [.agg (KValue.row false v)] = some ([.leaf (.bool (points v))], [.gone]) := by
 refine run_spec_l6Points ?_
 simp (maxSteps := 1000000) (disch := omega) [ip, wr, spec_l6Points.b, l1In', points]
theorem specCellAt (h : List KCell) (i : Nat) (c : KCell) (hc : h[i]? = some c) (hw : (h.length : Int) + KCell.us h ≤ 1048576) : A 64 [.leaf (KCell.sl false h), .leaf (.int .i64 i)] = some ([.leaf (.bool (cellAt h i c))], [.gone, .gone]) := by
 have hcw := cells_at hc
 simp only [KCell.w] at hcw
 have hil : i < h.length := (List.getElem?_eq_some_iff.1 hc).1
 refine run_spec_l6CellOk ?_
 simp (maxSteps := 1000000) (disch := omega) [ip, wr, spec_l6CellOk.b, hc, at_get hc, hil]
 refine at_all 6 spec_l6CellOk.l0.eq_1 (fun v => valB h v && (decide (c.kind = 3) || belowB i v)) c.vals (by simp) (fun g => ?_) (fun j x hx hi hp ih => ?_) (fun j x hx hi hp g => ?_)
 ·have e : cellAt h i c = cellOkB c := by
   have g1 : c.vals.all (valB h) = true := by
    rw [List.all_eq_true] at g ⊢
    intro v hv
    have := g v hv
    simp at this
    exact this.1
   have g2 : (decide (c.kind = 3) || c.vals.all (belowB i)) = true := by
    by_cases k3 : c.kind = 3
    ·simp [k3]
    ·rw [List.all_eq_true] at g
     simp only [k3, decide_false, Bool.false_or, List.all_eq_true]
     intro v hv
     have := g v hv
     simp [k3] at this
     exact this.2
   unfold cellAt
   rw [g1, g2]
   simp
  rw [e]
  by_cases k1 : c.kind = 1
  ·simp (maxSteps := 1000000) (disch := omega) [ip, wr, cellOkB, k1]
   all_goals repeat' ((first | refine runD_cases (fun hcz => ?_) (fun hcz => ?_) | refine gopB_cases (fun hcz => ?_) (fun hcz => ?_) | refine gopB_drawn (fun hcz => ?_) (fun hcz => ?_)) <;> (try simp only [decide_eq_true_eq, decide_eq_false_iff_not, Bool.not_eq_true', Bool.not_eq_false', Bool.not_eq_true, Bool.not_eq_false] at hcz) <;> (try simp (maxSteps := 1000000) (disch := omega) [ip, wr, hcz, cellOkB, k1]))
   all_goals omega
  ·by_cases k2 : c.kind = 2
   ·simp (maxSteps := 1000000) (disch := omega) [ip, wr, k1, k2]
    refine at_all 7 spec_l6CellOk.l1.eq_1 isName c.names (by simp) (fun g => ?_) (fun j x hx hi hp ih => ?_) (fun j x hx hi hp g => ?_)
    ·simp (maxSteps := 1000000) (disch := omega) [ip, wr, cellOkB, k1, k2, g]
     all_goals repeat' ((first | refine runD_cases (fun hcz => ?_) (fun hcz => ?_) | refine gopB_cases (fun hcz => ?_) (fun hcz => ?_) | refine gopB_drawn (fun hcz => ?_) (fun hcz => ?_)) <;> (try simp only [decide_eq_true_eq, decide_eq_false_iff_not, Bool.not_eq_true', Bool.not_eq_false', Bool.not_eq_true, Bool.not_eq_false] at hcz) <;> (try simp (maxSteps := 1000000) (disch := omega) [ip, wr, hcz, cellOkB, k1, k2, g]))
     all_goals omega
    ·have h1 := specIsName x (by have := strs_at hx; omega)
     rw [hp] at h1
     simp (maxSteps := 1000000) (disch := omega) [ip, wr, hx, at_get hx, h1]
     refine run_env ih ?_
     simp
    ·have h1 := specIsName x (by have := strs_at hx; omega)
     rw [hp] at h1
     simp (maxSteps := 1000000) (disch := omega) [ip, wr, hx, at_get hx, h1, cellOkB, k2, g]
   ·simp (maxSteps := 1000000) (disch := omega) [ip, wr, k1, k2, l1In', cellOkB]
    all_goals repeat' ((first | refine runD_cases (fun hcz => ?_) (fun hcz => ?_) | refine gopB_cases (fun hcz => ?_) (fun hcz => ?_) | refine gopB_drawn (fun hcz => ?_) (fun hcz => ?_)) <;> (try simp only [decide_eq_true_eq, decide_eq_false_iff_not, Bool.not_eq_true', Bool.not_eq_false', Bool.not_eq_true, Bool.not_eq_false] at hcz) <;> (try simp (maxSteps := 1000000) (disch := omega) [ip, wr, hcz, k1, k2, l1In', cellOkB]))
    all_goals omega
 ·have h1 := specValueOk h x (by omega) (by have := vals_at hx; simp only [KValue.w] at this; omega)
  have h2 := l6Points x
  simp only [Bool.and_eq_true, Bool.or_eq_true, decide_eq_true_eq, belowB, Bool.not_eq_true'] at hp
  rw [hp.1] at h1
  by_cases k3 : c.kind = 3
  ·simp (maxSteps := 1000000) (disch := omega) [ip, wr, hx, at_get hx, h1]
   refine run_env ih ?_
   simp
  ·have hp2 := hp.2.resolve_left k3
   cases hq : points x <;> rw [hq] at h2 hp2
   ·simp (maxSteps := 1000000) (disch := omega) [ip, wr, hx, at_get hx, h1, h2]
    refine run_env ih ?_
    simp
   ·have hn : x.n < i := by simpa using hp2
    simp (maxSteps := 1000000) (disch := omega) [ip, wr, hx, at_get hx, h1, h2, hn]
    refine run_env ih ?_
    simp
 ·have h1 := specValueOk h x (by omega) (by have := vals_at hx; simp only [KValue.w] at this; omega)
  have h2 := l6Points x
  have hbad : cellAt h i c = false := by
   cases hh : cellAt h i c with
   | false => rfl
   | true =>
    unfold cellAt at hh
    simp only [Bool.and_eq_true, Bool.or_eq_true, decide_eq_true_eq, List.all_eq_true] at hh
    have hm := List.mem_of_getElem? hx
    have := hh.2.1 x hm
    rw [this] at hp
    simp at hp
    rcases hh.2.2 with k3 | k3
    ·exact absurd k3 hp.1
    ·have := k3 x hm
     rw [this] at hp
     simp at hp
  rw [hbad]
  cases hv : valB h x <;> rw [hv] at h1 hp
  ·simp (maxSteps := 1000000) (disch := omega) [ip, wr, hx, at_get hx, h1]
  ·simp [belowB] at hp
   obtain ⟨k3, k5, k6⟩ := hp
   rw [k5] at h2
   simp (maxSteps := 1000000) (disch := omega) [ip, wr, hx, at_get hx, h1, h2, k6]
theorem specHeapOk (h : List KCell) (hw : (h.length : Int) + KCell.us h ≤ 1048576) : A 14 [.leaf (KCell.sl false h)] = some ([.leaf (.bool (heapB h))], [.gone]) := by
 refine run_spec_HeapOk ?_
 by_cases hl : h.length ≤ 300
 ·have hl' : ¬ 300 < (h.length : Int) := by omega
  simp (maxSteps := 1000000) (disch := omega) [ip, wr, spec_HeapOk.b, hl']
  refine at_foldM (fun e i (s : Int) => e.put 3 (.v (.leaf (.int .i64 i)))) spec_HeapOk.l0.eq_1 (fun (i : Int) c => if cellAt h i c = true then some (i + 1) else none) h 0 (by simp) (fun s g => ?_) (fun i c n s' hx hi hs hf ih => ?_) (fun i c n hx hi hs hf g => ?_)
  ·have := heapB_good hl g
   simp (maxSteps := 1000000) (disch := omega) [ip, wr, this]
  ·obtain rfl := fold_at hi hs
   have h1 := specCellAt h i c hx hw
   split at hf
   ·rename_i hp
    rw [hp] at h1
    simp (maxSteps := 1000000) (disch := omega) [ip, wr, hx, at_get hx, h1]
    refine run_env ih ?_
    simp
   ·cases hf
  ·obtain rfl := fold_at hi hs
   have h1 := specCellAt h i c hx hw
   have hbad := heapB_bad hl g
   split at hf
   ·cases hf
   ·rename_i hp
    have hp : cellAt h i c = false := by simpa using hp
    rw [hp] at h1
    simp (maxSteps := 1000000) (disch := omega) [ip, wr, hx, at_get hx, h1, hbad]
 ·have hl' : 300 < (h.length : Int) := by omega
  simp (maxSteps := 1000000) (disch := omega) [ip, wr, spec_HeapOk.b, hl', heapB, hl]
end Go.Proofs.YticecjjfbjnaaaaGreatDoor.SA
