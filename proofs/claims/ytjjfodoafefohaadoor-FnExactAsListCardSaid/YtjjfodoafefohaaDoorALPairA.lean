/- Pairs of a right heap: what they are made of lies below. -/
import Derived.Test.YtjjfodoafefohaaDoorALHeapA
namespace Go.Proofs.YtjjfodoafefohaaDoor.AL
open Go Go.VS Go.Lib
set_option maxRecDepth 10000
set_option maxHeartbeats 8000000
set_option linter.unusedSimpArgs false
set_option linter.unusedVariables false
theorem heapFrom_get (h : List KCell) : ∀ (l : List KCell) (i : Int) (j : Nat) (c : KCell), heapFrom h i l = true → l[j]? = some c → cellAt h (i + j) c = true
  | [], i, j, c, _, hj => by simp at hj
  | x :: l, i, j, c, hh, hj => by
    simp only [heapFrom, Bool.and_eq_true] at hh
    cases j with
    | zero => simp at hj; subst hj; simpa using hh.1
    | succ j =>
      have := heapFrom_get h l (i + 1) j c hh.2 (by simpa using hj)
      have e : i + 1 + (j : Int) = i + ((j + 1 : Nat) : Int) := by omega
      rwa [e] at this
theorem heap_get {h : List KCell} (hh : heapB h = true) {j : Nat} {c : KCell} (hj : h[j]? = some c) : cellAt h j c = true := by
  unfold heapB at hh
  simp only [Bool.and_eq_true] at hh
  have := heapFrom_get h h 0 j c hh.2 hj
  simpa using this
/-- How deep what a value names lies. -/
def rank (v : KValue) : Nat := if v.kind = 5 then v.n.toNat + 1 else 0
structure IsPair (h : List KCell) (v : KValue) (c : KCell) (a b : KValue) : Prop where
  lo : 0 ≤ v.n
  hi : v.n < h.length
  get : h[v.n.toNat]? = some c
  vals : c.vals = [a, b]
  va : valB h a = true
  vb : valB h b = true
  ra : rank a < rank v
  rb : rank b < rank v
theorem pair_of {h : List KCell} {v : KValue} (hh : heapB h = true) (hv : valB h v = true) (hk : v.kind = 5) : ∃ c a b, IsPair h v c a b := by
  have hv2 : cellB h v.n 1 = true := by
    unfold valB at hv
    simp [hk] at hv
    exact hv.2
  rcases cellB_cases h v.n with ⟨c, h0, h1, hc, hB⟩ | ⟨_, hB⟩
  · have k1 : c.kind = 1 := by simpa [hB 1] using hv2
    have hat := heap_get hh hc
    unfold cellAt at hat
    simp only [Bool.and_eq_true, Bool.or_eq_true, decide_eq_true_eq, k1] at hat
    obtain ⟨q1, q2, q3⟩ := hat
    have q3 := q3.resolve_left (by decide)
    have hl : c.vals.length = 2 := by
      unfold cellOkB at q1
      simp [k1] at q1
      exact q1.2
    obtain ⟨a, b, hab⟩ : ∃ a b, c.vals = [a, b] := by
      match hvv : c.vals, hl with
      | [a, b], _ => exact ⟨a, b, rfl⟩
    rw [hab] at q2 q3
    simp only [List.all_cons, List.all_nil, Bool.and_true, Bool.and_eq_true] at q2 q3
    have hr : ∀ x, valB h x = true → belowB (v.n.toNat : Nat) x = true → rank x < rank v := by
      intro x hvx hx
      unfold belowB at hx
      unfold rank
      rw [if_pos hk]
      split
      · rename_i kx
        have hpt : points x = true := by simp [points, within, kx]
        rw [hpt] at hx
        simp only [Bool.not_true, Bool.false_or, decide_eq_true_eq] at hx
        have h0x : 0 ≤ x.n := by
          unfold valB at hvx
          simp [kx, cellB] at hvx
          exact hvx.2.1
        omega
      · omega
    exact ⟨c, a, b, h0, h1, hc, hab, q2.1, q2.2, hr a q2.1 q3.1, hr b q2.2 q3.2⟩
  · rw [hB 1] at hv2; cases hv2
/-- The cell that a right value of a function or a record names. -/
theorem cell_of {h : List KCell} {v : KValue} (hv : valB h v = true) (hk : v.kind = 5 ∨ v.kind = 6 ∨ v.kind = 7) : ∃ c, 0 ≤ v.n ∧ v.n < h.length ∧ h[v.n.toNat]? = some c ∧ c.kind = v.kind - 4 := by
  have hv2 : cellB h v.n (v.kind - 4) = true := by
    unfold valB at hv
    rcases hk with hk | hk | hk <;> simp [hk] at hv <;> simp [hk, hv.2]
  rcases cellB_cases h v.n with ⟨c, h0, h1, hc, hB⟩ | ⟨_, hB⟩
  · exact ⟨c, h0, h1, hc, by simpa [hB] using hv2⟩
  · rw [hB] at hv2; cases hv2
end Go.Proofs.YtjjfodoafefohaaDoor.AL
