/- Plain lemmas on words in a row of words: no program in sight. -/
import Derived.Test.YtgfejfeafppagaaDoorZFnExactProgOkAux
import Derived.Lib.Index
import Derived.Lib.IndexMore
namespace Go.Proofs.YtgfejfeafppagaaDoor.Aux
open Go.RowKit Go.Proofs.YtgfejfeafppagaaDoorW.PrintWords Go.Proofs.YtgfejfeafppagaaDoorW.PrintLast Go.Proofs.YtgfejfeafppagaaDoorW.PrintMore

theorem contains_cons (b : UInt8) (l sub : List UInt8) : Lib.contains (b :: l) sub = (sub.isPrefixOf (b :: l) || Lib.contains l sub) := by
  unfold Lib.contains
  rw [Lib.index]
  have := Lib.index_ge l sub
  by_cases h : sub.isPrefixOf (b :: l) = true
  · simp [h]
  · simp only [h, Bool.false_or]
    by_cases h2 : (Lib.index l sub == -1) = true
    · have h3 : Lib.index l sub = -1 := by simpa using h2
      simp [h3]
    · have h3 : Lib.index l sub ≠ -1 := by simpa using h2
      simp only [h2]
      have a1 : decide (0 ≤ Lib.index l sub + 1) = true := by simp; omega
      have a2 : decide (0 ≤ Lib.index l sub) = true := by simp; omega
      simp [a1, a2]

theorem contains_nil (sub : List UInt8) : Lib.contains [] sub = sub.isEmpty := by
  unfold Lib.contains
  rw [Lib.index]
  cases sub <;> simp

/-- Words, each with a blank ahead, and a blank behind all. -/
def joinT : List (List UInt8) → List UInt8
  | [] => [32]
  | v :: ws => 32 :: (v ++ joinT ws)

theorem joinT_head (ws : List (List UInt8)) : ∃ t, joinT ws = 32 :: t := by
  cases ws with
  | nil => exact ⟨[], rfl⟩
  | cons v ws => exact ⟨v ++ joinT ws, rfl⟩

/-- Up to the first blank two words are alike or not. -/
theorem prefix_word : ∀ (w v t : List UInt8), (32 : UInt8) ∉ w → (32 : UInt8) ∉ v → ((w ++ [32]).isPrefixOf (v ++ 32 :: t) = true ↔ w = v)
  | [], [], t, _, _ => by simp [List.isPrefixOf]
  | [], b :: v, t, _, hv => by
    simp only [List.mem_cons, not_or] at hv
    simp [List.isPrefixOf, hv.1]
  | a :: w, [], t, hw, _ => by
    simp only [List.mem_cons, not_or] at hw
    simp [List.isPrefixOf, Ne.symm hw.1]
  | a :: w, b :: v, t, hw, hv => by
    simp only [List.mem_cons, not_or] at hw hv
    have ih := prefix_word w v t hw.2 hv.2
    simp only [List.cons_append, List.isPrefixOf, Bool.and_eq_true, beq_iff_eq, List.cons.injEq]
    rw [ih]

theorem contains_skip (w : List UInt8) : ∀ (v t : List UInt8), (32 : UInt8) ∉ v → Lib.contains (v ++ t) (32 :: (w ++ [32])) = Lib.contains t (32 :: (w ++ [32]))
  | [], t, _ => rfl
  | b :: v, t, hv => by
    simp only [List.mem_cons, not_or] at hv
    rw [List.cons_append, contains_cons, contains_skip w v t hv.2]
    simp [List.isPrefixOf, hv.1]

theorem contains_joinT (w : List UInt8) (hw : (32 : UInt8) ∉ w) : ∀ ws : List (List UInt8), (∀ v ∈ ws, (32 : UInt8) ∉ v) → (Lib.contains (joinT ws) (32 :: (w ++ [32])) = true ↔ w ∈ ws)
  | [], _ => by
    rw [joinT, contains_cons, contains_nil]
    cases w <;> simp [List.isPrefixOf]
  | v :: ws, hws => by
    have ih := contains_joinT w hw ws (fun x hx => hws x (by simp [hx]))
    have hv := hws v (by simp)
    obtain ⟨t, ht⟩ := joinT_head ws
    rw [joinT, contains_cons, contains_skip w v _ hv, Bool.or_eq_true, ih, List.mem_cons]
    have : ((32 :: (w ++ [32])).isPrefixOf (32 :: (v ++ joinT ws)) = true ↔ w = v) := by
      rw [List.isPrefixOf, ht]
      simp only [beq_self_eq_true, Bool.true_and]
      exact prefix_word w v t hw hv
    rw [this]

theorem contains_blank (w : List UInt8) : Lib.contains w [32] = true ↔ (32 : UInt8) ∈ w := by
  induction w with
  | nil => rw [contains_nil]; simp
  | cons b w ih =>
    rw [contains_cons, Bool.or_eq_true, ih, List.mem_cons]
    simp [List.isPrefixOf]

/-- What isOneOf answers: is it one of the words? -/
theorem oneOf (w row : List UInt8) (ws : List (List UInt8)) (hrow : 32 :: (row ++ [32]) = joinT ws) (hws : ∀ v ∈ ws, (32 : UInt8) ∉ v ∧ v ≠ []) :
    ((!(w == [])) && (!(Lib.contains w [32]) && Lib.contains (32 :: (row ++ [32])) (32 :: (w ++ [32])))) = decide (w ∈ ws) := by
  rw [Bool.eq_iff_iff, decide_eq_true_iff, Bool.and_eq_true, Bool.and_eq_true, hrow]
  constructor
  · intro ⟨_, h2, h3⟩
    have hn : (32 : UInt8) ∉ w := fun h => by
      rw [(contains_blank w).mpr h] at h2
      cases h2
    exact (contains_joinT w hn ws (fun v hv => (hws v hv).1)).mp h3
  · intro h
    have hn := (hws w h).1
    refine ⟨by have := (hws w h).2; simpa using this, ?_, (contains_joinT w hn ws (fun v hv => (hws v hv).1)).mpr h⟩
    cases hc : Lib.contains w [32] with
    | false => rfl
    | true => exact absurd ((contains_blank w).mp hc) hn

end Go.Proofs.YtgfejfeafppagaaDoor.Aux
