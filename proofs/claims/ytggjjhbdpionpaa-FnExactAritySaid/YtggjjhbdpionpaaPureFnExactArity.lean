/- Arity of the program and of the reference answer alike for every text. No condition. -/
import Derived.Test.YtggjjhbdpionpaaPFnExactArityq
import Derived.Test.YtggjjhbdpionpaaAuxWords
namespace Go.Proofs.Ytggjjhbdpionpaa.Pure
open Go.RowKit Go.Proofs.Ytggjjhbdpionpaa.Aux Go.Proofs.Ytggjjhbdpionpaa.PFnExactArity Go.Proofs.YtggjjhbdpionpaaW.PrintWords Go.Proofs.YtggjjhbdpionpaaW.PrintLast Go.Proofs.YtggjjhbdpionpaaW.PrintMore

def twos : List (List UInt8) := [[43], [45], [42], [60], [61], [101, 113, 63], [99, 111, 110, 115]]
def ones : List (List UInt8) := [[99, 97, 114], [99, 100, 114], [110, 117, 108, 108, 63], [112, 97, 105, 114, 63], [110, 111, 116], [112, 114, 105, 110, 116], [101, 114, 114, 111, 114], [102, 105, 101, 108, 100], [105, 115]]
/-- How many arguments a primitive takes. -/
def ar (l : List UInt8) : Int := if l ∈ twos then 2 else if l ∈ ones then 1 else if l = [109, 97, 107, 101] then 0 else -1

theorem spaced_data (a : ByteArray) : (spaced a).data.toList = 32 :: (a.data.toList ++ [32]) := by
  unfold spaced
  rw [ByteArray.data_append, ByteArray.data_append, Array.toList_append, Array.toList_append]
  rfl

theorem isOneOf_is (a row : ByteArray) (ws : List (List UInt8)) (hs : a.size < 4294967200) (hs1 : row.size < 4294967200) (hrow : 32 :: (row.data.toList ++ [32]) = joinT ws) (hws : ∀ v ∈ ws, (32 : UInt8) ∉ v ∧ v ≠ []) :
    impl_isOneOf.f a row = some (decide (a.toList ∈ ws)) := by
  unfold impl_isOneOf.f
  rw [if_pos ⟨hs, hs1⟩, spaced_data, spaced_data, ByteArray.toList_eq, oneOf _ _ ws hrow hws]

theorem impl_arity_is (a : ByteArray) (hs : a.size < 4294967200) : impl_Arity.f a = some (ar a.toList) := by
  unfold impl_Arity.f
  rw [isOneOf_is a _ twos hs (by decide) (by decide) (by decide), isOneOf_is a _ ones hs (by decide) (by decide) (by decide)]
  simp only [Option.bind_some, ar, decide_eq_true_eq]
  split
  · rfl
  · split
    · rfl
    · split <;> rfl

theorem spec_arity_is (a : ByteArray) : Ev (fun k => spec_Arity.f k a) (ar a.toList) := by
  have j1 : ∀ b : Bool, Ev (fun k => spec_Arity.j1 k a b) (if b = true then 1 else if a.toList = [109, 97, 107, 101] then 0 else -1) := by
    intro b
    refine Ev.step (fun k => ?_) (Ev.now _)
    simp only [spec_Arity.j1]
    split
    · rfl
    · split <;> rfl
  have j0 : ∀ b : Bool, Ev (fun k => spec_Arity.j0 k a b) (if b = true then 2 else if a.toList ∈ ones then 1 else if a.toList = [109, 97, 107, 101] then 0 else -1) := by
    intro b
    cases b with
    | true => exact Ev.step (fun k => by simp only [spec_Arity.j0]; rfl) (Ev.now _)
    | false =>
      have hj := j1 (decide (a.toList ∈ ones))
      simp only [decide_eq_true_eq] at hj
      refine Ev.step (fun k => ?_) hj
      simp only [spec_Arity.j0, ones, List.mem_cons, List.not_mem_nil, or_false]
      repeat' split
      all_goals simp_all
      all_goals rw [beq_dec]
  have h := j0 (decide (a.toList ∈ twos))
  simp only [decide_eq_true_eq] at h
  refine Ev.congr (fun k => ?_) h
  simp only [spec_Arity.f, twos, List.mem_cons, List.not_mem_nil, or_false]
  repeat' split
  all_goals simp_all
  all_goals rw [beq_dec]

theorem FnExactArity : laws_FnExactArity.Pure := by
  intro s hs
  unfold laws_FnExactArity.f
  by_cases hbig : (s.size : Int) > 1048576
  · exact ⟨0, by rw [if_pos hbig]⟩
  · refine Ev.rounds (ev_if_neg hbig (Ev.bind (spec_arity_is s) ?_))
    rw [impl_arity_is s (by omega)]
    refine ⟨0, fun k _ => ?_⟩
    simp

end Go.Proofs.Ytggjjhbdpionpaa.Pure
