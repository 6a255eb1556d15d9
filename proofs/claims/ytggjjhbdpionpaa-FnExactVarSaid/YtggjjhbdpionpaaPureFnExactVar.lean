/- Var of the program and of the reference answer alike for every number. No condition. -/
import Derived.Test.YtggjjhbdpionpaaPFnExactVarx1
import Derived.Test.YtggjjhbdpionpaaAux
namespace Go.Proofs.Ytggjjhbdpionpaa.Pure
open Go.RowKit Go.Proofs.Ytggjjhbdpionpaa.Aux Go.Proofs.Ytggjjhbdpionpaa.PFnExactVar Go.Proofs.YtggjjhbdpionpaaW.PrintWords Go.Proofs.YtggjjhbdpionpaaW.PrintLast

theorem var_loops (d : Nat) : ∀ (x : Int) (l : List Int), 0 ≤ x → x < 9223372036854775808 → x < 128 ^ (d + 1) → l.length + d ≤ 100 →
    ∃ r, Ev (fun k => spec_Var.l0 k x l) r ∧ Ev (fun k => impl_Var.l0 k x l) r := by
  induction d with
  | zero =>
    intro x l h0 h1 h2 hl
    rw [show (0 + 1 : Nat) = 1 from rfl, Int.pow_succ, Int.pow_zero] at h2
    refine ⟨strOfNums (l ++ [x % 256]), Ev.step (fun k => ?_) (Ev.now _), Ev.step (fun k => ?_) (Ev.now _)⟩
    · simp only [spec_Var.l0]; rw [if_neg (by omega), if_pos (by omega)]
    · simp only [impl_Var.l0]; rw [if_neg (by omega), if_pos (by omega)]
  | succ d ih =>
    intro x l h0 h1 h2 hl
    by_cases hx : x ≥ 128
    · have hq : x / 128 < 128 ^ (d + 1) := by rw [Int.pow_succ] at h2; omega
      obtain ⟨r, r1, r2⟩ := ih (x / 128) (l ++ [(128 + x % 128) % 256]) (by omega) (by omega) hq (by rw [List.length_append, List.length_singleton]; omega)
      refine ⟨r, Ev.step (fun k => ?_) r1, Ev.step (fun k => ?_) r2⟩
      · simp only [spec_Var.l0]
        rw [if_pos hx, if_pos (by omega), tdiv_nn h0, tmod_nn h0, w64 (by omega) (by omega), w64 (by omega) (by omega)]
      · simp only [impl_Var.l0]
        have e1 : Go.bits .and .i64 x 127 = x % 128 := and64 7 (by omega) h0 (by omega)
        rw [if_pos (by omega), if_pos (by omega), e1, or64 7 (by omega) (by omega) (by omega) (by omega) (by omega) (by omega)]
    · refine ⟨strOfNums (l ++ [x % 256]), Ev.step (fun k => ?_) (Ev.now _), Ev.step (fun k => ?_) (Ev.now _)⟩
      · simp only [spec_Var.l0]; rw [if_neg (by omega), if_pos (by omega)]
      · simp only [impl_Var.l0]; rw [if_neg (by omega), if_pos (by omega)]

theorem var_same (x : Int) : ∃ r, Ev (fun k => spec_Var.f k x) r ∧ Ev (fun k => impl_Var.f k x) r := by
  unfold spec_Var.f impl_Var.f spec_l1In.f impl_inRange.f
  by_cases h : x ≥ 0
  · by_cases h2 : x ≤ 562949953421311
    · simp only [if_pos h, Option.bind_some, decide_eq_true h2, if_true]
      exact var_loops 6 x [] h (by omega) (by show x < 562949953421312; omega) (by decide)
    · simp only [if_pos h, Option.bind_some, decide_eq_false h2, Bool.false_eq_true, if_false]
      exact ⟨_, Ev.now _, Ev.now _⟩
  · simp only [if_neg h, Option.bind_some, Bool.false_eq_true, if_false]
    exact ⟨_, Ev.now _, Ev.now _⟩

theorem FnExactVar : laws_FnExactVar.Pure := by
  intro x _
  obtain ⟨r, h1, h2⟩ := var_same x
  refine Ev.rounds (Ev.bind h1 (Ev.bind h2 ⟨0, fun k _ => ?_⟩))
  simp

end Go.Proofs.Ytggjjhbdpionpaa.Pure
