/- ReadFixed of the program and of the reference answer alike for every text and width. No condition. -/
import Derived.Test.YtggjjhbdpionpaaPFnExactReadFixedx1
import Derived.Test.YtggjjhbdpionpaaAux
namespace Go.Proofs.Ytggjjhbdpionpaa.Pure
open Go.RowKit Go.Proofs.Ytggjjhbdpionpaa.Aux Go.Proofs.Ytggjjhbdpionpaa.PFnExactReadFixed Go.Proofs.YtggjjhbdpionpaaW.PrintWords Go.Proofs.YtggjjhbdpionpaaW.PrintLast

theorem pow256 {i : Nat} (h : i ≤ 6) : (256 : Int) ^ i ≤ 281474976710656 := by
  obtain rfl | rfl | rfl | rfl | rfl | rfl | rfl : i = 0 ∨ i = 1 ∨ i = 2 ∨ i = 3 ∨ i = 4 ∨ i = 5 ∨ i = 6 := by omega
  all_goals decide

theorem readFixed_loops (s : ByteArray) (d : Nat) : ∀ (i : Nat) (n : Int), i + d ≤ 7 → i + d ≤ s.size → 0 ≤ n → n < 256 ^ i →
    ∃ r, Ev (fun k => spec_ReadFixed.l0 k s (i + d : Nat) n i) (r, true) ∧ Ev (fun k => impl_ReadFixed.l0 k s n (i + d : Nat) i) (r, true) := by
  induction d with
  | zero =>
    intro i n h7 hs h0 h1
    refine ⟨n, Ev.step (f := fun _ => some (n, true)) (fun k => ?_) (Ev.now _), Ev.step (f := fun _ => some (n, true)) (fun k => ?_) (Ev.now _)⟩
    · simp only [spec_ReadFixed.l0]; rw [if_neg (by omega)]
    · simp only [impl_ReadFixed.l0]; rw [if_neg (by omega)]
  | succ d ih =>
    intro i n h7 hs h0 h1
    have hb0 := bt0 s i
    have hb1 := bt1 s i
    have hn : n < 281474976710656 := Int.lt_of_lt_of_le h1 (pow256 (by omega))
    obtain ⟨r, hr1, hr2⟩ := ih (i + 1) (n * 256 + bt s i) (by omega) (by omega) (by omega) (by rw [Int.pow_succ]; omega)
    rw [show i + 1 + d = i + (d + 1) from by omega] at hr1 hr2
    refine ⟨r, Ev.step (f := fun k => spec_ReadFixed.l0 k s (i + (d + 1) : Nat) (n * 256 + bt s i) (i + 1 : Nat)) (fun k => ?_) hr1, Ev.step (f := fun k => impl_ReadFixed.l0 k s (n * 256 + bt s i) (i + (d + 1) : Nat) (i + 1 : Nat)) (fun k => ?_) hr2⟩
    · simp only [spec_ReadFixed.l0]
      rw [if_pos (by omega), if_pos (by omega), if_pos (by omega), w64 (n := (n : Int) * 256) (by omega) (by omega), w64 (n := bt s i) (by omega) (by omega), w64 (n := (i : Int) + 1) (by omega) (by omega), w64 (by omega) (by omega)]
      rfl
    · simp only [impl_ReadFixed.l0]
      rw [if_pos (by omega), if_pos (by omega), if_pos (by omega), w64 (n := (n : Int) * 256) (by omega) (by omega), w64 (n := bt s i) (by omega) (by omega), w64 (n := (i : Int) + 1) (by omega) (by omega), or64 8 (by omega) (by omega) (by omega) (by omega) (by omega) (by omega)]
      rfl

theorem readFixed_same (s : ByteArray) (a1 : Int) : ∃ r, Ev (fun k => spec_ReadFixed.f k s a1) r ∧ Ev (fun k => impl_ReadFixed.f k s a1) r := by
  unfold spec_ReadFixed.f impl_ReadFixed.f spec_l1In.f impl_inRange.f
  by_cases h : a1 ≥ 1 ∧ a1 ≤ 7
  · obtain ⟨d, rfl⟩ := Int.eq_ofNat_of_zero_le (show 0 ≤ a1 by omega)
    simp only [if_pos h.1, Option.bind_some, decide_eq_true h.2, if_true]
    by_cases hs : (s.size : Int) < d
    · simp only [decide_eq_true hs]
      exact ⟨(0, false), Ev.step (fun k => by simp only [spec_ReadFixed.j0, if_true]) (Ev.now _), Ev.step (fun k => by simp only [impl_ReadFixed.j0, if_true]) (Ev.now _)⟩
    · obtain ⟨r, h1, h2⟩ := readFixed_loops s d 0 0 (by omega) (by omega) (by omega) (by decide)
      rw [Nat.zero_add] at h1 h2
      simp only [decide_eq_false hs]
      exact ⟨(r, true), Ev.step (fun k => by simp only [spec_ReadFixed.j0]; rfl) h1, Ev.step (fun k => by simp only [impl_ReadFixed.j0]; rfl) h2⟩
  · have e : (if a1 ≥ 1 then some (decide (a1 ≤ 7)) else some false) = some false := by
      by_cases h1 : a1 ≥ 1
      · rw [if_pos h1, decide_eq_false (fun h2 => h ⟨h1, h2⟩)]
      · rw [if_neg h1]
    rw [e]
    show ∃ r, Ev (fun k => spec_ReadFixed.j0 k s a1 true) r ∧ Ev (fun k => impl_ReadFixed.j0 k s a1 true) r
    exact ⟨(0, false), Ev.step (fun k => by simp only [spec_ReadFixed.j0, if_true]) (Ev.now _), Ev.step (fun k => by simp only [impl_ReadFixed.j0, if_true]) (Ev.now _)⟩

theorem FnExactReadFixed : laws_FnExactReadFixed.Pure := by
  intro s a1 hs ha
  obtain ⟨⟨r, b⟩, h1, h2⟩ := readFixed_same s a1
  unfold laws_FnExactReadFixed.f
  by_cases hbig : (s.size : Int) > 1048576
  · exact ⟨0, by rw [if_pos hbig]⟩
  · refine Ev.rounds (ev_if_neg hbig (Ev.bind h1 (Ev.bind h2 ?_)))
    refine ⟨0, fun k _ => ?_⟩
    simp

end Go.Proofs.Ytggjjhbdpionpaa.Pure
