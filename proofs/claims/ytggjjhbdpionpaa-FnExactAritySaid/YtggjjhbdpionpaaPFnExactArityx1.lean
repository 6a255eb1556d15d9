-- Written by a program of this session (mk.py over the kit's print).
import Derived.Test.YtggjjhbdpionpaaPFnExactArityx0
namespace Go.Proofs.Ytggjjhbdpionpaa.PFnExactArity
open Go.RowKit Go.Proofs.YtggjjhbdpionpaaW.PrintWords Go.Proofs.YtggjjhbdpionpaaW.PrintLast Go.Proofs.YtggjjhbdpionpaaW.PrintMore
attribute [local go_sem] max2_int min2_int max_two min_two max_three min_three max_four min_four   -- for this text's walks alone
set_option linter.unusedVariables false
set_option linter.unusedSimpArgs false

/-! ### spec_Arity: function 28 -/
mutual
def spec_Arity.j0 : Nat → ByteArray → Bool → Option (Int)
  | 0, _, _ => none
  | k + 1, x3, x4 => if x4 = true then (some 2) else (if x3.toList = ([99, 97, 114] : List UInt8) then (spec_Arity.j1 k x3 (x3.toList == ([99, 97, 114] : List UInt8))) else (if x3.toList = ([99, 100, 114] : List UInt8) then (spec_Arity.j1 k x3 (x3.toList == ([99, 100, 114] : List UInt8))) else (if x3.toList = ([110, 117, 108, 108, 63] : List UInt8) then (spec_Arity.j1 k x3 (x3.toList == ([110, 117, 108, 108, 63] : List UInt8))) else (if x3.toList = ([112, 97, 105, 114, 63] : List UInt8) then (spec_Arity.j1 k x3 (x3.toList == ([112, 97, 105, 114, 63] : List UInt8))) else (if x3.toList = ([110, 111, 116] : List UInt8) then (spec_Arity.j1 k x3 (x3.toList == ([110, 111, 116] : List UInt8))) else (if x3.toList = ([112, 114, 105, 110, 116] : List UInt8) then (spec_Arity.j1 k x3 (x3.toList == ([112, 114, 105, 110, 116] : List UInt8))) else (if x3.toList = ([101, 114, 114, 111, 114] : List UInt8) then (spec_Arity.j1 k x3 (x3.toList == ([101, 114, 114, 111, 114] : List UInt8))) else (if x3.toList = ([102, 105, 101, 108, 100] : List UInt8) then (spec_Arity.j1 k x3 (x3.toList == ([102, 105, 101, 108, 100] : List UInt8))) else (spec_Arity.j1 k x3 (x3.toList == ([105, 115] : List UInt8)))))))))))
def spec_Arity.j1 : Nat → ByteArray → Bool → Option (Int)
  | 0, _, _ => none
  | k + 1, x3, x12 => if x12 = true then (some 1) else (if x3.toList = ([109, 97, 107, 101] : List UInt8) then (some 0) else (some (-1)))
end
def spec_Arity.f (k : Nat) (a0 : ByteArray) : Option (Int) := if a0.toList = ([43] : List UInt8) then (spec_Arity.j0 k a0 (a0.toList == ([43] : List UInt8))) else (if a0.toList = ([45] : List UInt8) then (spec_Arity.j0 k a0 (a0.toList == ([45] : List UInt8))) else (if a0.toList = ([42] : List UInt8) then (spec_Arity.j0 k a0 (a0.toList == ([42] : List UInt8))) else (if a0.toList = ([60] : List UInt8) then (spec_Arity.j0 k a0 (a0.toList == ([60] : List UInt8))) else (if a0.toList = ([61] : List UInt8) then (spec_Arity.j0 k a0 (a0.toList == ([61] : List UInt8))) else (if a0.toList = ([101, 113, 63] : List UInt8) then (spec_Arity.j0 k a0 (a0.toList == ([101, 113, 63] : List UInt8))) else (spec_Arity.j0 k a0 (a0.toList == ([99, 111, 110, 115] : List UInt8))))))))
theorem spec_Arity.mono_l : ∀ k, (∀ y0 y1, LeO (spec_Arity.j0 k y0 y1) (spec_Arity.j0 (k + 1) y0 y1)) ∧ (∀ y0 y1, LeO (spec_Arity.j1 k y0 y1) (spec_Arity.j1 (k + 1) y0 y1))
  | 0 => ⟨fun _ _ r h => by simp [spec_Arity.j0] at h, fun _ _ r h => by simp [spec_Arity.j1] at h⟩
  | k + 1 => by
    obtain ⟨ih0, ih1⟩ := spec_Arity.mono_l k
    refine ⟨?_, ?_⟩
    · intro y0 y1
      unfold spec_Arity.j0
      repeat' first
      | (with_reducible exact ih0 _ _)
      | (with_reducible exact ih1 _ _)
      | (with_reducible exact LeO.refl _)
      | (with_reducible exact LeO.none _)
      | (with_reducible refine LeO.ite ?_ ?_)
      | (with_reducible refine LeO.bind ?_ (fun _ => ?_))
      | exact ih0 _ _
      | exact ih1 _ _
      | exact LeO.none _
      | refine LeO.ite ?_ ?_
      | refine LeO.bind ?_ (fun _ => ?_)
    · intro y0 y1
      unfold spec_Arity.j1
      repeat' first
      | (with_reducible exact ih0 _ _)
      | (with_reducible exact ih1 _ _)
      | (with_reducible exact LeO.refl _)
      | (with_reducible exact LeO.none _)
      | (with_reducible refine LeO.ite ?_ ?_)
      | (with_reducible refine LeO.bind ?_ (fun _ => ?_))
      | exact ih0 _ _
      | exact ih1 _ _
      | exact LeO.none _
      | refine LeO.ite ?_ ?_
      | refine LeO.bind ?_ (fun _ => ?_)
theorem spec_Arity.mono : ∀ a0 k, LeO (spec_Arity.f k a0) (spec_Arity.f (k + 1) a0) := by
  intro a0 k
  obtain ⟨ih0, ih1⟩ := spec_Arity.mono_l k
  unfold spec_Arity.f
  repeat' first
      | (with_reducible exact ih0 _ _)
      | (with_reducible exact ih1 _ _)
      | (with_reducible exact LeO.refl _)
      | (with_reducible exact LeO.none _)
      | (with_reducible refine LeO.ite ?_ ?_)
      | (with_reducible refine LeO.bind ?_ (fun _ => ?_))
      | exact ih0 _ _
      | exact ih1 _ _
      | exact LeO.none _
      | refine LeO.ite ?_ ?_
      | refine LeO.bind ?_ (fun _ => ?_)
set_option maxHeartbeats 8000000 in
set_option maxRecDepth 100000 in
theorem spec_Arity.calls (k : Nat) (a0 : ByteArray) (r : Int) (w : World) (h : spec_Arity.f k a0 = some r) :
    Calls Try.prog 28 #[.string a0] w fun e w' => e = .returned (.int .i64 r) ∧ Drawn0 w w' := by
  have H : (if a0.toList = ([43] : List UInt8) then (spec_Arity.j0 k a0 (a0.toList == ([43] : List UInt8))) else (if a0.toList = ([45] : List UInt8) then (spec_Arity.j0 k a0 (a0.toList == ([45] : List UInt8))) else (if a0.toList = ([42] : List UInt8) then (spec_Arity.j0 k a0 (a0.toList == ([42] : List UInt8))) else (if a0.toList = ([60] : List UInt8) then (spec_Arity.j0 k a0 (a0.toList == ([60] : List UInt8))) else (if a0.toList = ([61] : List UInt8) then (spec_Arity.j0 k a0 (a0.toList == ([61] : List UInt8))) else (if a0.toList = ([101, 113, 63] : List UInt8) then (spec_Arity.j0 k a0 (a0.toList == ([101, 113, 63] : List UInt8))) else (spec_Arity.j0 k a0 (a0.toList == ([99, 111, 110, 115] : List UInt8))))))))) = some r := h
  clear h
  have HC2 := Aside0.mk H
  clear H
  go_enter Try.func28, Try.ntmps28
  go_upto_if 4 with (fail)
  go_cut [4] (fun v4 wc => ∃ (kq : Nat) (x4_1 : Bool), v4 = .bool x4_1 ∧ Aside0 (spec_Arity.j0 kq a0 x4_1 = some r) ∧ Aside0 (kq ≤ k) ∧ Drawn0 w wc)
  case first =>
    have H := HC2.out
    clear HC2
    by_cases c3 : a0.toList = ([43] : List UInt8)
    · rw [if_pos c3] at H
      have c3b0 : (a0.toList == ([43] : List UInt8)) = true := beq_iff_eq.mpr c3
      have c3b1 : (a0.toList != ([43] : List UInt8)) = false := bne_eq_false_iff_eq.mpr c3
      clear c3
      (first | rw [c3b0] | (simp only [i64_w, i32_w]; rw [c3b0]) | skip)
      have H' := Aside0.mk H
      clear H
      go_wp2
      go_meet
      case rel => exact ⟨_, ((a0.toList == ([43] : List UInt8))), (by first | rfl | (simp; done) | (simp [*]; done)), H', ⟨by first | omega | exact Nat.le_refl _⟩, by repeat (first | exact Drawn0.refl _ | apply Drawn0.step)⟩
    · rw [if_neg c3] at H
      have c3b0 : (a0.toList == ([43] : List UInt8)) = false := beq_eq_false_iff_ne.mpr c3
      have c3b1 : (a0.toList != ([43] : List UInt8)) = true := bne_iff_ne.mpr c3
      (first | rw [c3b0] | (simp only [i64_w, i32_w]; rw [c3b0]) | skip)
      by_cases c4 : a0.toList = ([45] : List UInt8)
      · rw [if_pos c4] at H
        have c4b0 : (a0.toList == ([45] : List UInt8)) = true := beq_iff_eq.mpr c4
        have c4b1 : (a0.toList != ([45] : List UInt8)) = false := bne_eq_false_iff_eq.mpr c4
        clear c4
        have H' := Aside0.mk H
        clear H
        go_wp2
        go_meet
        case rel => exact ⟨_, ((a0.toList == ([45] : List UInt8))), (by first | rfl | (simp; done) | (simp [*]; done)), H', ⟨by first | omega | exact Nat.le_refl _⟩, by repeat (first | exact Drawn0.refl _ | apply Drawn0.step)⟩
      · rw [if_neg c4] at H
        have c4b0 : (a0.toList == ([45] : List UInt8)) = false := beq_eq_false_iff_ne.mpr c4
        have c4b1 : (a0.toList != ([45] : List UInt8)) = true := bne_iff_ne.mpr c4
        by_cases c5 : a0.toList = ([42] : List UInt8)
        · rw [if_pos c5] at H
          have c5b0 : (a0.toList == ([42] : List UInt8)) = true := beq_iff_eq.mpr c5
          have c5b1 : (a0.toList != ([42] : List UInt8)) = false := bne_eq_false_iff_eq.mpr c5
          clear c5
          have H' := Aside0.mk H
          clear H
          go_wp2
          go_meet
          case rel => exact ⟨_, ((a0.toList == ([42] : List UInt8))), (by first | rfl | (simp; done) | (simp [*]; done)), H', ⟨by first | omega | exact Nat.le_refl _⟩, by repeat (first | exact Drawn0.refl _ | apply Drawn0.step)⟩
        · rw [if_neg c5] at H
          have c5b0 : (a0.toList == ([42] : List UInt8)) = false := beq_eq_false_iff_ne.mpr c5
          have c5b1 : (a0.toList != ([42] : List UInt8)) = true := bne_iff_ne.mpr c5
          by_cases c6 : a0.toList = ([60] : List UInt8)
          · rw [if_pos c6] at H
            have c6b0 : (a0.toList == ([60] : List UInt8)) = true := beq_iff_eq.mpr c6
            have c6b1 : (a0.toList != ([60] : List UInt8)) = false := bne_eq_false_iff_eq.mpr c6
            clear c6
            have H' := Aside0.mk H
            clear H
            go_wp2
            go_meet
            case rel => exact ⟨_, ((a0.toList == ([60] : List UInt8))), (by first | rfl | (simp; done) | (simp [*]; done)), H', ⟨by first | omega | exact Nat.le_refl _⟩, by repeat (first | exact Drawn0.refl _ | apply Drawn0.step)⟩
          · rw [if_neg c6] at H
            have c6b0 : (a0.toList == ([60] : List UInt8)) = false := beq_eq_false_iff_ne.mpr c6
            have c6b1 : (a0.toList != ([60] : List UInt8)) = true := bne_iff_ne.mpr c6
            by_cases c7 : a0.toList = ([61] : List UInt8)
            · rw [if_pos c7] at H
              have c7b0 : (a0.toList == ([61] : List UInt8)) = true := beq_iff_eq.mpr c7
              have c7b1 : (a0.toList != ([61] : List UInt8)) = false := bne_eq_false_iff_eq.mpr c7
              clear c7
              have H' := Aside0.mk H
              clear H
              go_wp2
              go_meet
              case rel => exact ⟨_, ((a0.toList == ([61] : List UInt8))), (by first | rfl | (simp; done) | (simp [*]; done)), H', ⟨by first | omega | exact Nat.le_refl _⟩, by repeat (first | exact Drawn0.refl _ | apply Drawn0.step)⟩
            · rw [if_neg c7] at H
              have c7b0 : (a0.toList == ([61] : List UInt8)) = false := beq_eq_false_iff_ne.mpr c7
              have c7b1 : (a0.toList != ([61] : List UInt8)) = true := bne_iff_ne.mpr c7
              by_cases c8 : a0.toList = ([101, 113, 63] : List UInt8)
              · rw [if_pos c8] at H
                have c8b0 : (a0.toList == ([101, 113, 63] : List UInt8)) = true := beq_iff_eq.mpr c8
                have c8b1 : (a0.toList != ([101, 113, 63] : List UInt8)) = false := bne_eq_false_iff_eq.mpr c8
                clear c8
                have H' := Aside0.mk H
                clear H
                go_wp2
                go_meet
                case rel => exact ⟨_, ((a0.toList == ([101, 113, 63] : List UInt8))), (by first | rfl | (simp; done) | (simp [*]; done)), H', ⟨by first | omega | exact Nat.le_refl _⟩, by repeat (first | exact Drawn0.refl _ | apply Drawn0.step)⟩
              · rw [if_neg c8] at H
                have c8b0 : (a0.toList == ([101, 113, 63] : List UInt8)) = false := beq_eq_false_iff_ne.mpr c8
                have c8b1 : (a0.toList != ([101, 113, 63] : List UInt8)) = true := bne_iff_ne.mpr c8
                have H' := Aside0.mk H
                clear H
                go_wp2
                go_meet
                case rel => exact ⟨_, ((a0.toList == ([99, 111, 110, 115] : List UInt8))), (by first | rfl | (simp; done) | (simp [*]; done)), H', ⟨by first | omega | exact Nat.le_refl _⟩, by repeat (first | exact Drawn0.refl _ | apply Drawn0.step)⟩
  case rest =>
    clear HC2
    try clear c2
    try clear p2
    try clear c3
    try clear c3b0
    try clear c3b1
    try clear c4
    try clear c4b0
    try clear c4b1
    try clear c5
    try clear c5b0
    try clear c5b1
    try clear c6
    try clear c6b0
    try clear c6b1
    try clear c7
    try clear c7b0
    try clear c7b1
    try clear c8
    try clear c8b0
    try clear c8b1
    obtain ⟨kq, x4_1, rfl, HA, HJ1, ⟨mc1, rfl⟩⟩ := hcut
    cases kq with
    | zero => exact absurd HA.out (by simp [spec_Arity.j0])
    | succ kj1 =>
      have H := HA.out
      clear HA
      simp only [spec_Arity.j0] at H
      by_cases c9 : x4_1 = true
      · subst c9
        have H1 : (some 2) = some r := by rw [if_pos rfl] at H; exact H
        clear H
        have H := H1
        clear H1
        obtain rfl := Option.some.inj H
        go_wp2
        go_ret
        exact ⟨by first | rfl | (simp; done) | (simp [*]; done), by repeat (first | exact Drawn0.refl _ | apply Drawn0.step)⟩
      · replace c9 := Bool.eq_false_iff.mpr c9
        subst c9
        have H1 : (if a0.toList = ([99, 97, 114] : List UInt8) then (spec_Arity.j1 kj1 a0 (a0.toList == ([99, 97, 114] : List UInt8))) else (if a0.toList = ([99, 100, 114] : List UInt8) then (spec_Arity.j1 kj1 a0 (a0.toList == ([99, 100, 114] : List UInt8))) else (if a0.toList = ([110, 117, 108, 108, 63] : List UInt8) then (spec_Arity.j1 kj1 a0 (a0.toList == ([110, 117, 108, 108, 63] : List UInt8))) else (if a0.toList = ([112, 97, 105, 114, 63] : List UInt8) then (spec_Arity.j1 kj1 a0 (a0.toList == ([112, 97, 105, 114, 63] : List UInt8))) else (if a0.toList = ([110, 111, 116] : List UInt8) then (spec_Arity.j1 kj1 a0 (a0.toList == ([110, 111, 116] : List UInt8))) else (if a0.toList = ([112, 114, 105, 110, 116] : List UInt8) then (spec_Arity.j1 kj1 a0 (a0.toList == ([112, 114, 105, 110, 116] : List UInt8))) else (if a0.toList = ([101, 114, 114, 111, 114] : List UInt8) then (spec_Arity.j1 kj1 a0 (a0.toList == ([101, 114, 114, 111, 114] : List UInt8))) else (if a0.toList = ([102, 105, 101, 108, 100] : List UInt8) then (spec_Arity.j1 kj1 a0 (a0.toList == ([102, 105, 101, 108, 100] : List UInt8))) else (spec_Arity.j1 kj1 a0 (a0.toList == ([105, 115] : List UInt8))))))))))) = some r := by rw [if_neg (show ¬ (false = true) by decide)] at H; exact H
        clear H
        have H := H1
        clear H1
        have HC10 := Aside0.mk H
        clear H
        go_upto_if 12 with (fail)
        go_cut [12] (fun v12 wc => ∃ (kq : Nat) (x12_9 : Bool), v12 = .bool x12_9 ∧ Aside0 (spec_Arity.j1 kq a0 x12_9 = some r) ∧ Aside0 (kq ≤ kj1) ∧ Drawn0 w wc)
        case first =>
          have H := HC10.out
          clear HC10
          by_cases c11 : a0.toList = ([99, 97, 114] : List UInt8)
          · rw [if_pos c11] at H
            have c11b0 : (a0.toList == ([99, 97, 114] : List UInt8)) = true := beq_iff_eq.mpr c11
            have c11b1 : (a0.toList != ([99, 97, 114] : List UInt8)) = false := bne_eq_false_iff_eq.mpr c11
            clear c11
            (first | rw [c11b0] | (simp only [i64_w, i32_w]; rw [c11b0]) | skip)
            have H' := Aside0.mk H
            clear H
            go_wp2
            go_meet
            case rel => exact ⟨_, ((a0.toList == ([99, 97, 114] : List UInt8))), (by first | rfl | (simp; done) | (simp [*]; done)), H', ⟨by have := HJ1.out; first | omega | exact Nat.le_refl _⟩, by repeat (first | exact Drawn0.refl _ | apply Drawn0.step)⟩
          · rw [if_neg c11] at H
            have c11b0 : (a0.toList == ([99, 97, 114] : List UInt8)) = false := beq_eq_false_iff_ne.mpr c11
            have c11b1 : (a0.toList != ([99, 97, 114] : List UInt8)) = true := bne_iff_ne.mpr c11
            (first | rw [c11b0] | (simp only [i64_w, i32_w]; rw [c11b0]) | skip)
            by_cases c12 : a0.toList = ([99, 100, 114] : List UInt8)
            · rw [if_pos c12] at H
              have c12b0 : (a0.toList == ([99, 100, 114] : List UInt8)) = true := beq_iff_eq.mpr c12
              have c12b1 : (a0.toList != ([99, 100, 114] : List UInt8)) = false := bne_eq_false_iff_eq.mpr c12
              clear c12
              have H' := Aside0.mk H
              clear H
              go_wp2
              go_meet
              case rel => exact ⟨_, ((a0.toList == ([99, 100, 114] : List UInt8))), (by first | rfl | (simp; done) | (simp [*]; done)), H', ⟨by have := HJ1.out; first | omega | exact Nat.le_refl _⟩, by repeat (first | exact Drawn0.refl _ | apply Drawn0.step)⟩
            · rw [if_neg c12] at H
              have c12b0 : (a0.toList == ([99, 100, 114] : List UInt8)) = false := beq_eq_false_iff_ne.mpr c12
              have c12b1 : (a0.toList != ([99, 100, 114] : List UInt8)) = true := bne_iff_ne.mpr c12
              by_cases c13 : a0.toList = ([110, 117, 108, 108, 63] : List UInt8)
              · rw [if_pos c13] at H
                have c13b0 : (a0.toList == ([110, 117, 108, 108, 63] : List UInt8)) = true := beq_iff_eq.mpr c13
                have c13b1 : (a0.toList != ([110, 117, 108, 108, 63] : List UInt8)) = false := bne_eq_false_iff_eq.mpr c13
                clear c13
                have H' := Aside0.mk H
                clear H
                go_wp2
                go_meet
                case rel => exact ⟨_, ((a0.toList == ([110, 117, 108, 108, 63] : List UInt8))), (by first | rfl | (simp; done) | (simp [*]; done)), H', ⟨by have := HJ1.out; first | omega | exact Nat.le_refl _⟩, by repeat (first | exact Drawn0.refl _ | apply Drawn0.step)⟩
              · rw [if_neg c13] at H
                have c13b0 : (a0.toList == ([110, 117, 108, 108, 63] : List UInt8)) = false := beq_eq_false_iff_ne.mpr c13
                have c13b1 : (a0.toList != ([110, 117, 108, 108, 63] : List UInt8)) = true := bne_iff_ne.mpr c13
                by_cases c14 : a0.toList = ([112, 97, 105, 114, 63] : List UInt8)
                · rw [if_pos c14] at H
                  have c14b0 : (a0.toList == ([112, 97, 105, 114, 63] : List UInt8)) = true := beq_iff_eq.mpr c14
                  have c14b1 : (a0.toList != ([112, 97, 105, 114, 63] : List UInt8)) = false := bne_eq_false_iff_eq.mpr c14
                  clear c14
                  have H' := Aside0.mk H
                  clear H
                  go_wp2
                  go_meet
                  case rel => exact ⟨_, ((a0.toList == ([112, 97, 105, 114, 63] : List UInt8))), (by first | rfl | (simp; done) | (simp [*]; done)), H', ⟨by have := HJ1.out; first | omega | exact Nat.le_refl _⟩, by repeat (first | exact Drawn0.refl _ | apply Drawn0.step)⟩
                · rw [if_neg c14] at H
                  have c14b0 : (a0.toList == ([112, 97, 105, 114, 63] : List UInt8)) = false := beq_eq_false_iff_ne.mpr c14
                  have c14b1 : (a0.toList != ([112, 97, 105, 114, 63] : List UInt8)) = true := bne_iff_ne.mpr c14
                  by_cases c15 : a0.toList = ([110, 111, 116] : List UInt8)
                  · rw [if_pos c15] at H
                    have c15b0 : (a0.toList == ([110, 111, 116] : List UInt8)) = true := beq_iff_eq.mpr c15
                    have c15b1 : (a0.toList != ([110, 111, 116] : List UInt8)) = false := bne_eq_false_iff_eq.mpr c15
                    clear c15
                    have H' := Aside0.mk H
                    clear H
                    go_wp2
                    go_meet
                    case rel => exact ⟨_, ((a0.toList == ([110, 111, 116] : List UInt8))), (by first | rfl | (simp; done) | (simp [*]; done)), H', ⟨by have := HJ1.out; first | omega | exact Nat.le_refl _⟩, by repeat (first | exact Drawn0.refl _ | apply Drawn0.step)⟩
                  · rw [if_neg c15] at H
                    have c15b0 : (a0.toList == ([110, 111, 116] : List UInt8)) = false := beq_eq_false_iff_ne.mpr c15
                    have c15b1 : (a0.toList != ([110, 111, 116] : List UInt8)) = true := bne_iff_ne.mpr c15
                    by_cases c16 : a0.toList = ([112, 114, 105, 110, 116] : List UInt8)
                    · rw [if_pos c16] at H
                      have c16b0 : (a0.toList == ([112, 114, 105, 110, 116] : List UInt8)) = true := beq_iff_eq.mpr c16
                      have c16b1 : (a0.toList != ([112, 114, 105, 110, 116] : List UInt8)) = false := bne_eq_false_iff_eq.mpr c16
                      clear c16
                      have H' := Aside0.mk H
                      clear H
                      go_wp2
                      go_meet
                      case rel => exact ⟨_, ((a0.toList == ([112, 114, 105, 110, 116] : List UInt8))), (by first | rfl | (simp; done) | (simp [*]; done)), H', ⟨by have := HJ1.out; first | omega | exact Nat.le_refl _⟩, by repeat (first | exact Drawn0.refl _ | apply Drawn0.step)⟩
                    · rw [if_neg c16] at H
                      have c16b0 : (a0.toList == ([112, 114, 105, 110, 116] : List UInt8)) = false := beq_eq_false_iff_ne.mpr c16
                      have c16b1 : (a0.toList != ([112, 114, 105, 110, 116] : List UInt8)) = true := bne_iff_ne.mpr c16
                      by_cases c17 : a0.toList = ([101, 114, 114, 111, 114] : List UInt8)
                      · rw [if_pos c17] at H
                        have c17b0 : (a0.toList == ([101, 114, 114, 111, 114] : List UInt8)) = true := beq_iff_eq.mpr c17
                        have c17b1 : (a0.toList != ([101, 114, 114, 111, 114] : List UInt8)) = false := bne_eq_false_iff_eq.mpr c17
                        clear c17
                        have H' := Aside0.mk H
                        clear H
                        go_wp2
                        go_meet
                        case rel => exact ⟨_, ((a0.toList == ([101, 114, 114, 111, 114] : List UInt8))), (by first | rfl | (simp; done) | (simp [*]; done)), H', ⟨by have := HJ1.out; first | omega | exact Nat.le_refl _⟩, by repeat (first | exact Drawn0.refl _ | apply Drawn0.step)⟩
                      · rw [if_neg c17] at H
                        have c17b0 : (a0.toList == ([101, 114, 114, 111, 114] : List UInt8)) = false := beq_eq_false_iff_ne.mpr c17
                        have c17b1 : (a0.toList != ([101, 114, 114, 111, 114] : List UInt8)) = true := bne_iff_ne.mpr c17
                        by_cases c18 : a0.toList = ([102, 105, 101, 108, 100] : List UInt8)
                        · rw [if_pos c18] at H
                          have c18b0 : (a0.toList == ([102, 105, 101, 108, 100] : List UInt8)) = true := beq_iff_eq.mpr c18
                          have c18b1 : (a0.toList != ([102, 105, 101, 108, 100] : List UInt8)) = false := bne_eq_false_iff_eq.mpr c18
                          clear c18
                          have H' := Aside0.mk H
                          clear H
                          go_wp2
                          go_meet
                          case rel => exact ⟨_, ((a0.toList == ([102, 105, 101, 108, 100] : List UInt8))), (by first | rfl | (simp; done) | (simp [*]; done)), H', ⟨by have := HJ1.out; first | omega | exact Nat.le_refl _⟩, by repeat (first | exact Drawn0.refl _ | apply Drawn0.step)⟩
                        · rw [if_neg c18] at H
                          have c18b0 : (a0.toList == ([102, 105, 101, 108, 100] : List UInt8)) = false := beq_eq_false_iff_ne.mpr c18
                          have c18b1 : (a0.toList != ([102, 105, 101, 108, 100] : List UInt8)) = true := bne_iff_ne.mpr c18
                          have H' := Aside0.mk H
                          clear H
                          go_wp2
                          go_meet
                          case rel => exact ⟨_, ((a0.toList == ([105, 115] : List UInt8))), (by first | rfl | (simp; done) | (simp [*]; done)), H', ⟨by have := HJ1.out; first | omega | exact Nat.le_refl _⟩, by repeat (first | exact Drawn0.refl _ | apply Drawn0.step)⟩
        case rest =>
          clear HC10
          try clear c1
          try clear c2
          try clear p2
          try clear c3
          try clear c3b0
          try clear c3b1
          try clear c4
          try clear c4b0
          try clear c4b1
          try clear c5
          try clear c5b0
          try clear c5b1
          try clear c6
          try clear c6b0
          try clear c6b1
          try clear c7
          try clear c7b0
          try clear c7b1
          try clear c8
          try clear c8b0
          try clear c8b1
          try clear c9
          try clear c11
          try clear c11b0
          try clear c11b1
          try clear c12
          try clear c12b0
          try clear c12b1
          try clear c13
          try clear c13b0
          try clear c13b1
          try clear c14
          try clear c14b0
          try clear c14b1
          try clear c15
          try clear c15b0
          try clear c15b1
          try clear c16
          try clear c16b0
          try clear c16b1
          try clear c17
          try clear c17b0
          try clear c17b1
          try clear c18
          try clear c18b0
          try clear c18b1
          try clear p2
          obtain ⟨kq, x12_9, rfl, HA, HJ9, ⟨mc9, rfl⟩⟩ := hcut
          cases kq with
          | zero => exact absurd HA.out (by simp [spec_Arity.j1])
          | succ kj9 =>
            have H := HA.out
            clear HA
            simp only [spec_Arity.j1] at H
            by_cases c19 : x12_9 = true
            · subst c19
              have H1 : (some 1) = some r := by rw [if_pos rfl] at H; exact H
              clear H
              have H := H1
              clear H1
              obtain rfl := Option.some.inj H
              go_wp2
              go_ret
              exact ⟨by first | rfl | (simp; done) | (simp [*]; done), by repeat (first | exact Drawn0.refl _ | apply Drawn0.step)⟩
            · replace c19 := Bool.eq_false_iff.mpr c19
              subst c19
              have H1 : (if a0.toList = ([109, 97, 107, 101] : List UInt8) then (some 0) else (some (-1))) = some r := by rw [if_neg (show ¬ (false = true) by decide)] at H; exact H
              clear H
              have H := H1
              clear H1
              by_cases c20 : a0.toList = ([109, 97, 107, 101] : List UInt8)
              · rw [if_pos c20] at H
                have c20b0 : (a0.toList == ([109, 97, 107, 101] : List UInt8)) = true := beq_iff_eq.mpr c20
                have c20b1 : (a0.toList != ([109, 97, 107, 101] : List UInt8)) = false := bne_eq_false_iff_eq.mpr c20
                clear c20
                obtain rfl := Option.some.inj H
                go_wp2
                go_ret
                exact ⟨by first | rfl | (simp; done) | (simp [*]; done), by repeat (first | exact Drawn0.refl _ | apply Drawn0.step)⟩
              · rw [if_neg c20] at H
                have c20b0 : (a0.toList == ([109, 97, 107, 101] : List UInt8)) = false := beq_eq_false_iff_ne.mpr c20
                have c20b1 : (a0.toList != ([109, 97, 107, 101] : List UInt8)) = true := bne_iff_ne.mpr c20
                obtain rfl := Option.some.inj H
                go_wp2
                go_ret
                exact ⟨by first | rfl | (simp; done) | (simp [*]; done), by repeat (first | exact Drawn0.refl _ | apply Drawn0.step)⟩

/-! ### impl_isOneOf: function 37 -/
/-- The text with a blank ahead of it and one behind it. -/
def spaced (a : ByteArray) : ByteArray := ((⟨#[32]⟩ : ByteArray) ++ a) ++ (⟨#[32]⟩ : ByteArray)
def impl_isOneOf.f (a0 : ByteArray) (a1 : ByteArray) : Option (Bool) := if a0.size < 4294967200 ∧ a1.size < 4294967200 then some (!(a0.toList == ([] : List UInt8)) && (!(Lib.contains a0.data.toList [32]) && Lib.contains (spaced a1).data.toList (spaced a0).data.toList)) else none
theorem impl_isOneOf.at0 (a0 a1 : ByteArray) (h0 : (a0.toList == ([] : List UInt8)) = true) (w : World) :
    Calls Try.prog 37 #[.string a0, .string a1] w fun e w' => e = .returned (.bool false) ∧ Drawn0 w w' := by
  have h1 : (a0.toList != ([] : List UInt8)) = false := by simpa using h0
  go_enter Try.func37, Try.ntmps37
  go_wp2
  go_ret
  exact ⟨rfl, Drawn0.refl _⟩
theorem impl_isOneOf.at1 (a0 a1 : ByteArray) (m : Int) (h0 : (a0.toList == ([] : List UInt8)) = false) (hc : Lib.contains a0.data.toList [32] = true) (hs : a0.size < 4294967281) (w : World) (hm : w.cell? ⟨0, 0, none⟩ = some (.int .i64 m)) :
    Calls Try.prog 37 #[.string a0, .string a1] w fun e w' => e = .returned (.bool false) ∧ Drawn0 w w' := by
  have h1 : (a0.toList != ([] : List UInt8)) = true := by simpa using h0
  go_enter Try.func37, Try.ntmps37
  go_wp2_with fail
  refine (Try.strings_Contains a0 (⟨#[32]⟩ : ByteArray) m w hs hm).mono ?_
  rintro e w' ⟨rfl, rfl⟩
  rw [show (⟨#[32]⟩ : ByteArray).data.toList = [32] from rfl, hc]
  go_wp2_with fail
  go_ret
  exact ⟨rfl, Drawn0.refl _⟩
theorem impl_isOneOf.at2 (a0 a1 : ByteArray) (m : Int) (h0 : (a0.toList == ([] : List UInt8)) = false) (hc : Lib.contains a0.data.toList [32] = false) (hs : a0.size < 4294967281) (hs0 : a0.size < 4294967200) (hs1 : a1.size < 4294967200) (w : World) (hm : w.cell? ⟨0, 0, none⟩ = some (.int .i64 m)) :
    Calls Try.prog 37 #[.string a0, .string a1] w fun e w' => e = .returned (.bool (Lib.contains (spaced a1).data.toList (spaced a0).data.toList)) ∧ Drawn0 w w' := by
  have h1 : (a0.toList != ([] : List UInt8)) = true := by simpa using h0
  have b0 : (9223372036854775807 < 1 + a0.size) = False := eq_false (by omega)
  have b1 : (9223372036854775807 < 1 + a1.size) = False := eq_false (by omega)
  have b2 : (9223372036854775807 < 1 + a0.size + 1) = False := eq_false (by omega)
  have b3 : (9223372036854775807 < 1 + a1.size + 1) = False := eq_false (by omega)
  have hz : (spaced a1).size < 4294967281 := by
    have e : (spaced a1).size = 1 + a1.size + 1 := by unfold spaced; rw [ByteArray.size_append, ByteArray.size_append]; rfl
    omega
  go_enter Try.func37, Try.ntmps37
  go_wp2_with fail
  refine (Try.strings_Contains a0 (⟨#[32]⟩ : ByteArray) m w hs hm).mono ?_
  rintro e w' ⟨rfl, rfl⟩
  rw [show (⟨#[32]⟩ : ByteArray).data.toList = [32] from rfl, hc]
  go_wp2_with fail
  refine (Try.strings_Contains (spaced a1) (spaced a0) m _ hz hm).mono ?_
  rintro e w' ⟨rfl, rfl⟩
  go_wp2_with fail
  go_ret
  exact ⟨rfl, Drawn0.refl _⟩
theorem impl_isOneOf.calls (a0 : ByteArray) (a1 : ByteArray) (r : Bool) (w : World) (hL : Laid w) (h : impl_isOneOf.f a0 a1 = some r) :
    Calls Try.prog 37 #[.string a0, .string a1] w fun e w' => e = .returned (.bool r) ∧ Drawn0 w w' := by
  unfold impl_isOneOf.f at h
  by_cases hs : a0.size < 4294967200 ∧ a1.size < 4294967200
  · rw [if_pos hs] at h
    obtain rfl := Option.some.inj h
    obtain ⟨m, hm⟩ := hL.maxLen
    cases h0 : (a0.toList == ([] : List UInt8)) with
    | true => exact impl_isOneOf.at0 a0 a1 h0 w
    | false =>
      cases hc : Lib.contains a0.data.toList [32] with
      | true => exact impl_isOneOf.at1 a0 a1 m h0 hc (by omega) w hm
      | false => exact impl_isOneOf.at2 a0 a1 m h0 hc (by omega) hs.1 hs.2 w hm
  · rw [if_neg hs] at h
    cases h


/-! ### impl_Arity: function 29 -/
def impl_Arity.f (a0 : ByteArray) : Option (Int) := (impl_isOneOf.f a0 (⟨#[43, 32, 45, 32, 42, 32, 60, 32, 61, 32, 101, 113, 63, 32, 99, 111, 110, 115]⟩ : ByteArray)).bind fun t101 => (if t101 = true then (some 2) else ((impl_isOneOf.f a0 (⟨#[99, 97, 114, 32, 99, 100, 114, 32, 110, 117, 108, 108, 63, 32, 112, 97, 105, 114, 63, 32, 110, 111, 116, 32, 112, 114, 105, 110, 116, 32, 101, 114, 114, 111, 114, 32, 102, 105, 101, 108, 100, 32, 105, 115]⟩ : ByteArray)).bind fun t102 => (if t102 = true then (some 1) else (if a0.toList = ([109, 97, 107, 101] : List UInt8) then (some 0) else (some (-1))))))
set_option maxHeartbeats 8000000 in
set_option maxRecDepth 100000 in
theorem impl_Arity.calls (a0 : ByteArray) (r : Int) (w : World) (hL : Laid w) (h : impl_Arity.f a0 = some r) :
    Calls Try.prog 29 #[.string a0] w fun e w' => e = .returned (.int .i64 r) ∧ Drawn0 w w' := by
  have HL := Aside0.mk hL
  clear hL
  have H : ((impl_isOneOf.f a0 (⟨#[43, 32, 45, 32, 42, 32, 60, 32, 61, 32, 101, 113, 63, 32, 99, 111, 110, 115]⟩ : ByteArray)).bind fun t101 => (if t101 = true then (some 2) else ((impl_isOneOf.f a0 (⟨#[99, 97, 114, 32, 99, 100, 114, 32, 110, 117, 108, 108, 63, 32, 112, 97, 105, 114, 63, 32, 110, 111, 116, 32, 112, 114, 105, 110, 116, 32, 101, 114, 114, 111, 114, 32, 102, 105, 101, 108, 100, 32, 105, 115]⟩ : ByteArray)).bind fun t102 => (if t102 = true then (some 1) else (if a0.toList = ([109, 97, 107, 101] : List UInt8) then (some 0) else (some (-1))))))) = some r := h
  clear h
  replace H := Option.bind_eq_some_iff.mp H
  obtain ⟨t101, A20, H⟩ := H
  replace H : (if t101 = true then (some 2) else ((impl_isOneOf.f a0 (⟨#[99, 97, 114, 32, 99, 100, 114, 32, 110, 117, 108, 108, 63, 32, 112, 97, 105, 114, 63, 32, 110, 111, 116, 32, 112, 114, 105, 110, 116, 32, 101, 114, 114, 111, 114, 32, 102, 105, 101, 108, 100, 32, 105, 115]⟩ : ByteArray)).bind fun t102 => (if t102 = true then (some 1) else (if a0.toList = ([109, 97, 107, 101] : List UInt8) then (some 0) else (some (-1)))))) = some r := H
  have A2 := Aside0.mk A20
  clear A20
  by_cases c3 : t101 = true
  · subst c3
    have H1 : (some 2) = some r := by rw [if_pos rfl] at H; exact H
    clear H
    have H := H1
    clear H1
    obtain rfl := Option.some.inj H
    go_enter Try.func29, Try.ntmps29
    go_wp2_with (first | ((with_reducible refine gate_callee (f := 37) rfl ?_); refine goesL_ (some 5) rfl rfl Try.func37 (by kernel_rfl) rfl #[.string a0, .string (⟨#[43, 32, 45, 32, 42, 32, 60, 32, 61, 32, 101, 113, 63, 32, 99, 111, 110, 115]⟩ : ByteArray)] rfl (by (try simp only [List.map_toArray, List.map_cons, List.map_nil]); first | done | rfl | (simp only [List.length_drop, List.length_take]; rfl)) ?_; (with_reducible refine (impl_isOneOf.calls (hL := ?sideL) a0 (⟨#[43, 32, 45, 32, 42, 32, 60, 32, 61, 32, 101, 113, 63, 32, 99, 111, 110, 115]⟩ : ByteArray) true _ A2.out).mono ?_); (case sideL => (first | exact HL.out | (refine Laid.below HL.out ?_; repeat (first | (with_reducible first | exact HB.out | exact Below.refl _ _ | apply below_alloc | apply pw_below_drewN | apply below_drew1) | exact HB.out | (refine below_set ?_ (Aside0.out (by assumption))))) | (refine Laid.drawn HL.out ?_; repeat (first | exact Drawn0.refl _ | apply Drawn0.step)))); rintro e w' ⟨rfl, ⟨nd, rfl⟩⟩; refine ⟨_, rfl, ?_⟩))
    go_ret
    exact ⟨by first | rfl | (simp; done) | (simp [*]; done), by repeat (first | exact Drawn0.refl _ | apply Drawn0.step)⟩
  · replace c3 := Bool.eq_false_iff.mpr c3
    subst c3
    have H1 : ((impl_isOneOf.f a0 (⟨#[99, 97, 114, 32, 99, 100, 114, 32, 110, 117, 108, 108, 63, 32, 112, 97, 105, 114, 63, 32, 110, 111, 116, 32, 112, 114, 105, 110, 116, 32, 101, 114, 114, 111, 114, 32, 102, 105, 101, 108, 100, 32, 105, 115]⟩ : ByteArray)).bind fun t102 => (if t102 = true then (some 1) else (if a0.toList = ([109, 97, 107, 101] : List UInt8) then (some 0) else (some (-1))))) = some r := by rw [if_neg (show ¬ (false = true) by decide)] at H; exact H
    clear H
    have H := H1
    clear H1
    replace H := Option.bind_eq_some_iff.mp H
    obtain ⟨t102, A40, H⟩ := H
    replace H : (if t102 = true then (some 1) else (if a0.toList = ([109, 97, 107, 101] : List UInt8) then (some 0) else (some (-1)))) = some r := H
    have A4 := Aside0.mk A40
    clear A40
    by_cases c5 : t102 = true
    · subst c5
      have H1 : (some 1) = some r := by rw [if_pos rfl] at H; exact H
      clear H
      have H := H1
      clear H1
      obtain rfl := Option.some.inj H
      go_enter Try.func29, Try.ntmps29
      go_wp2_with (first | ((with_reducible refine gate_callee (f := 37) rfl ?_); refine goesL_ (some 5) rfl rfl Try.func37 (by kernel_rfl) rfl #[.string a0, .string (⟨#[43, 32, 45, 32, 42, 32, 60, 32, 61, 32, 101, 113, 63, 32, 99, 111, 110, 115]⟩ : ByteArray)] rfl (by (try simp only [List.map_toArray, List.map_cons, List.map_nil]); first | done | rfl | (simp only [List.length_drop, List.length_take]; rfl)) ?_; (with_reducible refine (impl_isOneOf.calls (hL := ?sideL) a0 (⟨#[43, 32, 45, 32, 42, 32, 60, 32, 61, 32, 101, 113, 63, 32, 99, 111, 110, 115]⟩ : ByteArray) false _ A2.out).mono ?_); (case sideL => (first | exact HL.out | (refine Laid.below HL.out ?_; repeat (first | (with_reducible first | exact HB.out | exact Below.refl _ _ | apply below_alloc | apply pw_below_drewN | apply below_drew1) | exact HB.out | (refine below_set ?_ (Aside0.out (by assumption))))) | (refine Laid.drawn HL.out ?_; repeat (first | exact Drawn0.refl _ | apply Drawn0.step)))); rintro e w' ⟨rfl, ⟨nd, rfl⟩⟩; refine ⟨_, rfl, ?_⟩) | ((with_reducible refine gate_callee (f := 37) rfl ?_); refine goesL_ (some 8) rfl rfl Try.func37 (by kernel_rfl) rfl #[.string a0, .string (⟨#[99, 97, 114, 32, 99, 100, 114, 32, 110, 117, 108, 108, 63, 32, 112, 97, 105, 114, 63, 32, 110, 111, 116, 32, 112, 114, 105, 110, 116, 32, 101, 114, 114, 111, 114, 32, 102, 105, 101, 108, 100, 32, 105, 115]⟩ : ByteArray)] rfl (by (try simp only [List.map_toArray, List.map_cons, List.map_nil]); first | done | rfl | (simp only [List.length_drop, List.length_take]; rfl)) ?_; (with_reducible refine (impl_isOneOf.calls (hL := ?sideL) a0 (⟨#[99, 97, 114, 32, 99, 100, 114, 32, 110, 117, 108, 108, 63, 32, 112, 97, 105, 114, 63, 32, 110, 111, 116, 32, 112, 114, 105, 110, 116, 32, 101, 114, 114, 111, 114, 32, 102, 105, 101, 108, 100, 32, 105, 115]⟩ : ByteArray) true _ A4.out).mono ?_); (case sideL => (first | exact HL.out | (refine Laid.below HL.out ?_; repeat (first | (with_reducible first | exact HB.out | exact Below.refl _ _ | apply below_alloc | apply pw_below_drewN | apply below_drew1) | exact HB.out | (refine below_set ?_ (Aside0.out (by assumption))))) | (refine Laid.drawn HL.out ?_; repeat (first | exact Drawn0.refl _ | apply Drawn0.step)))); rintro e w' ⟨rfl, ⟨nd, rfl⟩⟩; refine ⟨_, rfl, ?_⟩))
      go_ret
      exact ⟨by first | rfl | (simp; done) | (simp [*]; done), by repeat (first | exact Drawn0.refl _ | apply Drawn0.step)⟩
    · replace c5 := Bool.eq_false_iff.mpr c5
      subst c5
      have H1 : (if a0.toList = ([109, 97, 107, 101] : List UInt8) then (some 0) else (some (-1))) = some r := by rw [if_neg (show ¬ (false = true) by decide)] at H; exact H
      clear H
      have H := H1
      clear H1
      by_cases c6 : a0.toList = ([109, 97, 107, 101] : List UInt8)
      · rw [if_pos c6] at H
        have c6b0 : (a0.toList == ([109, 97, 107, 101] : List UInt8)) = true := beq_iff_eq.mpr c6
        have c6b1 : (a0.toList != ([109, 97, 107, 101] : List UInt8)) = false := bne_eq_false_iff_eq.mpr c6
        clear c6
        obtain rfl := Option.some.inj H
        go_enter Try.func29, Try.ntmps29
        go_wp2_with (first | ((with_reducible refine gate_callee (f := 37) rfl ?_); refine goesL_ (some 5) rfl rfl Try.func37 (by kernel_rfl) rfl #[.string a0, .string (⟨#[43, 32, 45, 32, 42, 32, 60, 32, 61, 32, 101, 113, 63, 32, 99, 111, 110, 115]⟩ : ByteArray)] rfl (by (try simp only [List.map_toArray, List.map_cons, List.map_nil]); first | done | rfl | (simp only [List.length_drop, List.length_take]; rfl)) ?_; (with_reducible refine (impl_isOneOf.calls (hL := ?sideL) a0 (⟨#[43, 32, 45, 32, 42, 32, 60, 32, 61, 32, 101, 113, 63, 32, 99, 111, 110, 115]⟩ : ByteArray) false _ A2.out).mono ?_); (case sideL => (first | exact HL.out | (refine Laid.below HL.out ?_; repeat (first | (with_reducible first | exact HB.out | exact Below.refl _ _ | apply below_alloc | apply pw_below_drewN | apply below_drew1) | exact HB.out | (refine below_set ?_ (Aside0.out (by assumption))))) | (refine Laid.drawn HL.out ?_; repeat (first | exact Drawn0.refl _ | apply Drawn0.step)))); rintro e w' ⟨rfl, ⟨nd, rfl⟩⟩; refine ⟨_, rfl, ?_⟩) | ((with_reducible refine gate_callee (f := 37) rfl ?_); refine goesL_ (some 8) rfl rfl Try.func37 (by kernel_rfl) rfl #[.string a0, .string (⟨#[99, 97, 114, 32, 99, 100, 114, 32, 110, 117, 108, 108, 63, 32, 112, 97, 105, 114, 63, 32, 110, 111, 116, 32, 112, 114, 105, 110, 116, 32, 101, 114, 114, 111, 114, 32, 102, 105, 101, 108, 100, 32, 105, 115]⟩ : ByteArray)] rfl (by (try simp only [List.map_toArray, List.map_cons, List.map_nil]); first | done | rfl | (simp only [List.length_drop, List.length_take]; rfl)) ?_; (with_reducible refine (impl_isOneOf.calls (hL := ?sideL) a0 (⟨#[99, 97, 114, 32, 99, 100, 114, 32, 110, 117, 108, 108, 63, 32, 112, 97, 105, 114, 63, 32, 110, 111, 116, 32, 112, 114, 105, 110, 116, 32, 101, 114, 114, 111, 114, 32, 102, 105, 101, 108, 100, 32, 105, 115]⟩ : ByteArray) false _ A4.out).mono ?_); (case sideL => (first | exact HL.out | (refine Laid.below HL.out ?_; repeat (first | (with_reducible first | exact HB.out | exact Below.refl _ _ | apply below_alloc | apply pw_below_drewN | apply below_drew1) | exact HB.out | (refine below_set ?_ (Aside0.out (by assumption))))) | (refine Laid.drawn HL.out ?_; repeat (first | exact Drawn0.refl _ | apply Drawn0.step)))); rintro e w' ⟨rfl, ⟨nd, rfl⟩⟩; refine ⟨_, rfl, ?_⟩))
        go_ret
        exact ⟨by first | rfl | (simp; done) | (simp [*]; done), by repeat (first | exact Drawn0.refl _ | apply Drawn0.step)⟩
      · rw [if_neg c6] at H
        have c6b0 : (a0.toList == ([109, 97, 107, 101] : List UInt8)) = false := beq_eq_false_iff_ne.mpr c6
        have c6b1 : (a0.toList != ([109, 97, 107, 101] : List UInt8)) = true := bne_iff_ne.mpr c6
        obtain rfl := Option.some.inj H
        go_enter Try.func29, Try.ntmps29
        go_wp2_with (first | ((with_reducible refine gate_callee (f := 37) rfl ?_); refine goesL_ (some 5) rfl rfl Try.func37 (by kernel_rfl) rfl #[.string a0, .string (⟨#[43, 32, 45, 32, 42, 32, 60, 32, 61, 32, 101, 113, 63, 32, 99, 111, 110, 115]⟩ : ByteArray)] rfl (by (try simp only [List.map_toArray, List.map_cons, List.map_nil]); first | done | rfl | (simp only [List.length_drop, List.length_take]; rfl)) ?_; (with_reducible refine (impl_isOneOf.calls (hL := ?sideL) a0 (⟨#[43, 32, 45, 32, 42, 32, 60, 32, 61, 32, 101, 113, 63, 32, 99, 111, 110, 115]⟩ : ByteArray) false _ A2.out).mono ?_); (case sideL => (first | exact HL.out | (refine Laid.below HL.out ?_; repeat (first | (with_reducible first | exact HB.out | exact Below.refl _ _ | apply below_alloc | apply pw_below_drewN | apply below_drew1) | exact HB.out | (refine below_set ?_ (Aside0.out (by assumption))))) | (refine Laid.drawn HL.out ?_; repeat (first | exact Drawn0.refl _ | apply Drawn0.step)))); rintro e w' ⟨rfl, ⟨nd, rfl⟩⟩; refine ⟨_, rfl, ?_⟩) | ((with_reducible refine gate_callee (f := 37) rfl ?_); refine goesL_ (some 8) rfl rfl Try.func37 (by kernel_rfl) rfl #[.string a0, .string (⟨#[99, 97, 114, 32, 99, 100, 114, 32, 110, 117, 108, 108, 63, 32, 112, 97, 105, 114, 63, 32, 110, 111, 116, 32, 112, 114, 105, 110, 116, 32, 101, 114, 114, 111, 114, 32, 102, 105, 101, 108, 100, 32, 105, 115]⟩ : ByteArray)] rfl (by (try simp only [List.map_toArray, List.map_cons, List.map_nil]); first | done | rfl | (simp only [List.length_drop, List.length_take]; rfl)) ?_; (with_reducible refine (impl_isOneOf.calls (hL := ?sideL) a0 (⟨#[99, 97, 114, 32, 99, 100, 114, 32, 110, 117, 108, 108, 63, 32, 112, 97, 105, 114, 63, 32, 110, 111, 116, 32, 112, 114, 105, 110, 116, 32, 101, 114, 114, 111, 114, 32, 102, 105, 101, 108, 100, 32, 105, 115]⟩ : ByteArray) false _ A4.out).mono ?_); (case sideL => (first | exact HL.out | (refine Laid.below HL.out ?_; repeat (first | (with_reducible first | exact HB.out | exact Below.refl _ _ | apply below_alloc | apply pw_below_drewN | apply below_drew1) | exact HB.out | (refine below_set ?_ (Aside0.out (by assumption))))) | (refine Laid.drawn HL.out ?_; repeat (first | exact Drawn0.refl _ | apply Drawn0.step)))); rintro e w' ⟨rfl, ⟨nd, rfl⟩⟩; refine ⟨_, rfl, ?_⟩))
        go_ret
        exact ⟨by first | rfl | (simp; done) | (simp [*]; done), by repeat (first | exact Drawn0.refl _ | apply Drawn0.step)⟩

/-! ### laws_FnExactArity: function 11 -/
def laws_FnExactArity.f (k : Nat) (a0 : ByteArray) : Option (Bool) := if (a0.size : Int) > 1048576 then (some true) else ((spec_Arity.f k a0).bind fun t103 => ((impl_Arity.f a0).bind fun t104 => (if t104 = t103 then (some true) else (some false))))
theorem laws_FnExactArity.mono : ∀ a0 k, LeO (laws_FnExactArity.f k a0) (laws_FnExactArity.f (k + 1) a0) := by
  intro a0 k
  unfold laws_FnExactArity.f
  repeat' first
      | (with_reducible exact spec_Arity.mono _ _)
      | (with_reducible exact LeO.refl _)
      | (with_reducible exact LeO.none _)
      | (with_reducible refine LeO.ite ?_ ?_)
      | (with_reducible refine LeO.bind ?_ (fun _ => ?_))
      | exact spec_Arity.mono _ _
      | exact LeO.none _
      | refine LeO.ite ?_ ?_
      | refine LeO.bind ?_ (fun _ => ?_)
set_option maxHeartbeats 8000000 in
set_option maxRecDepth 100000 in
theorem laws_FnExactArity.calls (k : Nat) (a0 : ByteArray) (r : Bool) (w : World) (hL : Laid w) (h : laws_FnExactArity.f k a0 = some r) :
    Calls Try.prog 11 #[.string a0] w fun e w' => e = .returned (.bool r) ∧ Drawn0 w w' := by
  have HL := Aside0.mk hL
  clear hL
  have H : (if (a0.size : Int) > 1048576 then (some true) else ((spec_Arity.f k a0).bind fun t103 => ((impl_Arity.f a0).bind fun t104 => (if t104 = t103 then (some true) else (some false))))) = some r := h
  clear h
  by_cases c2 : (a0.size : Int) > 1048576
  · rw [if_pos c2] at H
    have c2b0 : decide (1048576 < (a0.size : Int)) = true := decide_eq_true c2
    have c2b1 : decide (1048576 < a0.size) = true := decide_eq_true (by omega)
    clear c2
    obtain rfl := Option.some.inj H
    go_enter Try.func11, Try.ntmps11
    go_wp2
    go_ret
    exact ⟨by first | rfl | (simp; done) | (simp [*]; done), by repeat (first | exact Drawn0.refl _ | apply Drawn0.step)⟩
  · rw [if_neg c2] at H
    have c2b0 : decide (1048576 < (a0.size : Int)) = false := decide_eq_false c2
    have c2b1 : decide (1048576 < a0.size) = false := decide_eq_false (by omega)
    clear c2
    replace H := Option.bind_eq_some_iff.mp H
    obtain ⟨t103, A30, H⟩ := H
    replace H : ((impl_Arity.f a0).bind fun t104 => (if t104 = t103 then (some true) else (some false))) = some r := H
    have A3 := Aside0.mk A30
    clear A30
    replace H := Option.bind_eq_some_iff.mp H
    obtain ⟨t104, A40, H⟩ := H
    replace H : (if t104 = t103 then (some true) else (some false)) = some r := H
    have A4 := Aside0.mk A40
    clear A40
    by_cases c5 : t104 = t103
    · rw [if_pos c5] at H
      have c5b0 : (t104 == t103) = true := beq_iff_eq.mpr c5
      have c5b1 : (t104 != t103) = false := bne_eq_false_iff_eq.mpr c5
      clear c5
      obtain rfl := Option.some.inj H
      go_enter Try.func11, Try.ntmps11
      go_wp2_with (first | ((with_reducible refine gate_callee (f := 28) rfl ?_); refine goesL_ (some 9) rfl rfl Try.func28 (by kernel_rfl) rfl #[.string a0] rfl (by (try simp only [List.map_toArray, List.map_cons, List.map_nil]); first | done | rfl | (simp only [List.length_drop, List.length_take]; rfl)) ?_; (with_reducible refine (spec_Arity.calls k a0 t103 _ A3.out).mono ?_); rintro e w' ⟨rfl, ⟨nd, rfl⟩⟩; refine ⟨_, rfl, ?_⟩) | ((with_reducible refine gate_callee (f := 29) rfl ?_); refine goesL_ (some 11) rfl rfl Try.func29 (by kernel_rfl) rfl #[.string a0] rfl (by (try simp only [List.map_toArray, List.map_cons, List.map_nil]); first | done | rfl | (simp only [List.length_drop, List.length_take]; rfl)) ?_; (with_reducible refine (impl_Arity.calls (hL := ?sideL) a0 t104 _ A4.out).mono ?_); (case sideL => (first | exact HL.out | (refine Laid.below HL.out ?_; repeat (first | (with_reducible first | exact HB.out | exact Below.refl _ _ | apply below_alloc | apply pw_below_drewN | apply below_drew1) | exact HB.out | (refine below_set ?_ (Aside0.out (by assumption))))) | (refine Laid.drawn HL.out ?_; repeat (first | exact Drawn0.refl _ | apply Drawn0.step)))); rintro e w' ⟨rfl, ⟨nd, rfl⟩⟩; refine ⟨_, rfl, ?_⟩))
      go_ret
      exact ⟨by first | rfl | (simp; done) | (simp [*]; done), by repeat (first | exact Drawn0.refl _ | apply Drawn0.step)⟩
    · rw [if_neg c5] at H
      have c5b0 : (t104 == t103) = false := beq_eq_false_iff_ne.mpr c5
      have c5b1 : (t104 != t103) = true := bne_iff_ne.mpr c5
      obtain rfl := Option.some.inj H
      go_enter Try.func11, Try.ntmps11
      go_wp2_with (first | ((with_reducible refine gate_callee (f := 28) rfl ?_); refine goesL_ (some 9) rfl rfl Try.func28 (by kernel_rfl) rfl #[.string a0] rfl (by (try simp only [List.map_toArray, List.map_cons, List.map_nil]); first | done | rfl | (simp only [List.length_drop, List.length_take]; rfl)) ?_; (with_reducible refine (spec_Arity.calls k a0 t103 _ A3.out).mono ?_); rintro e w' ⟨rfl, ⟨nd, rfl⟩⟩; refine ⟨_, rfl, ?_⟩) | ((with_reducible refine gate_callee (f := 29) rfl ?_); refine goesL_ (some 11) rfl rfl Try.func29 (by kernel_rfl) rfl #[.string a0] rfl (by (try simp only [List.map_toArray, List.map_cons, List.map_nil]); first | done | rfl | (simp only [List.length_drop, List.length_take]; rfl)) ?_; (with_reducible refine (impl_Arity.calls (hL := ?sideL) a0 t104 _ A4.out).mono ?_); (case sideL => (first | exact HL.out | (refine Laid.below HL.out ?_; repeat (first | (with_reducible first | exact HB.out | exact Below.refl _ _ | apply below_alloc | apply pw_below_drewN | apply below_drew1) | exact HB.out | (refine below_set ?_ (Aside0.out (by assumption))))) | (refine Laid.drawn HL.out ?_; repeat (first | exact Drawn0.refl _ | apply Drawn0.step)))); rintro e w' ⟨rfl, ⟨nd, rfl⟩⟩; refine ⟨_, rfl, ?_⟩))
      go_ret
      exact ⟨by first | rfl | (simp; done) | (simp [*]; done), by repeat (first | exact Drawn0.refl _ | apply Drawn0.step)⟩

end Go.Proofs.Ytggjjhbdpionpaa.PFnExactArity
