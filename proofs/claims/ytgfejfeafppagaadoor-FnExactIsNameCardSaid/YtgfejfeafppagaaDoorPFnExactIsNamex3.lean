-- Written by a program of this session (mk.py over the kit's print).
import Derived.Test.YtgfejfeafppagaaDoorPFnExactIsNamex0
import Derived.Test.YtgfejfeafppagaaDoorPFnExactIsNamex2
namespace Go.Proofs.YtgfejfeafppagaaDoor.PFnExactIsName
open Go.RowKit Go.Proofs.YtgfejfeafppagaaDoorW.PrintWords Go.Proofs.YtgfejfeafppagaaDoorW.PrintLast Go.Proofs.YtgfejfeafppagaaDoorW.PrintMore
attribute [local go_sem] max2_int min2_int max_two min_two max_three min_three max_four min_four   -- for this text's walks alone
set_option linter.unusedVariables false
set_option linter.unusedSimpArgs false

/-! ### spec_Arity: function 63 -/
mutual
def spec_Arity.j0 : Nat → ByteArray → Bool → Option (Int)
  | 0, _, _ => none
  | k + 1, x3, x4 => if x4 = true then (some 2) else (if x3.toList = ([99, 97, 114] : List UInt8) then (spec_Arity.j1 k x3 (x3.toList == ([99, 97, 114] : List UInt8))) else (if x3.toList = ([99, 100, 114] : List UInt8) then (spec_Arity.j1 k x3 (x3.toList == ([99, 100, 114] : List UInt8))) else (if x3.toList = ([110, 117, 108, 108, 63] : List UInt8) then (spec_Arity.j1 k x3 (x3.toList == ([110, 117, 108, 108, 63] : List UInt8))) else (if x3.toList = ([112, 97, 105, 114, 63] : List UInt8) then (spec_Arity.j1 k x3 (x3.toList == ([112, 97, 105, 114, 63] : List UInt8))) else (if x3.toList = ([110, 111, 116] : List UInt8) then (spec_Arity.j1 k x3 (x3.toList == ([110, 111, 116] : List UInt8))) else (if x3.toList = ([112, 114, 105, 110, 116] : List UInt8) then (spec_Arity.j1 k x3 (x3.toList == ([112, 114, 105, 110, 116] : List UInt8))) else (if x3.toList = ([101, 114, 114, 111, 114] : List UInt8) then (spec_Arity.j1 k x3 (x3.toList == ([101, 114, 114, 111, 114] : List UInt8))) else (if x3.toList = ([102, 105, 101, 108, 100] : List UInt8) then (spec_Arity.j1 k x3 (x3.toList == ([102, 105, 101, 108, 100] : List UInt8))) else (spec_Arity.j1 k x3 (x3.toList == ([105, 115] : List UInt8)))))))))))
def spec_Arity.j1 : Nat → ByteArray → Bool → Option (Int)
  | 0, _, _ => none
  | k + 1, x3, x12 => if x12 = true then (some 1) else (if x3.toList = ([109, 97, 107, 101] : List UInt8) then (some 0) else (some (-1)))
end
def spec_Arity.f (k : Nat) (a0 : ByteArray) : Option (Int) := if a0.toList = ([43] : List UInt8) then (spec_Arity.j0 k a0 (a0.toList == ([43] : List UInt8))) else (if a0.toList = ([45] : List UInt8) then (spec_Arity.j0 k a0 (a0.toList == ([45] : List UInt8))) else (if a0.toList = ([42] : List UInt8) then (spec_Arity.j0 k a0 (a0.toList == ([42] : List UInt8))) else (if a0.toList = ([60] : List UInt8) then (spec_Arity.j0 k a0 (a0.toList == ([60] : List UInt8))) else (if a0.toList = ([61] : List UInt8) then (spec_Arity.j0 k a0 (a0.toList == ([61] : List UInt8))) else (if a0.toList = ([101, 113, 63] : List UInt8) then (spec_Arity.j0 k a0 (a0.toList == ([101, 113, 63] : List UInt8))) else (spec_Arity.j0 k a0 (a0.toList == ([99, 111, 110, 115] : List UInt8))))))))
theorem spec_Arity.mono_l : ∀ k, (∀ y0 y1, LeO (spec_Arity.j0 k y0 y1) (spec_Arity.j0 (k + 1) y0 y1)) ∧ (∀ y0 y1, LeO (spec_Arity.j1 k y0 y1) (spec_Arity.j1 (k + 1) y0 y1))
  | 0 => ⟨fun _ _ r h => by simp [spec_Arity.j0] at h, fun _ _ r h => by simp [spec_Arity.j1] at h⟩
  | k + 1 => by
    obtain ⟨ih0, ih1⟩ := spec_Arity.mono_l k
    refine ⟨?_, ?_⟩
    · intro y0 y1
      unfold spec_Arity.j0
      repeat' first
      | (with_reducible exact ih0 _ _)
      | (with_reducible exact ih1 _ _)
      | (with_reducible exact LeO.refl _)
      | (with_reducible exact LeO.none _)
      | (with_reducible refine LeO.ite ?_ ?_)
      | (with_reducible refine LeO.bind ?_ (fun _ => ?_))
      | exact ih0 _ _
      | exact ih1 _ _
      | exact LeO.none _
      | refine LeO.ite ?_ ?_
      | refine LeO.bind ?_ (fun _ => ?_)
    · intro y0 y1
      unfold spec_Arity.j1
      repeat' first
      | (with_reducible exact ih0 _ _)
      | (with_reducible exact ih1 _ _)
      | (with_reducible exact LeO.refl _)
      | (with_reducible exact LeO.none _)
      | (with_reducible refine LeO.ite ?_ ?_)
      | (with_reducible refine LeO.bind ?_ (fun _ => ?_))
      | exact ih0 _ _
      | exact ih1 _ _
      | exact LeO.none _
      | refine LeO.ite ?_ ?_
      | refine LeO.bind ?_ (fun _ => ?_)
theorem spec_Arity.mono : ∀ a0 k, LeO (spec_Arity.f k a0) (spec_Arity.f (k + 1) a0) := by
  intro a0 k
  obtain ⟨ih0, ih1⟩ := spec_Arity.mono_l k
  unfold spec_Arity.f
  repeat' first
      | (with_reducible exact ih0 _ _)
      | (with_reducible exact ih1 _ _)
      | (with_reducible exact LeO.refl _)
      | (with_reducible exact LeO.none _)
      | (with_reducible refine LeO.ite ?_ ?_)
      | (with_reducible refine LeO.bind ?_ (fun _ => ?_))
      | exact ih0 _ _
      | exact ih1 _ _
      | exact LeO.none _
      | refine LeO.ite ?_ ?_
      | refine LeO.bind ?_ (fun _ => ?_)
set_option maxHeartbeats 8000000 in
set_option maxRecDepth 100000 in
theorem spec_Arity.calls (k : Nat) (a0 : ByteArray) (r : Int) (w : World) (h : spec_Arity.f k a0 = some r) :
    Calls Tryd.prog 63 #[.string a0] w fun e w' => e = .returned (.int .i64 r) ∧ Drawn0 w w' := by
  have H : (if a0.toList = ([43] : List UInt8) then (spec_Arity.j0 k a0 (a0.toList == ([43] : List UInt8))) else (if a0.toList = ([45] : List UInt8) then (spec_Arity.j0 k a0 (a0.toList == ([45] : List UInt8))) else (if a0.toList = ([42] : List UInt8) then (spec_Arity.j0 k a0 (a0.toList == ([42] : List UInt8))) else (if a0.toList = ([60] : List UInt8) then (spec_Arity.j0 k a0 (a0.toList == ([60] : List UInt8))) else (if a0.toList = ([61] : List UInt8) then (spec_Arity.j0 k a0 (a0.toList == ([61] : List UInt8))) else (if a0.toList = ([101, 113, 63] : List UInt8) then (spec_Arity.j0 k a0 (a0.toList == ([101, 113, 63] : List UInt8))) else (spec_Arity.j0 k a0 (a0.toList == ([99, 111, 110, 115] : List UInt8))))))))) = some r := h
  clear h
  have HC2 := Aside0.mk H
  clear H
  go_enter Tryd.func63, Tryd.ntmps63
  go_upto_if 4 with (fail)
  go_cut [4] (fun v4 wc => ∃ (kq : Nat) (x4_1 : Bool), v4 = .bool x4_1 ∧ Aside0 (spec_Arity.j0 kq a0 x4_1 = some r) ∧ Aside0 (kq ≤ k) ∧ Drawn0 w wc)
  case first =>
    have H := HC2.out
    clear HC2
    by_cases c3 : a0.toList = ([43] : List UInt8)
    · rw [if_pos c3] at H
      have c3b0 : (a0.toList == ([43] : List UInt8)) = true := beq_iff_eq.mpr c3
      have c3b1 : (a0.toList != ([43] : List UInt8)) = false := bne_eq_false_iff_eq.mpr c3
      clear c3
      (first | rw [c3b0] | (simp only [i64_w, i32_w]; rw [c3b0]) | skip)
      have H' := Aside0.mk H
      clear H
      go_wp2
      go_meet
      case rel => exact ⟨_, ((a0.toList == ([43] : List UInt8))), (by first | rfl | (simp; done) | (simp [*]; done)), H', ⟨by first | omega | exact Nat.le_refl _⟩, by repeat (first | exact Drawn0.refl _ | apply Drawn0.step)⟩
    · rw [if_neg c3] at H
      have c3b0 : (a0.toList == ([43] : List UInt8)) = false := beq_eq_false_iff_ne.mpr c3
      have c3b1 : (a0.toList != ([43] : List UInt8)) = true := bne_iff_ne.mpr c3
      (first | rw [c3b0] | (simp only [i64_w, i32_w]; rw [c3b0]) | skip)
      by_cases c4 : a0.toList = ([45] : List UInt8)
      · rw [if_pos c4] at H
        have c4b0 : (a0.toList == ([45] : List UInt8)) = true := beq_iff_eq.mpr c4
        have c4b1 : (a0.toList != ([45] : List UInt8)) = false := bne_eq_false_iff_eq.mpr c4
        clear c4
        have H' := Aside0.mk H
        clear H
        go_wp2
        go_meet
        case rel => exact ⟨_, ((a0.toList == ([45] : List UInt8))), (by first | rfl | (simp; done) | (simp [*]; done)), H', ⟨by first | omega | exact Nat.le_refl _⟩, by repeat (first | exact Drawn0.refl _ | apply Drawn0.step)⟩
      · rw [if_neg c4] at H
        have c4b0 : (a0.toList == ([45] : List UInt8)) = false := beq_eq_false_iff_ne.mpr c4
        have c4b1 : (a0.toList != ([45] : List UInt8)) = true := bne_iff_ne.mpr c4
        by_cases c5 : a0.toList = ([42] : List UInt8)
        · rw [if_pos c5] at H
          have c5b0 : (a0.toList == ([42] : List UInt8)) = true := beq_iff_eq.mpr c5
          have c5b1 : (a0.toList != ([42] : List UInt8)) = false := bne_eq_false_iff_eq.mpr c5
          clear c5
          have H' := Aside0.mk H
          clear H
          go_wp2
          go_meet
          case rel => exact ⟨_, ((a0.toList == ([42] : List UInt8))), (by first | rfl | (simp; done) | (simp [*]; done)), H', ⟨by first | omega | exact Nat.le_refl _⟩, by repeat (first | exact Drawn0.refl _ | apply Drawn0.step)⟩
        · rw [if_neg c5] at H
          have c5b0 : (a0.toList == ([42] : List UInt8)) = false := beq_eq_false_iff_ne.mpr c5
          have c5b1 : (a0.toList != ([42] : List UInt8)) = true := bne_iff_ne.mpr c5
          by_cases c6 : a0.toList = ([60] : List UInt8)
          · rw [if_pos c6] at H
            have c6b0 : (a0.toList == ([60] : List UInt8)) = true := beq_iff_eq.mpr c6
            have c6b1 : (a0.toList != ([60] : List UInt8)) = false := bne_eq_false_iff_eq.mpr c6
            clear c6
            have H' := Aside0.mk H
            clear H
            go_wp2
            go_meet
            case rel => exact ⟨_, ((a0.toList == ([60] : List UInt8))), (by first | rfl | (simp; done) | (simp [*]; done)), H', ⟨by first | omega | exact Nat.le_refl _⟩, by repeat (first | exact Drawn0.refl _ | apply Drawn0.step)⟩
          · rw [if_neg c6] at H
            have c6b0 : (a0.toList == ([60] : List UInt8)) = false := beq_eq_false_iff_ne.mpr c6
            have c6b1 : (a0.toList != ([60] : List UInt8)) = true := bne_iff_ne.mpr c6
            by_cases c7 : a0.toList = ([61] : List UInt8)
            · rw [if_pos c7] at H
              have c7b0 : (a0.toList == ([61] : List UInt8)) = true := beq_iff_eq.mpr c7
              have c7b1 : (a0.toList != ([61] : List UInt8)) = false := bne_eq_false_iff_eq.mpr c7
              clear c7
              have H' := Aside0.mk H
              clear H
              go_wp2
              go_meet
              case rel => exact ⟨_, ((a0.toList == ([61] : List UInt8))), (by first | rfl | (simp; done) | (simp [*]; done)), H', ⟨by first | omega | exact Nat.le_refl _⟩, by repeat (first | exact Drawn0.refl _ | apply Drawn0.step)⟩
            · rw [if_neg c7] at H
              have c7b0 : (a0.toList == ([61] : List UInt8)) = false := beq_eq_false_iff_ne.mpr c7
              have c7b1 : (a0.toList != ([61] : List UInt8)) = true := bne_iff_ne.mpr c7
              by_cases c8 : a0.toList = ([101, 113, 63] : List UInt8)
              · rw [if_pos c8] at H
                have c8b0 : (a0.toList == ([101, 113, 63] : List UInt8)) = true := beq_iff_eq.mpr c8
                have c8b1 : (a0.toList != ([101, 113, 63] : List UInt8)) = false := bne_eq_false_iff_eq.mpr c8
                clear c8
                have H' := Aside0.mk H
                clear H
                go_wp2
                go_meet
                case rel => exact ⟨_, ((a0.toList == ([101, 113, 63] : List UInt8))), (by first | rfl | (simp; done) | (simp [*]; done)), H', ⟨by first | omega | exact Nat.le_refl _⟩, by repeat (first | exact Drawn0.refl _ | apply Drawn0.step)⟩
              · rw [if_neg c8] at H
                have c8b0 : (a0.toList == ([101, 113, 63] : List UInt8)) = false := beq_eq_false_iff_ne.mpr c8
                have c8b1 : (a0.toList != ([101, 113, 63] : List UInt8)) = true := bne_iff_ne.mpr c8
                have H' := Aside0.mk H
                clear H
                go_wp2
                go_meet
                case rel => exact ⟨_, ((a0.toList == ([99, 111, 110, 115] : List UInt8))), (by first | rfl | (simp; done) | (simp [*]; done)), H', ⟨by first | omega | exact Nat.le_refl _⟩, by repeat (first | exact Drawn0.refl _ | apply Drawn0.step)⟩
  case rest =>
    clear HC2
    try clear p2
    try clear c3
    try clear c3b0
    try clear c3b1
    try clear c4
    try clear c4b0
    try clear c4b1
    try clear c5
    try clear c5b0
    try clear c5b1
    try clear c6
    try clear c6b0
    try clear c6b1
    try clear c7
    try clear c7b0
    try clear c7b1
    try clear c8
    try clear c8b0
    try clear c8b1
    obtain ⟨kq, x4_1, rfl, HA, HJ1, ⟨mc1, rfl⟩⟩ := hcut
    cases kq with
    | zero => exact absurd HA.out (by simp [spec_Arity.j0])
    | succ kj1 =>
      have H := HA.out
      clear HA
      simp only [spec_Arity.j0] at H
      by_cases c9 : x4_1 = true
      · subst c9
        have H1 : (some 2) = some r := by rw [if_pos rfl] at H; exact H
        clear H
        have H := H1
        clear H1
        obtain rfl := Option.some.inj H
        go_wp2
        go_ret
        exact ⟨by first | rfl | (simp; done) | (simp [*]; done), by repeat (first | exact Drawn0.refl _ | apply Drawn0.step)⟩
      · replace c9 := Bool.eq_false_iff.mpr c9
        subst c9
        have H1 : (if a0.toList = ([99, 97, 114] : List UInt8) then (spec_Arity.j1 kj1 a0 (a0.toList == ([99, 97, 114] : List UInt8))) else (if a0.toList = ([99, 100, 114] : List UInt8) then (spec_Arity.j1 kj1 a0 (a0.toList == ([99, 100, 114] : List UInt8))) else (if a0.toList = ([110, 117, 108, 108, 63] : List UInt8) then (spec_Arity.j1 kj1 a0 (a0.toList == ([110, 117, 108, 108, 63] : List UInt8))) else (if a0.toList = ([112, 97, 105, 114, 63] : List UInt8) then (spec_Arity.j1 kj1 a0 (a0.toList == ([112, 97, 105, 114, 63] : List UInt8))) else (if a0.toList = ([110, 111, 116] : List UInt8) then (spec_Arity.j1 kj1 a0 (a0.toList == ([110, 111, 116] : List UInt8))) else (if a0.toList = ([112, 114, 105, 110, 116] : List UInt8) then (spec_Arity.j1 kj1 a0 (a0.toList == ([112, 114, 105, 110, 116] : List UInt8))) else (if a0.toList = ([101, 114, 114, 111, 114] : List UInt8) then (spec_Arity.j1 kj1 a0 (a0.toList == ([101, 114, 114, 111, 114] : List UInt8))) else (if a0.toList = ([102, 105, 101, 108, 100] : List UInt8) then (spec_Arity.j1 kj1 a0 (a0.toList == ([102, 105, 101, 108, 100] : List UInt8))) else (spec_Arity.j1 kj1 a0 (a0.toList == ([105, 115] : List UInt8))))))))))) = some r := by rw [if_neg (show ¬ (false = true) by decide)] at H; exact H
        clear H
        have H := H1
        clear H1
        have HC10 := Aside0.mk H
        clear H
        go_upto_if 12 with (fail)
        go_cut [12] (fun v12 wc => ∃ (kq : Nat) (x12_9 : Bool), v12 = .bool x12_9 ∧ Aside0 (spec_Arity.j1 kq a0 x12_9 = some r) ∧ Aside0 (kq ≤ kj1) ∧ Drawn0 w wc)
        case first =>
          have H := HC10.out
          clear HC10
          by_cases c11 : a0.toList = ([99, 97, 114] : List UInt8)
          · rw [if_pos c11] at H
            have c11b0 : (a0.toList == ([99, 97, 114] : List UInt8)) = true := beq_iff_eq.mpr c11
            have c11b1 : (a0.toList != ([99, 97, 114] : List UInt8)) = false := bne_eq_false_iff_eq.mpr c11
            clear c11
            (first | rw [c11b0] | (simp only [i64_w, i32_w]; rw [c11b0]) | skip)
            have H' := Aside0.mk H
            clear H
            go_wp2
            go_meet
            case rel => exact ⟨_, ((a0.toList == ([99, 97, 114] : List UInt8))), (by first | rfl | (simp; done) | (simp [*]; done)), H', ⟨by have := HJ1.out; first | omega | exact Nat.le_refl _⟩, by repeat (first | exact Drawn0.refl _ | apply Drawn0.step)⟩
          · rw [if_neg c11] at H
            have c11b0 : (a0.toList == ([99, 97, 114] : List UInt8)) = false := beq_eq_false_iff_ne.mpr c11
            have c11b1 : (a0.toList != ([99, 97, 114] : List UInt8)) = true := bne_iff_ne.mpr c11
            (first | rw [c11b0] | (simp only [i64_w, i32_w]; rw [c11b0]) | skip)
            by_cases c12 : a0.toList = ([99, 100, 114] : List UInt8)
            · rw [if_pos c12] at H
              have c12b0 : (a0.toList == ([99, 100, 114] : List UInt8)) = true := beq_iff_eq.mpr c12
              have c12b1 : (a0.toList != ([99, 100, 114] : List UInt8)) = false := bne_eq_false_iff_eq.mpr c12
              clear c12
              have H' := Aside0.mk H
              clear H
              go_wp2
              go_meet
              case rel => exact ⟨_, ((a0.toList == ([99, 100, 114] : List UInt8))), (by first | rfl | (simp; done) | (simp [*]; done)), H', ⟨by have := HJ1.out; first | omega | exact Nat.le_refl _⟩, by repeat (first | exact Drawn0.refl _ | apply Drawn0.step)⟩
            · rw [if_neg c12] at H
              have c12b0 : (a0.toList == ([99, 100, 114] : List UInt8)) = false := beq_eq_false_iff_ne.mpr c12
              have c12b1 : (a0.toList != ([99, 100, 114] : List UInt8)) = true := bne_iff_ne.mpr c12
              by_cases c13 : a0.toList = ([110, 117, 108, 108, 63] : List UInt8)
              · rw [if_pos c13] at H
                have c13b0 : (a0.toList == ([110, 117, 108, 108, 63] : List UInt8)) = true := beq_iff_eq.mpr c13
                have c13b1 : (a0.toList != ([110, 117, 108, 108, 63] : List UInt8)) = false := bne_eq_false_iff_eq.mpr c13
                clear c13
                have H' := Aside0.mk H
                clear H
                go_wp2
                go_meet
                case rel => exact ⟨_, ((a0.toList == ([110, 117, 108, 108, 63] : List UInt8))), (by first | rfl | (simp; done) | (simp [*]; done)), H', ⟨by have := HJ1.out; first | omega | exact Nat.le_refl _⟩, by repeat (first | exact Drawn0.refl _ | apply Drawn0.step)⟩
              · rw [if_neg c13] at H
                have c13b0 : (a0.toList == ([110, 117, 108, 108, 63] : List UInt8)) = false := beq_eq_false_iff_ne.mpr c13
                have c13b1 : (a0.toList != ([110, 117, 108, 108, 63] : List UInt8)) = true := bne_iff_ne.mpr c13
                by_cases c14 : a0.toList = ([112, 97, 105, 114, 63] : List UInt8)
                · rw [if_pos c14] at H
                  have c14b0 : (a0.toList == ([112, 97, 105, 114, 63] : List UInt8)) = true := beq_iff_eq.mpr c14
                  have c14b1 : (a0.toList != ([112, 97, 105, 114, 63] : List UInt8)) = false := bne_eq_false_iff_eq.mpr c14
                  clear c14
                  have H' := Aside0.mk H
                  clear H
                  go_wp2
                  go_meet
                  case rel => exact ⟨_, ((a0.toList == ([112, 97, 105, 114, 63] : List UInt8))), (by first | rfl | (simp; done) | (simp [*]; done)), H', ⟨by have := HJ1.out; first | omega | exact Nat.le_refl _⟩, by repeat (first | exact Drawn0.refl _ | apply Drawn0.step)⟩
                · rw [if_neg c14] at H
                  have c14b0 : (a0.toList == ([112, 97, 105, 114, 63] : List UInt8)) = false := beq_eq_false_iff_ne.mpr c14
                  have c14b1 : (a0.toList != ([112, 97, 105, 114, 63] : List UInt8)) = true := bne_iff_ne.mpr c14
                  by_cases c15 : a0.toList = ([110, 111, 116] : List UInt8)
                  · rw [if_pos c15] at H
                    have c15b0 : (a0.toList == ([110, 111, 116] : List UInt8)) = true := beq_iff_eq.mpr c15
                    have c15b1 : (a0.toList != ([110, 111, 116] : List UInt8)) = false := bne_eq_false_iff_eq.mpr c15
                    clear c15
                    have H' := Aside0.mk H
                    clear H
                    go_wp2
                    go_meet
                    case rel => exact ⟨_, ((a0.toList == ([110, 111, 116] : List UInt8))), (by first | rfl | (simp; done) | (simp [*]; done)), H', ⟨by have := HJ1.out; first | omega | exact Nat.le_refl _⟩, by repeat (first | exact Drawn0.refl _ | apply Drawn0.step)⟩
                  · rw [if_neg c15] at H
                    have c15b0 : (a0.toList == ([110, 111, 116] : List UInt8)) = false := beq_eq_false_iff_ne.mpr c15
                    have c15b1 : (a0.toList != ([110, 111, 116] : List UInt8)) = true := bne_iff_ne.mpr c15
                    by_cases c16 : a0.toList = ([112, 114, 105, 110, 116] : List UInt8)
                    · rw [if_pos c16] at H
                      have c16b0 : (a0.toList == ([112, 114, 105, 110, 116] : List UInt8)) = true := beq_iff_eq.mpr c16
                      have c16b1 : (a0.toList != ([112, 114, 105, 110, 116] : List UInt8)) = false := bne_eq_false_iff_eq.mpr c16
                      clear c16
                      have H' := Aside0.mk H
                      clear H
                      go_wp2
                      go_meet
                      case rel => exact ⟨_, ((a0.toList == ([112, 114, 105, 110, 116] : List UInt8))), (by first | rfl | (simp; done) | (simp [*]; done)), H', ⟨by have := HJ1.out; first | omega | exact Nat.le_refl _⟩, by repeat (first | exact Drawn0.refl _ | apply Drawn0.step)⟩
                    · rw [if_neg c16] at H
                      have c16b0 : (a0.toList == ([112, 114, 105, 110, 116] : List UInt8)) = false := beq_eq_false_iff_ne.mpr c16
                      have c16b1 : (a0.toList != ([112, 114, 105, 110, 116] : List UInt8)) = true := bne_iff_ne.mpr c16
                      by_cases c17 : a0.toList = ([101, 114, 114, 111, 114] : List UInt8)
                      · rw [if_pos c17] at H
                        have c17b0 : (a0.toList == ([101, 114, 114, 111, 114] : List UInt8)) = true := beq_iff_eq.mpr c17
                        have c17b1 : (a0.toList != ([101, 114, 114, 111, 114] : List UInt8)) = false := bne_eq_false_iff_eq.mpr c17
                        clear c17
                        have H' := Aside0.mk H
                        clear H
                        go_wp2
                        go_meet
                        case rel => exact ⟨_, ((a0.toList == ([101, 114, 114, 111, 114] : List UInt8))), (by first | rfl | (simp; done) | (simp [*]; done)), H', ⟨by have := HJ1.out; first | omega | exact Nat.le_refl _⟩, by repeat (first | exact Drawn0.refl _ | apply Drawn0.step)⟩
                      · rw [if_neg c17] at H
                        have c17b0 : (a0.toList == ([101, 114, 114, 111, 114] : List UInt8)) = false := beq_eq_false_iff_ne.mpr c17
                        have c17b1 : (a0.toList != ([101, 114, 114, 111, 114] : List UInt8)) = true := bne_iff_ne.mpr c17
                        by_cases c18 : a0.toList = ([102, 105, 101, 108, 100] : List UInt8)
                        · rw [if_pos c18] at H
                          have c18b0 : (a0.toList == ([102, 105, 101, 108, 100] : List UInt8)) = true := beq_iff_eq.mpr c18
                          have c18b1 : (a0.toList != ([102, 105, 101, 108, 100] : List UInt8)) = false := bne_eq_false_iff_eq.mpr c18
                          clear c18
                          have H' := Aside0.mk H
                          clear H
                          go_wp2
                          go_meet
                          case rel => exact ⟨_, ((a0.toList == ([102, 105, 101, 108, 100] : List UInt8))), (by first | rfl | (simp; done) | (simp [*]; done)), H', ⟨by have := HJ1.out; first | omega | exact Nat.le_refl _⟩, by repeat (first | exact Drawn0.refl _ | apply Drawn0.step)⟩
                        · rw [if_neg c18] at H
                          have c18b0 : (a0.toList == ([102, 105, 101, 108, 100] : List UInt8)) = false := beq_eq_false_iff_ne.mpr c18
                          have c18b1 : (a0.toList != ([102, 105, 101, 108, 100] : List UInt8)) = true := bne_iff_ne.mpr c18
                          have H' := Aside0.mk H
                          clear H
                          go_wp2
                          go_meet
                          case rel => exact ⟨_, ((a0.toList == ([105, 115] : List UInt8))), (by first | rfl | (simp; done) | (simp [*]; done)), H', ⟨by have := HJ1.out; first | omega | exact Nat.le_refl _⟩, by repeat (first | exact Drawn0.refl _ | apply Drawn0.step)⟩
        case rest =>
          clear HC10
          try clear c1
          try clear p2
          try clear c3
          try clear c3b0
          try clear c3b1
          try clear c4
          try clear c4b0
          try clear c4b1
          try clear c5
          try clear c5b0
          try clear c5b1
          try clear c6
          try clear c6b0
          try clear c6b1
          try clear c7
          try clear c7b0
          try clear c7b1
          try clear c8
          try clear c8b0
          try clear c8b1
          try clear c9
          try clear c11
          try clear c11b0
          try clear c11b1
          try clear c12
          try clear c12b0
          try clear c12b1
          try clear c13
          try clear c13b0
          try clear c13b1
          try clear c14
          try clear c14b0
          try clear c14b1
          try clear c15
          try clear c15b0
          try clear c15b1
          try clear c16
          try clear c16b0
          try clear c16b1
          try clear c17
          try clear c17b0
          try clear c17b1
          try clear c18
          try clear c18b0
          try clear c18b1
          try clear p2
          obtain ⟨kq, x12_9, rfl, HA, HJ9, ⟨mc9, rfl⟩⟩ := hcut
          cases kq with
          | zero => exact absurd HA.out (by simp [spec_Arity.j1])
          | succ kj9 =>
            have H := HA.out
            clear HA
            simp only [spec_Arity.j1] at H
            by_cases c19 : x12_9 = true
            · subst c19
              have H1 : (some 1) = some r := by rw [if_pos rfl] at H; exact H
              clear H
              have H := H1
              clear H1
              obtain rfl := Option.some.inj H
              go_wp2
              go_ret
              exact ⟨by first | rfl | (simp; done) | (simp [*]; done), by repeat (first | exact Drawn0.refl _ | apply Drawn0.step)⟩
            · replace c19 := Bool.eq_false_iff.mpr c19
              subst c19
              have H1 : (if a0.toList = ([109, 97, 107, 101] : List UInt8) then (some 0) else (some (-1))) = some r := by rw [if_neg (show ¬ (false = true) by decide)] at H; exact H
              clear H
              have H := H1
              clear H1
              by_cases c20 : a0.toList = ([109, 97, 107, 101] : List UInt8)
              · rw [if_pos c20] at H
                have c20b0 : (a0.toList == ([109, 97, 107, 101] : List UInt8)) = true := beq_iff_eq.mpr c20
                have c20b1 : (a0.toList != ([109, 97, 107, 101] : List UInt8)) = false := bne_eq_false_iff_eq.mpr c20
                clear c20
                obtain rfl := Option.some.inj H
                go_wp2
                go_ret
                exact ⟨by first | rfl | (simp; done) | (simp [*]; done), by repeat (first | exact Drawn0.refl _ | apply Drawn0.step)⟩
              · rw [if_neg c20] at H
                have c20b0 : (a0.toList == ([109, 97, 107, 101] : List UInt8)) = false := beq_eq_false_iff_ne.mpr c20
                have c20b1 : (a0.toList != ([109, 97, 107, 101] : List UInt8)) = true := bne_iff_ne.mpr c20
                obtain rfl := Option.some.inj H
                go_wp2
                go_ret
                exact ⟨by first | rfl | (simp; done) | (simp [*]; done), by repeat (first | exact Drawn0.refl _ | apply Drawn0.step)⟩

/-! ### spec_IsName: function 24 -/
def spec_IsName.f (k : Nat) (a0 : ByteArray) : Option (Bool) := if a0.toList = ([37, 116] : List UInt8) then (some true) else ((spec_l2Sym.f k a0).bind fun t123 => (if t123 = true then ((spec_l3Word.f k a0).bind fun t124 => (if t124 = true then (some false) else ((spec_Arity.f k a0).bind fun t125 => (some (decide (t125 < 0)))))) else (some false)))
theorem spec_IsName.mono : ∀ a0 k, LeO (spec_IsName.f k a0) (spec_IsName.f (k + 1) a0) := by
  intro a0 k
  unfold spec_IsName.f
  repeat' first
      | (with_reducible exact spec_Arity.mono _ _)
      | (with_reducible exact spec_l2Sym.mono _ _)
      | (with_reducible exact spec_l3Word.mono _ _)
      | (with_reducible exact LeO.refl _)
      | (with_reducible exact LeO.none _)
      | (with_reducible refine LeO.ite ?_ ?_)
      | (with_reducible refine LeO.bind ?_ (fun _ => ?_))
      | exact spec_Arity.mono _ _
      | exact spec_l2Sym.mono _ _
      | exact spec_l3Word.mono _ _
      | exact LeO.none _
      | refine LeO.ite ?_ ?_
      | refine LeO.bind ?_ (fun _ => ?_)
set_option maxHeartbeats 8000000 in
set_option maxRecDepth 100000 in
theorem spec_IsName.calls (k : Nat) (a0 : ByteArray) (r : Bool) (w : World) (h : spec_IsName.f k a0 = some r) :
    Calls Tryd.prog 24 #[.string a0] w fun e w' => e = .returned (.bool r) ∧ Below w.heap.size w w' := by
  have HB := Aside0.mk (Below.refl w.heap.size w)
  have H : (if a0.toList = ([37, 116] : List UInt8) then (some true) else ((spec_l2Sym.f k a0).bind fun t123 => (if t123 = true then ((spec_l3Word.f k a0).bind fun t124 => (if t124 = true then (some false) else ((spec_Arity.f k a0).bind fun t125 => (some (decide (t125 < 0)))))) else (some false)))) = some r := h
  clear h
  by_cases c2 : a0.toList = ([37, 116] : List UInt8)
  · rw [if_pos c2] at H
    have c2b0 : (a0.toList == ([37, 116] : List UInt8)) = true := beq_iff_eq.mpr c2
    have c2b1 : (a0.toList != ([37, 116] : List UInt8)) = false := bne_eq_false_iff_eq.mpr c2
    clear c2
    obtain rfl := Option.some.inj H
    go_enter Tryd.func24, Tryd.ntmps24
    go_wp2
    go_ret
    exact ⟨by first | rfl | (simp [errW_none, errW_some] <;> rfl) | (simp [*, errW_none, errW_some] <;> rfl), by repeat (first | (with_reducible first | exact HB.out | apply below_alloc | apply pw_below_drewN | apply below_drew1) | exact HB.out)⟩
  · rw [if_neg c2] at H
    have c2b0 : (a0.toList == ([37, 116] : List UInt8)) = false := beq_eq_false_iff_ne.mpr c2
    have c2b1 : (a0.toList != ([37, 116] : List UInt8)) = true := bne_iff_ne.mpr c2
    replace H := Option.bind_eq_some_iff.mp H
    obtain ⟨t123, A30, H⟩ := H
    replace H : (if t123 = true then ((spec_l3Word.f k a0).bind fun t124 => (if t124 = true then (some false) else ((spec_Arity.f k a0).bind fun t125 => (some (decide (t125 < 0)))))) else (some false)) = some r := H
    have A3 := Aside0.mk A30
    clear A30
    by_cases c4 : t123 = true
    · subst c4
      have H1 : ((spec_l3Word.f k a0).bind fun t124 => (if t124 = true then (some false) else ((spec_Arity.f k a0).bind fun t125 => (some (decide (t125 < 0)))))) = some r := by rw [if_pos rfl] at H; exact H
      clear H
      have H := H1
      clear H1
      replace H := Option.bind_eq_some_iff.mp H
      obtain ⟨t124, A50, H⟩ := H
      replace H : (if t124 = true then (some false) else ((spec_Arity.f k a0).bind fun t125 => (some (decide (t125 < 0))))) = some r := H
      have A5 := Aside0.mk A50
      clear A50
      by_cases c6 : t124 = true
      · subst c6
        have H1 : (some false) = some r := by rw [if_pos rfl] at H; exact H
        clear H
        have H := H1
        clear H1
        obtain rfl := Option.some.inj H
        go_enter Tryd.func24, Tryd.ntmps24
        go_wp2_with (first | (go_at_call 61; (with_reducible refine (spec_l2Sym.calls k a0 true _ A3.out).mono ?_); rintro e w7 ⟨rfl, hb⟩; have n0_ := Aside0.mk (below_step (by repeat (first | (with_reducible first | exact HB.out | apply below_alloc | apply pw_below_drewN | apply below_drew1) | exact HB.out)) hb); clear HB; have HB := n0_; clear n0_; (try clear hb); (try clear hb2); (try clear hk); (try clear hi)) | (go_at_call 62; (with_reducible refine (spec_l3Word.calls k a0 true _ A5.out).mono ?_); rintro e w8 ⟨rfl, hb⟩; have n0_ := Aside0.mk (below_step (by repeat (first | (with_reducible first | exact HB.out | apply below_alloc | apply pw_below_drewN | apply below_drew1) | exact HB.out)) hb); clear HB; have HB := n0_; clear n0_; (try clear hb); (try clear hb2); (try clear hk); (try clear hi)))
        go_ret
        exact ⟨by first | rfl | (simp [errW_none, errW_some] <;> rfl) | (simp [*, errW_none, errW_some] <;> rfl), by repeat (first | (with_reducible first | exact HB.out | apply below_alloc | apply pw_below_drewN | apply below_drew1) | exact HB.out)⟩
      · replace c6 := Bool.eq_false_iff.mpr c6
        subst c6
        have H1 : ((spec_Arity.f k a0).bind fun t125 => (some (decide (t125 < 0)))) = some r := by rw [if_neg (show ¬ (false = true) by decide)] at H; exact H
        clear H
        have H := H1
        clear H1
        replace H := Option.bind_eq_some_iff.mp H
        obtain ⟨t125, A90, H⟩ := H
        replace H : (some (decide (t125 < 0))) = some r := H
        have A9 := Aside0.mk A90
        clear A90
        obtain rfl := Option.some.inj H
        go_enter Tryd.func24, Tryd.ntmps24
        go_wp2_with (first | (go_at_call 61; (with_reducible refine (spec_l2Sym.calls k a0 true _ A3.out).mono ?_); rintro e w10 ⟨rfl, hb⟩; have n0_ := Aside0.mk (below_step (by repeat (first | (with_reducible first | exact HB.out | apply below_alloc | apply pw_below_drewN | apply below_drew1) | exact HB.out)) hb); clear HB; have HB := n0_; clear n0_; (try clear hb); (try clear hb2); (try clear hk); (try clear hi)) | (go_at_call 62; (with_reducible refine (spec_l3Word.calls k a0 false _ A5.out).mono ?_); rintro e w11 ⟨rfl, hb⟩; have n0_ := Aside0.mk (below_step (by repeat (first | (with_reducible first | exact HB.out | apply below_alloc | apply pw_below_drewN | apply below_drew1) | exact HB.out)) hb); clear HB; have HB := n0_; clear n0_; (try clear hb); (try clear hb2); (try clear hk); (try clear hi)) | (go_at_call 63; (with_reducible refine (spec_Arity.calls k a0 t125 _ A9.out).mono ?_); rintro e w' ⟨rfl, ⟨nd, rfl⟩⟩))
        go_ret
        exact ⟨by first | rfl | (simp [errW_none, errW_some] <;> rfl) | (simp [*, errW_none, errW_some] <;> rfl), by repeat (first | (with_reducible first | exact HB.out | apply below_alloc | apply pw_below_drewN | apply below_drew1) | exact HB.out)⟩
    · replace c4 := Bool.eq_false_iff.mpr c4
      subst c4
      have H1 : (some false) = some r := by rw [if_neg (show ¬ (false = true) by decide)] at H; exact H
      clear H
      have H := H1
      clear H1
      obtain rfl := Option.some.inj H
      go_enter Tryd.func24, Tryd.ntmps24
      go_wp2_with (first | (go_at_call 61; (with_reducible refine (spec_l2Sym.calls k a0 false _ A3.out).mono ?_); rintro e w12 ⟨rfl, hb⟩; have n0_ := Aside0.mk (below_step (by repeat (first | (with_reducible first | exact HB.out | apply below_alloc | apply pw_below_drewN | apply below_drew1) | exact HB.out)) hb); clear HB; have HB := n0_; clear n0_; (try clear hb); (try clear hb2); (try clear hk); (try clear hi)))
      go_ret
      exact ⟨by first | rfl | (simp [errW_none, errW_some] <;> rfl) | (simp [*, errW_none, errW_some] <;> rfl), by repeat (first | (with_reducible first | exact HB.out | apply below_alloc | apply pw_below_drewN | apply below_drew1) | exact HB.out)⟩

/-! ### stringslite_HasPrefix: function 132 -/
def stringslite_HasPrefix.f (a0 : ByteArray) (a1 : ByteArray) : Option (Bool) := if (a0.size : Int) ≥ (a1.size : Int) then (if 0 ≤ (a1.size : Int) then (if (a1.size : Int) ≤ (a0.size : Int) then (some ((a0.extract 0 ((a1.size : Int) : Int).toNat).toList == a1.toList)) else (none)) else (none)) else (some false)
set_option maxHeartbeats 8000000 in
set_option maxRecDepth 100000 in
theorem stringslite_HasPrefix.calls (a0 : ByteArray) (a1 : ByteArray) (r : Bool) (w : World) (h : stringslite_HasPrefix.f a0 a1 = some r) :
    Calls Tryd.prog 132 #[.string a0, .string a1] w fun e w' => e = .returned (.bool r) ∧ Drawn0 w w' := by
  have H : (if (a0.size : Int) ≥ (a1.size : Int) then (if 0 ≤ (a1.size : Int) then (if (a1.size : Int) ≤ (a0.size : Int) then (some ((a0.extract 0 ((a1.size : Int) : Int).toNat).toList == a1.toList)) else (none)) else (none)) else (some false)) = some r := h
  clear h
  by_cases c3 : (a0.size : Int) ≥ (a1.size : Int)
  · rw [if_pos c3] at H
    have c3b0 : decide ((a1.size : Int) ≤ (a0.size : Int)) = true := decide_eq_true c3
    have c3b1 : decide (a1.size ≤ a0.size) = true := decide_eq_true (Int.ofNat_le.mp c3)
    clear c3
    by_cases c4 : 0 ≤ (a1.size : Int)
    · rw [if_pos c4] at H
      have c4b0 := eq_true c4
      have c4b1 : decide (0 ≤ (a1.size : Int)) = true := decide_eq_true c4
      clear c4
      by_cases c5 : (a1.size : Int) ≤ (a0.size : Int)
      · rw [if_pos c5] at H
        have c5b0 := eq_true c5
        have c5b1 : decide ((a1.size : Int) ≤ (a0.size : Int)) = true := decide_eq_true c5
        clear c5
        obtain rfl := Option.some.inj H
        go_enter Tryd.func132, Tryd.ntmps132
        go_wp2
        go_ret
        exact ⟨by first | rfl | (simp; done) | (simp [*]; done), by repeat (first | exact Drawn0.refl _ | apply Drawn0.step)⟩
      · rw [if_neg c5] at H
        exact absurd H (by simp)
    · rw [if_neg c4] at H
      exact absurd H (by simp)
  · rw [if_neg c3] at H
    have c3b0 : decide ((a1.size : Int) ≤ (a0.size : Int)) = false := decide_eq_false c3
    have c3b1 : decide (a1.size ≤ a0.size) = false := decide_eq_false (fun h => c3 (Int.ofNat_le.mpr h))
    clear c3
    obtain rfl := Option.some.inj H
    go_enter Tryd.func132, Tryd.ntmps132
    go_wp2
    go_ret
    exact ⟨by first | rfl | (simp; done) | (simp [*]; done), by repeat (first | exact Drawn0.refl _ | apply Drawn0.step)⟩

/-! ### stringslite_TrimPrefix: function 92 -/
def stringslite_TrimPrefix.f (a0 : ByteArray) (a1 : ByteArray) : Option (ByteArray) := (stringslite_HasPrefix.f a0 a1).bind fun t126 => (if t126 = true then (if 0 ≤ (a1.size : Int) then (if (a1.size : Int) ≤ (a0.size : Int) then (some (a0.extract ((a1.size : Int) : Int).toNat a0.size)) else (none)) else (none)) else (some a0))
set_option maxHeartbeats 8000000 in
set_option maxRecDepth 100000 in
theorem stringslite_TrimPrefix.calls (a0 : ByteArray) (a1 : ByteArray) (r : ByteArray) (w : World) (h : stringslite_TrimPrefix.f a0 a1 = some r) :
    Calls Tryd.prog 92 #[.string a0, .string a1] w fun e w' => e = .returned (.string r) ∧ Drawn0 w w' := by
  have H : ((stringslite_HasPrefix.f a0 a1).bind fun t126 => (if t126 = true then (if 0 ≤ (a1.size : Int) then (if (a1.size : Int) ≤ (a0.size : Int) then (some (a0.extract ((a1.size : Int) : Int).toNat a0.size)) else (none)) else (none)) else (some a0))) = some r := h
  clear h
  replace H := Option.bind_eq_some_iff.mp H
  obtain ⟨t126, A30, H⟩ := H
  replace H : (if t126 = true then (if 0 ≤ (a1.size : Int) then (if (a1.size : Int) ≤ (a0.size : Int) then (some (a0.extract ((a1.size : Int) : Int).toNat a0.size)) else (none)) else (none)) else (some a0)) = some r := H
  have A3 := Aside0.mk A30
  clear A30
  by_cases c4 : t126 = true
  · subst c4
    have H1 : (if 0 ≤ (a1.size : Int) then (if (a1.size : Int) ≤ (a0.size : Int) then (some (a0.extract ((a1.size : Int) : Int).toNat a0.size)) else (none)) else (none)) = some r := by rw [if_pos rfl] at H; exact H
    clear H
    have H := H1
    clear H1
    by_cases c5 : 0 ≤ (a1.size : Int)
    · rw [if_pos c5] at H
      have c5b0 := eq_true c5
      have c5b1 : decide (0 ≤ (a1.size : Int)) = true := decide_eq_true c5
      clear c5
      by_cases c6 : (a1.size : Int) ≤ (a0.size : Int)
      · rw [if_pos c6] at H
        have c6b0 := eq_true c6
        have c6b1 : decide ((a1.size : Int) ≤ (a0.size : Int)) = true := decide_eq_true c6
        clear c6
        obtain rfl := Option.some.inj H
        go_enter Tryd.func92, Tryd.ntmps92
        go_wp2_with (first | ((with_reducible refine gate_callee (f := 132) rfl ?_); refine goesL_ (some 7) rfl rfl Tryd.func132 (by kernel_rfl) rfl #[.string a0, .string a1] rfl (by (try simp only [List.map_toArray, List.map_cons, List.map_nil]); first | done | rfl | (simp only [List.length_drop, List.length_take]; rfl)) ?_; (with_reducible refine (stringslite_HasPrefix.calls a0 a1 true _ A3.out).mono ?_); rintro e w' ⟨rfl, ⟨nd, rfl⟩⟩; refine ⟨_, rfl, ?_⟩))
        go_ret
        exact ⟨by first | rfl | (simp; done) | (simp [*]; done), by repeat (first | exact Drawn0.refl _ | apply Drawn0.step)⟩
      · rw [if_neg c6] at H
        exact absurd H (by simp)
    · rw [if_neg c5] at H
      exact absurd H (by simp)
  · replace c4 := Bool.eq_false_iff.mpr c4
    subst c4
    have H1 : (some a0) = some r := by rw [if_neg (show ¬ (false = true) by decide)] at H; exact H
    clear H
    have H := H1
    clear H1
    obtain rfl := Option.some.inj H
    go_enter Tryd.func92, Tryd.ntmps92
    go_wp2_with (first | ((with_reducible refine gate_callee (f := 132) rfl ?_); refine goesL_ (some 7) rfl rfl Tryd.func132 (by kernel_rfl) rfl #[.string a0, .string a1] rfl (by (try simp only [List.map_toArray, List.map_cons, List.map_nil]); first | done | rfl | (simp only [List.length_drop, List.length_take]; rfl)) ?_; (with_reducible refine (stringslite_HasPrefix.calls a0 a1 false _ A3.out).mono ?_); rintro e w' ⟨rfl, ⟨nd, rfl⟩⟩; refine ⟨_, rfl, ?_⟩))
    go_ret
    exact ⟨by first | rfl | (simp; done) | (simp [*]; done), by repeat (first | exact Drawn0.refl _ | apply Drawn0.step)⟩

/-! ### strings_TrimPrefix: function 48 -/
def strings_TrimPrefix.f (a0 : ByteArray) (a1 : ByteArray) : Option (ByteArray) := (stringslite_TrimPrefix.f a0 a1).bind fun t127 => (some t127)
set_option maxHeartbeats 8000000 in
set_option maxRecDepth 100000 in
theorem strings_TrimPrefix.calls (a0 : ByteArray) (a1 : ByteArray) (r : ByteArray) (w : World) (h : strings_TrimPrefix.f a0 a1 = some r) :
    Calls Tryd.prog 48 #[.string a0, .string a1] w fun e w' => e = .returned (.string r) ∧ Drawn0 w w' := by
  have H : ((stringslite_TrimPrefix.f a0 a1).bind fun t127 => (some t127)) = some r := h
  clear h
  replace H := Option.bind_eq_some_iff.mp H
  obtain ⟨t127, A30, H⟩ := H
  replace H : (some t127) = some r := H
  have A3 := Aside0.mk A30
  clear A30
  obtain rfl := Option.some.inj H
  go_enter Tryd.func48, Tryd.ntmps48
  go_wp2_with (first | ((with_reducible refine gate_callee (f := 92) rfl ?_); refine goesL_ (some 7) rfl rfl Tryd.func92 (by kernel_rfl) rfl #[.string a0, .string a1] rfl (by (try simp only [List.map_toArray, List.map_cons, List.map_nil]); first | done | rfl | (simp only [List.length_drop, List.length_take]; rfl)) ?_; (with_reducible refine (stringslite_TrimPrefix.calls a0 a1 t127 _ A3.out).mono ?_); rintro e w' ⟨rfl, ⟨nd, rfl⟩⟩; refine ⟨_, rfl, ?_⟩))
  go_ret
  exact ⟨by first | rfl | (simp; done) | (simp [*]; done), by repeat (first | exact Drawn0.refl _ | apply Drawn0.step)⟩

/-! ### impl_inRange: function 49 -/
def impl_inRange.f (a0 : Int) (a1 : Int) (a2 : Int) : Option (Bool) := if a0 ≥ a1 then (some (decide (a0 ≤ a2))) else (some false)
set_option maxHeartbeats 8000000 in
set_option maxRecDepth 100000 in
theorem impl_inRange.calls (a0 : Int) (a1 : Int) (a2 : Int) (r : Bool) (w : World) (h : impl_inRange.f a0 a1 a2 = some r) :
    Calls Tryd.prog 49 #[.int .i64 a0, .int .i64 a1, .int .i64 a2] w fun e w' => e = .returned (.bool r) ∧ Drawn0 w w' := by
  have H : (if a0 ≥ a1 then (some (decide (a0 ≤ a2))) else (some false)) = some r := h
  clear h
  by_cases c4 : a0 ≥ a1
  · rw [if_pos c4] at H
    have c4b0 : decide (a1 ≤ a0) = true := decide_eq_true c4
    clear c4
    obtain rfl := Option.some.inj H
    go_enter Tryd.func49, Tryd.ntmps49
    go_wp2
    go_ret
    exact ⟨by first | rfl | (simp; done) | (simp [*]; done), by repeat (first | exact Drawn0.refl _ | apply Drawn0.step)⟩
  · rw [if_neg c4] at H
    have c4b0 : decide (a1 ≤ a0) = false := decide_eq_false c4
    clear c4
    obtain rfl := Option.some.inj H
    go_enter Tryd.func49, Tryd.ntmps49
    go_wp2
    go_ret
    exact ⟨by first | rfl | (simp; done) | (simp [*]; done), by repeat (first | exact Drawn0.refl _ | apply Drawn0.step)⟩

/-! ### strconv_Itoa: function 54 -/
/-- A number in decimal digits. -/
def strconv_Itoa.f (a0 : Int) : Option (ByteArray) := if -9223372036854775808 ≤ a0 ∧ a0 ≤ 9223372036854775807 then some (⟨(Lib.itoa a0).toArray⟩ : ByteArray) else none
theorem grow_drawn_below (w : World) (k : Nat) (os : Array Obj) : Below w.heap.size w (Go.Sort.grow (w.drewN k) os) := by
  refine ⟨rfl, rfl, rfl, ?_, fun i hi => ?_⟩
  · show w.heap.size ≤ (w.heap ++ os).size
    simp
  · show (w.heap ++ os)[i]? = w.heap[i]?
    rw [Array.getElem?_append_left hi]
theorem strconv_Itoa.calls (a0 : Int) (r : ByteArray) (w : World) (hL : Laid w) (h : strconv_Itoa.f a0 = some r) :
    Calls Tryd.prog 54 #[.int .i64 a0] w fun e w' => e = .returned (.string r) ∧ Below w.heap.size w w' := by
  unfold strconv_Itoa.f at h
  by_cases hs : -9223372036854775808 ≤ a0 ∧ a0 ≤ 9223372036854775807
  · rw [if_pos hs] at h
    obtain rfl := Option.some.inj h
    refine (Tryd.strconv_Itoa a0 hs.1 hs.2 w hL.p10).mono ?_
    rintro e w' ⟨rfl, k, os, rfl⟩
    exact ⟨rfl, grow_drawn_below w k os⟩
  · rw [if_neg hs] at h
    cases h


/-! ### impl_Dec: function 20 -/
def impl_Dec.f (a0 : Int) : Option (ByteArray) := (strconv_Itoa.f a0).bind fun t128 => (some t128)
set_option maxHeartbeats 8000000 in
set_option maxRecDepth 100000 in
theorem impl_Dec.calls (a0 : Int) (r : ByteArray) (w : World) (hL : Laid w) (h : impl_Dec.f a0 = some r) :
    Calls Tryd.prog 20 #[.int .i64 a0] w fun e w' => e = .returned (.string r) ∧ Below w.heap.size w w' := by
  have HL := Aside0.mk hL
  clear hL
  have HB := Aside0.mk (Below.refl w.heap.size w)
  have H : ((strconv_Itoa.f a0).bind fun t128 => (some t128)) = some r := h
  clear h
  replace H := Option.bind_eq_some_iff.mp H
  obtain ⟨t128, A20, H⟩ := H
  replace H : (some t128) = some r := H
  have A2 := Aside0.mk A20
  clear A20
  obtain rfl := Option.some.inj H
  go_enter Tryd.func20, Tryd.ntmps20
  go_wp2_with (first | ((with_reducible refine gate_callee (f := 54) rfl ?_); refine goesL_ (some 4) rfl rfl Tryd.func54 (by kernel_rfl) rfl #[.int .i64 a0] rfl (by (try simp only [List.map_toArray, List.map_cons, List.map_nil]); first | done | rfl | (simp only [List.length_drop, List.length_take]; rfl)) ?_; (with_reducible refine (strconv_Itoa.calls (hL := ?sideL) a0 t128 _ A2.out).mono ?_); (case sideL => (first | exact HL.out | (refine Laid.below HL.out ?_; repeat (first | (with_reducible first | exact HB.out | exact Below.refl _ _ | apply below_alloc | apply pw_below_drewN | apply below_drew1) | exact HB.out | (refine below_set ?_ (Aside0.out (by assumption))))) | (refine Laid.drawn HL.out ?_; repeat (first | exact Drawn0.refl _ | apply Drawn0.step)))); rintro e w3 ⟨rfl, hb⟩; refine ⟨_, rfl, ?_⟩; have n0_ := Aside0.mk (below_step (by repeat (first | (with_reducible first | exact HB.out | apply below_alloc | apply pw_below_drewN | apply below_drew1) | exact HB.out)) hb); clear HB; have HB := n0_; clear n0_; (try clear hb); (try clear hb2); (try clear hk); (try clear hi)))
  go_ret
  exact ⟨by first | rfl | (simp [errW_none, errW_some] <;> rfl) | (simp [*, errW_none, errW_some] <;> rfl), by repeat (first | (with_reducible first | exact HB.out | apply below_alloc | apply pw_below_drewN | apply below_drew1) | exact HB.out)⟩

/-! ### impl_ReadDec: function 12 -/
/-- The number that a text of at most nine digits tells, if it is written as one writes it. -/
def impl_ReadDec.f (a0 : ByteArray) : Option (Int × Bool) :=
  (strings_TrimPrefix.f a0 (⟨#[45]⟩ : ByteArray)).bind fun d => (impl_inRange.f (d.size : Int) 1 9).bind fun b =>
    if b = true then
      (if a0.size ≤ 140737488351232 then
        (match Lib.atoiAll a0.data.toList with
          | .ok v => (impl_Dec.f v).bind fun t => if t.toList = a0.toList then some (v, true) else some (0, false)
          | _ => some (0, false))
       else none)
    else some (0, false)
set_option maxHeartbeats 1000000 in
theorem impl_ReadDec.short (a0 d : ByteArray) (w : World) (hd : strings_TrimPrefix.f a0 (⟨#[45]⟩ : ByteArray) = some d) (hb : impl_inRange.f (d.size : Int) 1 9 = some false) :
    Calls Tryd.prog 12 #[.string a0] w fun e w' => e = .returned (.tuple #[.int .i64 0, .bool false]) ∧ Below w.heap.size w w' := by
  have hd' := Aside0.mk hd
  have hb' := Aside0.mk hb
  clear hd hb
  go_enter Tryd.func12, Tryd.ntmps12
  go_wp2_with fail
  refine (strings_TrimPrefix.calls a0 _ d _ hd'.out).mono ?_
  rintro e w1 ⟨rfl, hw1⟩
  have HB := Aside0.mk hw1.below
  clear hw1
  go_wp2_with fail
  refine (impl_inRange.calls _ 1 9 false _ hb'.out).mono ?_
  rintro e w2 ⟨rfl, hw2⟩
  have HB2 := Aside0.mk (below_then HB.out HB.out.size hw2.below)
  clear hw2
  go_wp2_with fail
  go_ret2
  exact ⟨rfl, HB2.out⟩
set_option maxHeartbeats 1000000 in
theorem impl_ReadDec.failed (a0 d : ByteArray) (w : World) (hL : Laid w) (hs : a0.size ≤ 140737488351232) (hd : strings_TrimPrefix.f a0 (⟨#[45]⟩ : ByteArray) = some d) (hb : impl_inRange.f (d.size : Int) 1 9 = some true)
    (hA : ∀ v, Lib.atoiAll a0.data.toList ≠ .ok v) :
    Calls Tryd.prog 12 #[.string a0] w fun e w' => e = .returned (.tuple #[.int .i64 0, .bool false]) ∧ Below w.heap.size w w' := by
  have hat : ∀ W : World, Laid W → Calls Tryd.prog 50 #[.string a0] W fun e w' => ∃ (x : Int) (u : Nat) (N : Nat), e = .returned (.tuple #[.int .i64 x, .iface u (.pointer (some ⟨N, 0, none⟩))]) ∧ Below W.heap.size W w' := by
    intro W hLW
    by_cases hr : Lib.atoiAll a0.data.toList = .range
    rotate_left
    · obtain ⟨tp, p, hv⟩ := hLW.esyn
      refine (Tryd.strconv_Atoi_syntax_var a0 (by omega) hA hr tp p W hv).mono ?_
      rintro e w' ⟨N, rfl, _, _, hB⟩
      exact ⟨_, _, N, rfl, hB⟩
    · obtain ⟨tp, p, hv⟩ := hLW.eran
      refine (Tryd.strconv_Atoi_range_var a0 (by omega) hr tp p W hv).mono ?_
      rintro e w' ⟨N, rfl, _, _, hB⟩
      exact ⟨_, _, N, rfl, hB⟩
  have hat' := Aside0.mk hat
  have hd' := Aside0.mk hd
  have hb' := Aside0.mk hb
  have hL' := Aside0.mk hL
  clear hd hb hat hA hL
  go_enter Tryd.func12, Tryd.ntmps12
  go_wp2_with fail
  refine (strings_TrimPrefix.calls a0 _ d _ hd'.out).mono ?_
  rintro e w1 ⟨rfl, hw1⟩
  have HB := Aside0.mk hw1.below
  clear hw1
  go_wp2_with fail
  refine (impl_inRange.calls _ 1 9 true _ hb'.out).mono ?_
  rintro e w2 ⟨rfl, hw2⟩
  have HB2 := Aside0.mk (below_then HB.out HB.out.size hw2.below)
  clear hw2
  go_wp2_with fail
  refine (hat'.out _ (hL'.out.below HB2.out)).mono ?_
  rintro e w3 ⟨x, u, N, rfl, hB3⟩
  have HB3 := Aside0.mk (below_then HB2.out HB2.out.size hB3)
  clear hB3
  go_wp2_with fail
  go_ret2
  exact ⟨rfl, HB3.out⟩
set_option maxHeartbeats 1000000 in
theorem impl_ReadDec.told (a0 d t : ByteArray) (v : Int) (w : World) (hL : Laid w) (hs : a0.size ≤ 140737488351232) (hd : strings_TrimPrefix.f a0 (⟨#[45]⟩ : ByteArray) = some d) (hb : impl_inRange.f (d.size : Int) 1 9 = some true)
    (hA : Lib.atoiAll a0.data.toList = .ok v) (ht : impl_Dec.f v = some t) :
    Calls Tryd.prog 12 #[.string a0] w fun e w' => e = .returned (if t.toList = a0.toList then .tuple #[.int .i64 v, .bool true] else .tuple #[.int .i64 0, .bool false]) ∧ Below w.heap.size w w' := by
  have hat : ∀ W : World, Calls Tryd.prog 50 #[.string a0] W fun e w' => e = .returned (.tuple #[.int .i64 v, .nilIface]) ∧ Below W.heap.size W w' := by
    intro W
    refine (Tryd.strconv_Atoi_ok a0 (by omega) v hA W).mono ?_
    rintro e w' ⟨rfl, hW⟩
    refine ⟨rfl, ?_⟩
    rcases hW with rfl | ⟨t, rfl⟩
    · exact Below.refl _ _
    · exact Lib.bytesWorld_below _ _ _
  have hat' := Aside0.mk hat
  have hd' := Aside0.mk hd
  have hb' := Aside0.mk hb
  have hL' := Aside0.mk hL
  have ht' := Aside0.mk ht
  clear hd hb hat hA hL ht
  by_cases he : t.toList = a0.toList
  · rw [if_pos he]
    have e0 : (t.toList == a0.toList) = true := by simpa using he
    have e1 : (t.toList != a0.toList) = false := by simpa using he
    clear he
    go_enter Tryd.func12, Tryd.ntmps12
    go_wp2_with fail
    refine (strings_TrimPrefix.calls a0 _ d _ hd'.out).mono ?_
    rintro e w1 ⟨rfl, hw1⟩
    have HB := Aside0.mk hw1.below
    clear hw1
    go_wp2_with fail
    refine (impl_inRange.calls _ 1 9 true _ hb'.out).mono ?_
    rintro e w2 ⟨rfl, hw2⟩
    have HB2 := Aside0.mk (below_then HB.out HB.out.size hw2.below)
    clear hw2
    go_wp2_with fail
    refine (hat'.out _).mono ?_
    rintro e w3 ⟨rfl, hB3⟩
    have HB3 := Aside0.mk (below_then HB2.out HB2.out.size hB3)
    clear hB3
    go_wp2_with fail
    refine (impl_Dec.calls v t _ (hL'.out.below HB3.out) ht'.out).mono ?_
    rintro e w4 ⟨rfl, hB4⟩
    have HB4 := Aside0.mk (below_then HB3.out HB3.out.size hB4)
    clear hB4
    go_wp2_with fail
    go_ret2
    exact ⟨rfl, HB4.out⟩
  · rw [if_neg he]
    have e0 : (t.toList == a0.toList) = false := by simpa using he
    have e1 : (t.toList != a0.toList) = true := by simpa using he
    clear he
    go_enter Tryd.func12, Tryd.ntmps12
    go_wp2_with fail
    refine (strings_TrimPrefix.calls a0 _ d _ hd'.out).mono ?_
    rintro e w1 ⟨rfl, hw1⟩
    have HB := Aside0.mk hw1.below
    clear hw1
    go_wp2_with fail
    refine (impl_inRange.calls _ 1 9 true _ hb'.out).mono ?_
    rintro e w2 ⟨rfl, hw2⟩
    have HB2 := Aside0.mk (below_then HB.out HB.out.size hw2.below)
    clear hw2
    go_wp2_with fail
    refine (hat'.out _).mono ?_
    rintro e w3 ⟨rfl, hB3⟩
    have HB3 := Aside0.mk (below_then HB2.out HB2.out.size hB3)
    clear hB3
    go_wp2_with fail
    refine (impl_Dec.calls v t _ (hL'.out.below HB3.out) ht'.out).mono ?_
    rintro e w4 ⟨rfl, hB4⟩
    have HB4 := Aside0.mk (below_then HB3.out HB3.out.size hB4)
    clear hB4
    go_wp2_with fail
    go_ret2
    exact ⟨rfl, HB4.out⟩
theorem impl_ReadDec.calls (a0 : ByteArray) (r1 : Int) (r2 : Bool) (w : World) (hL : Laid w) (h : impl_ReadDec.f a0 = some (r1, r2)) :
    Calls Tryd.prog 12 #[.string a0] w fun e w' => e = .returned (.tuple #[.int .i64 r1, .bool r2]) ∧ Below w.heap.size w w' := by
  unfold impl_ReadDec.f at h
  obtain ⟨d, hd, h⟩ := Option.bind_eq_some_iff.mp h
  obtain ⟨b, hb, h⟩ := Option.bind_eq_some_iff.mp h
  cases b with
  | false =>
    have h' : (some (0, false) : Option (Int × Bool)) = some (r1, r2) := h
    simp only [Option.some.injEq, Prod.mk.injEq] at h'
    obtain ⟨rfl, rfl⟩ := h'
    exact impl_ReadDec.short a0 d w hd hb
  | true =>
    rw [if_pos rfl] at h
    by_cases hs : a0.size ≤ 140737488351232
    · rw [if_pos hs] at h
      rcases hA : Lib.atoiAll a0.data.toList with v | _ | _
      rotate_left
      ·
        rw [hA] at h
        simp only [Option.some.injEq, Prod.mk.injEq] at h
        obtain ⟨rfl, rfl⟩ := h
        exact impl_ReadDec.failed a0 d w hL hs hd hb (fun v hv => by rw [hA] at hv; cases hv)
      ·
        rw [hA] at h
        simp only [Option.some.injEq, Prod.mk.injEq] at h
        obtain ⟨rfl, rfl⟩ := h
        exact impl_ReadDec.failed a0 d w hL hs hd hb (fun v hv => by rw [hA] at hv; cases hv)
      ·
        rw [hA] at h
        obtain ⟨t, ht, h⟩ := Option.bind_eq_some_iff.mp h
        refine (impl_ReadDec.told a0 d t v w hL hs hd hb hA ht).mono ?_
        rintro e w' ⟨rfl, hB⟩
        refine ⟨?_, hB⟩
        by_cases he : t.toList = a0.toList
        · rw [if_pos he] at h ⊢
          simp only [Option.some.injEq, Prod.mk.injEq] at h
          obtain ⟨rfl, rfl⟩ := h
          rfl
        · rw [if_neg he] at h ⊢
          simp only [Option.some.injEq, Prod.mk.injEq] at h
          obtain ⟨rfl, rfl⟩ := h
          rfl
    · rw [if_neg hs] at h
      cases h


/-! ### strings_IndexByte: function 55 -/
def strings_IndexByte.f (a0 : ByteArray) (a1 : Int) : Option (Int) := some (Lib.indexByte a0.data.toList a1.toNat.toUInt8)
theorem strings_IndexByte.calls (a0 : ByteArray) (a1 : Int) (r : Int) (w : World) (h : strings_IndexByte.f a0 a1 = some r) :
    Calls Tryd.prog 55 #[.string a0, .int .u8 a1] w fun e w' => e = .returned (.int .i64 r) ∧ Drawn0 w w' := by
  obtain rfl := Option.some.inj h
  refine (Tryd.strings_IndexByte a0 a1 w).mono ?_
  rintro e w' ⟨rfl, rfl⟩
  exact ⟨rfl, Drawn0.refl _⟩


end Go.Proofs.YtgfejfeafppagaaDoor.PFnExactIsName
