/- Primitives and nodes: the program's and the reference's tell the same. -/
import Derived.Test.YthkfnfppihgejaaGreatDoorLNNodeA
namespace Go.Proofs.YthkfnfppihgejaaGreatDoor.LN
open Go Go.VS Go.Lib
set_option maxRecDepth 10000
set_option maxHeartbeats 8000000
set_option linter.unusedSimpArgs false
set_option linter.unusedVariables false
noncomputable def oneName : List ByteArray → Bool
 | [s] => isName s
 | _ => false
/-- Is a node of a primitive right by itself? -/
noncomputable def primB (x : KNode) : Bool :=
 if x.s = ⟨#[109, 97, 107, 101]⟩ then oneName x.names && (decide (x.args.length ≤ 8) && decide (x.n = 0))
 else if x.s = ⟨#[102, 105, 101, 108, 100]⟩ then oneName x.names && (decide (x.args.length = 1) && decide (0 ≤ x.n ∧ x.n ≤ 7))
 else if x.s = ⟨#[105, 115]⟩ then oneName x.names && (decide (x.args.length = 1) && decide (x.n = 0))
 else decide (x.names = []) && (decide (ar x.s = x.args.length) && decide (x.n = 0))
theorem l3Prim (x : KNode) (hs : (x.s.size : Int) ≤ 1000000000) (hu : (strsU x.names : Int) ≤ 1048576) : A 95 [.agg (KNode.row false x)] = some ([.leaf (.bool (primB x))], [.gone]) := by
 obtain ⟨kind, n, s, names, args⟩ := x
 have hin := l1In n 0 7
 have hA := specArity s
 have hn : ∀ s0, names = [s0] → A 44 [.leaf (.str s0)] = some ([.leaf (.bool (isName s0))], [.gone]) := by
  rintro s0 rfl
  simp [strsU] at hu
  exact specIsName s0 (by omega)
 clear hs hu
 refine run_spec_l3Prim ?_
 simp (maxSteps := 1000000) (disch := omega) [ip, wr, spec_l3Prim.b]
 by_cases c1 : s = ⟨#[109, 97, 107, 101]⟩
 ·subst c1
  rcases names with _ | ⟨s0, _ | ⟨s1, rest⟩⟩
  ·simp (maxSteps := 1000000) (disch := omega) [ip, wr, primB, oneName]
  ·have hn := hn s0 rfl
   by_cases h0_ : isName s0 = true
   ·by_cases h1_ : args.length ≤ 8
    ·have g1_ : (args.length : Int) ≤ 8 := by omega
     simp (maxSteps := 1000000) (disch := omega) [ip, wr, primB, oneName, hn, h0_, h1_, g1_]
    ·have g1_ : ¬ ((args.length : Int) ≤ 8) := by omega
     simp (maxSteps := 1000000) (disch := omega) [ip, wr, primB, oneName, hn, h0_, h1_, g1_]
   ·simp (maxSteps := 1000000) (disch := omega) [ip, wr, primB, oneName, hn, h0_]
  ·have g : ¬ (rest.length : Int) + 1 + 1 = 1 := by omega
   simp (maxSteps := 1000000) (disch := omega) [ip, wr, primB, oneName, g]
 ·simp (maxSteps := 1000000) (disch := omega) [ip, wr, c1]
  by_cases c2 : s = ⟨#[102, 105, 101, 108, 100]⟩
  ·subst c2
   rcases names with _ | ⟨s0, _ | ⟨s1, rest⟩⟩
   ·simp (maxSteps := 1000000) (disch := omega) [ip, wr, primB, oneName]
   ·have hn := hn s0 rfl
    by_cases h0_ : isName s0 = true
    ·by_cases h1_ : args.length = 1
     ·have g1_ : (args.length : Int) = 1 := by omega
      simp (maxSteps := 1000000) (disch := omega) [ip, wr, primB, oneName, hn, hin, h0_, h1_, g1_]
     ·have g1_ : ¬ ((args.length : Int) = 1) := by omega
      simp (maxSteps := 1000000) (disch := omega) [ip, wr, primB, oneName, hn, hin, h0_, h1_, g1_]
    ·simp (maxSteps := 1000000) (disch := omega) [ip, wr, primB, oneName, hn, hin, h0_]
   ·have g : ¬ (rest.length : Int) + 1 + 1 = 1 := by omega
    simp (maxSteps := 1000000) (disch := omega) [ip, wr, primB, oneName, g]
  ·simp (maxSteps := 1000000) (disch := omega) [ip, wr, c2]
   by_cases c4 : s = ⟨#[105, 115]⟩
   ·subst c4
    rcases names with _ | ⟨s0, _ | ⟨s1, rest⟩⟩
    ·simp (maxSteps := 1000000) (disch := omega) [ip, wr, primB, oneName]
    ·have hn := hn s0 rfl
     by_cases h0_ : isName s0 = true
     ·by_cases h1_ : args.length = 1
      ·have g1_ : (args.length : Int) = 1 := by omega
       simp (maxSteps := 1000000) (disch := omega) [ip, wr, primB, oneName, hn, h0_, h1_, g1_]
      ·have g1_ : ¬ ((args.length : Int) = 1) := by omega
       simp (maxSteps := 1000000) (disch := omega) [ip, wr, primB, oneName, hn, h0_, h1_, g1_]
     ·simp (maxSteps := 1000000) (disch := omega) [ip, wr, primB, oneName, hn, h0_]
    ·have g : ¬ (rest.length : Int) + 1 + 1 = 1 := by omega
     simp (maxSteps := 1000000) (disch := omega) [ip, wr, primB, oneName, g]
   ·rcases names with _ | ⟨s0, rest⟩
    ·by_cases h0_ : ar s = args.length
     ·simp (maxSteps := 1000000) (disch := omega) [ip, wr, primB, c1, c2, c4, hA, h0_]
     ·simp (maxSteps := 1000000) (disch := omega) [ip, wr, primB, c1, c2, c4, hA, h0_]
    ·have g : ¬ (rest.length : Int) + 1 = 0 := by omega
     simp (maxSteps := 1000000) (disch := omega) [ip, wr, primB, c1, c2, c4, g]
theorem isTyped (s : ByteArray) : A 113 [.leaf (.str s)] = some ([.leaf (.bool (decide (s = ⟨#[109, 97, 107, 101]⟩ ∨ s = ⟨#[102, 105, 101, 108, 100]⟩ ∨ s = ⟨#[105, 115]⟩)))], [.gone]) := by
 refine run_impl_isTyped ?_
 by_cases c1 : s = ⟨#[109, 97, 107, 101]⟩
 ·subst c1; simp (maxSteps := 1000000) (disch := omega) [ip, wr, impl_isTyped.b]
 ·by_cases c2 : s = ⟨#[102, 105, 101, 108, 100]⟩
  ·subst c2; simp (maxSteps := 1000000) (disch := omega) [ip, wr, impl_isTyped.b]
  ·simp (maxSteps := 1000000) (disch := omega) [ip, wr, impl_isTyped.b, c1, c2]
theorem primOk (x : KNode) (hs : (x.s.size : Int) ≤ 1000000000) (hu : (strsU x.names : Int) ≤ 1048576) : A 101 [.agg (KNode.row false x)] = some ([.leaf (.bool (primB x))], [.gone]) := by
 obtain ⟨kind, n, s, names, args⟩ := x
 have hin := inRange n 0 7
 have hA := implArity s hs
 have hT := isTyped s
 have hn : ∀ s0, names = [s0] → A 54 [.leaf (.str s0)] = some ([.leaf (.bool (isName s0))], [.gone]) := by
  rintro s0 rfl
  simp [strsU] at hu
  exact implIsName s0 (by omega)
 clear hs hu
 refine run_impl_primOk ?_
 simp (maxSteps := 1000000) (disch := omega) [ip, wr, impl_primOk.b, hA]
 by_cases c1 : s = ⟨#[109, 97, 107, 101]⟩
 ·subst c1
  rcases names with _ | ⟨s0, _ | ⟨s1, rest⟩⟩
  ·by_cases h0_ : n = 0
   ·by_cases h1_ : args.length ≤ 8
    ·have g1_ : (args.length : Int) ≤ 8 := by omega
     simp (maxSteps := 1000000) (disch := omega) [ip, wr, primB, oneName, h0_, h1_, g1_]
    ·have g1_ : ¬ ((args.length : Int) ≤ 8) := by omega
     simp (maxSteps := 1000000) (disch := omega) [ip, wr, primB, oneName, h0_, h1_, g1_]
   ·simp (maxSteps := 1000000) (disch := omega) [ip, wr, primB, oneName, h0_]
  ·have hn := hn s0 rfl
   by_cases h0_ : n = 0
   ·by_cases h1_ : args.length ≤ 8
    ·have g1_ : (args.length : Int) ≤ 8 := by omega
     simp (maxSteps := 1000000) (disch := omega) [ip, wr, primB, oneName, hn, h0_, h1_, g1_]
    ·have g1_ : ¬ ((args.length : Int) ≤ 8) := by omega
     simp (maxSteps := 1000000) (disch := omega) [ip, wr, primB, oneName, hn, h0_, h1_, g1_]
   ·simp (maxSteps := 1000000) (disch := omega) [ip, wr, primB, oneName, hn, h0_]
  ·have g : ¬ (rest.length : Int) + 1 + 1 = 1 := by omega
   by_cases h0_ : n = 0
   ·by_cases h1_ : args.length ≤ 8
    ·have g1_ : (args.length : Int) ≤ 8 := by omega
     simp (maxSteps := 1000000) (disch := omega) [ip, wr, primB, oneName, g, h0_, h1_, g1_]
    ·have g1_ : ¬ ((args.length : Int) ≤ 8) := by omega
     simp (maxSteps := 1000000) (disch := omega) [ip, wr, primB, oneName, g, h0_, h1_, g1_]
   ·simp (maxSteps := 1000000) (disch := omega) [ip, wr, primB, oneName, g, h0_]
 ·simp (maxSteps := 1000000) (disch := omega) [ip, wr, c1]
  by_cases c2 : s = ⟨#[102, 105, 101, 108, 100]⟩
  ·subst c2
   have e : ar ⟨#[102, 105, 101, 108, 100]⟩ = 1 := by decide
   rw [e]
   have eT : (decide ((⟨#[102, 105, 101, 108, 100]⟩ : ByteArray) = ⟨#[109, 97, 107, 101]⟩ ∨ (⟨#[102, 105, 101, 108, 100]⟩ : ByteArray) = ⟨#[102, 105, 101, 108, 100]⟩ ∨ (⟨#[102, 105, 101, 108, 100]⟩ : ByteArray) = ⟨#[105, 115]⟩)) = true := by decide
   rw [eT] at hT
   by_cases c3 : args.length = 1
   ·have g3 : (args.length : Int) = 1 := by omega
    by_cases c6 : 0 ≤ n ∧ n ≤ 7
    ·rw [decide_eq_true c6] at hin
     rcases names with _ | ⟨s0, _ | ⟨s1, rest⟩⟩
     ·simp (maxSteps := 1000000) (disch := omega) [ip, wr, primB, oneName, c3, g3, hin, hT]
     ·have hn := hn s0 rfl
      simp (maxSteps := 1000000) (disch := omega) [ip, wr, primB, oneName, c3, g3, hin, hT, hn, c6]
     ·have g : ¬ (rest.length : Int) + 1 + 1 = 1 := by omega
      simp (maxSteps := 1000000) (disch := omega) [ip, wr, primB, oneName, c3, g3, hin, hT, g]
    ·rw [decide_eq_false c6] at hin
     simp (maxSteps := 1000000) (disch := omega) [ip, wr, primB, c3, g3, hin, hT]
     intro _ h0
     exact Int.not_le.mp fun h1 => c6 ⟨h0, h1⟩
   ·have g3 : ¬ (args.length : Int) = 1 := by omega
    simp (maxSteps := 1000000) (disch := omega) [ip, wr, primB, oneName, c3, g3]
  ·by_cases c4 : s = ⟨#[105, 115]⟩
   ·subst c4
    have e : ar ⟨#[105, 115]⟩ = 1 := by decide
    rw [e]
    have eT : (decide ((⟨#[105, 115]⟩ : ByteArray) = ⟨#[109, 97, 107, 101]⟩ ∨ (⟨#[105, 115]⟩ : ByteArray) = ⟨#[102, 105, 101, 108, 100]⟩ ∨ (⟨#[105, 115]⟩ : ByteArray) = ⟨#[105, 115]⟩)) = true := by decide
    rw [eT] at hT
    rcases names with _ | ⟨s0, _ | ⟨s1, rest⟩⟩
    ·by_cases h0_ : args.length = 1
     ·have g0_ : (args.length : Int) = 1 := by omega
      by_cases h1_ : n = 0
      ·simp (maxSteps := 1000000) (disch := omega) [ip, wr, primB, oneName, hT, h0_, g0_, h1_]
      ·simp (maxSteps := 1000000) (disch := omega) [ip, wr, primB, oneName, hT, h0_, g0_, h1_]
     ·have g0_ : ¬ ((args.length : Int) = 1) := by omega
      simp (maxSteps := 1000000) (disch := omega) [ip, wr, primB, oneName, hT, h0_, g0_]
    ·have hn := hn s0 rfl
     by_cases h0_ : args.length = 1
     ·have g0_ : (args.length : Int) = 1 := by omega
      by_cases h1_ : n = 0
      ·simp (maxSteps := 1000000) (disch := omega) [ip, wr, primB, oneName, hT, hn, h0_, g0_, h1_]
      ·simp (maxSteps := 1000000) (disch := omega) [ip, wr, primB, oneName, hT, hn, h0_, g0_, h1_]
     ·have g0_ : ¬ ((args.length : Int) = 1) := by omega
      simp (maxSteps := 1000000) (disch := omega) [ip, wr, primB, oneName, hT, hn, h0_, g0_]
    ·have g : ¬ (rest.length : Int) + 1 + 1 = 1 := by omega
     by_cases h0_ : args.length = 1
     ·have g0_ : (args.length : Int) = 1 := by omega
      by_cases h1_ : n = 0
      ·simp (maxSteps := 1000000) (disch := omega) [ip, wr, primB, oneName, hT, g, h0_, g0_, h1_]
      ·simp (maxSteps := 1000000) (disch := omega) [ip, wr, primB, oneName, hT, g, h0_, g0_, h1_]
     ·have g0_ : ¬ ((args.length : Int) = 1) := by omega
      simp (maxSteps := 1000000) (disch := omega) [ip, wr, primB, oneName, hT, g, h0_, g0_]
   ·have hT' : decide (s = ⟨#[109, 97, 107, 101]⟩ ∨ s = ⟨#[102, 105, 101, 108, 100]⟩ ∨ s = ⟨#[105, 115]⟩) = false := decide_eq_false (by simp [c1, c2, c4])
    rw [hT'] at hT
    have e : primB ⟨kind, n, s, names, args⟩ = (decide (names = []) && (decide (ar s = args.length) && decide (n = 0))) := by
     unfold primB
     rw [if_neg c1, if_neg c2, if_neg c4]
    rw [e]
    clear e
    have hcase := ar_cases s
    generalize ar s = k at *
    by_cases c0 : k < 0
    ·have c3 : ¬ k = args.length := by omega
     simp (maxSteps := 1000000) (disch := omega) [ip, wr, c0, c3]
    ·by_cases c3 : k = args.length
     ·subst c3
      by_cases c5 : n = 0
      ·rcases names with _ | ⟨s0, rest⟩
       ·simp (maxSteps := 1000000) (disch := omega) [ip, wr, c1, c2, c4, c5, hT]
       ·have g : ¬ (rest.length : Int) + 1 = 0 := by omega
        simp (maxSteps := 1000000) (disch := omega) [ip, wr, c1, c2, c4, c5, hT, g]
      ·simp (maxSteps := 1000000) (disch := omega) [ip, wr, c1, c2, c4, c5, hT]
     ·simp (maxSteps := 1000000) (disch := omega) [ip, wr, c0, c3, Ne.symm c3]
end Go.Proofs.YthkfnfppihgejaaGreatDoor.LN
