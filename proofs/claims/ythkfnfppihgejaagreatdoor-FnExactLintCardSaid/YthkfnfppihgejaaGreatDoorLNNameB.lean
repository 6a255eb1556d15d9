/- Words, arities, names: the program's and the reference's tell the same. -/
import Derived.Test.YthkfnfppihgejaaGreatDoorLNNameA
namespace Go.Proofs.YthkfnfppihgejaaGreatDoor.LN
open Go Go.VS Go.Lib
set_option maxRecDepth 10000
set_option linter.unusedSimpArgs false
set_option linter.unusedVariables false
theorem contains_run (a b : ByteArray) (h : (a.size : Int) ≤ 4294967000) : A 99 [.leaf (.str a), .leaf (.str b)] = some ([.leaf (.bool (Lib.contains a.data.toList b.data.toList))], [.gone, .gone]) :=
 P_strings_Contains (by simp only [prim_strings_Contains, runContains]; rw [if_pos (by omega)])
theorem isOneOf (a row : ByteArray) (ws : List ByteArray) (ha : (a.size : Int) ≤ 1000000000) (hs : (row.size : Int) ≤ 1000000000) (hrow : 32 :: (row.data.toList ++ [32]) = joinT (ws.map fun w => w.data.toList)) (hws : ∀ v ∈ ws, (32 : UInt8) ∉ v.data.toList ∧ v.data.toList ≠ []) :
  A 77 [.leaf (.str a), .leaf (.str row)] = some ([.leaf (.bool (decide (a ∈ ws)))], [.gone, .gone]) := by
 have h := oneOf_is a row ws hrow hws
 have c1 := contains_run a ⟨#[32]⟩ (by omega)
 have c2 := contains_run (⟨#[32]⟩ ++ row ++ ⟨#[32]⟩) (⟨#[32]⟩ ++ a ++ ⟨#[32]⟩) (by simp [ByteArray.size_append]; omega)
 have e32 : (⟨#[32]⟩ : ByteArray).data.toList = [32] := rfl
 rw [e32] at c1
 refine run_impl_isOneOf ?_
 generalize Lib.contains a.data.toList [32] = x at h c1
 generalize Lib.contains ((⟨#[32]⟩ : ByteArray) ++ row ++ ⟨#[32]⟩).data.toList ((⟨#[32]⟩ : ByteArray) ++ a ++ ⟨#[32]⟩).data.toList = y at h c2
 have e : decide (a ∈ ws) = (decide (¬ a = ⟨#[]⟩) && (!x && y)) := by
  rw [Bool.eq_iff_iff, decide_eq_true_iff, ← h]
  cases x <;> cases y <;> simp
 rw [e]
 by_cases h0 : a = ⟨#[]⟩
 ·simp (maxSteps := 1000000) (disch := omega) [ip, wr, impl_isOneOf.b, h0]
 ·cases x <;> simp (maxSteps := 1000000) (disch := omega) [ip, wr, impl_isOneOf.b, h0, c1, c2]
theorem l3In_loop (s : ByteArray) (ks : List Fr) (Q : VX → Env → Prop) (l : List ByteArray) (hs : (l.length : Int) ≤ 1000000000000000) : ∀ (rest done : List ByteArray) (i : Int), l = done ++ rest → i = done.length →
  (s ∉ rest → Run G A (.exit 0) [(0, .v (.leaf (Kstrs false l))), (1, .v (.leaf (.str s))), (5, .v (.leaf (.int .i64 l.length))), (9, .v (.leaf (.bool false)))] ks Q) →
  (s ∈ rest → Run G A .ret [(4, .v (.leaf (.bool true)))] ks Q) →
  Run G A (.loop spec_l3In.l0) [(0, .v (.leaf (Kstrs false l))), (1, .v (.leaf (.str s))), (5, .v (.leaf (.int .i64 i)))] ks Q := by
 intro rest
 induction rest with
 | nil =>
  intro done i hd hi hq hr
  subst hi hd
  refine run_loop_at spec_l3In.l0.eq_1 ?_
  simp (maxSteps := 1000000) (disch := omega) [ip, wr, ]
  simpa using hq (by simp)
 | cons c rest ih =>
  intro done i hd hi hq hr
  have ih := ih (done ++ [c]) (done.length + 1) (by simp [hd]) (by simp)
  subst hi hd
  simp only [List.length_append, List.length_cons] at hs
  refine run_loop_at spec_l3In.l0.eq_1 ?_
  by_cases hc : c = s
  ·subst hc
   have hr := hr (by simp)
   simp (maxSteps := 1000000) (disch := omega) [ip, wr, get_mid]
   exact hr
  ·have ih := ih (fun h => hq (by simp [Ne.symm hc, h])) (fun h => hr (by simp [h]))
   simp (maxSteps := 1000000) (disch := omega) [ip, wr, get_mid, hc]
   refine run_env ih ?_
   simp
theorem l3In (s : ByteArray) (l : List ByteArray) (hs : (l.length : Int) ≤ 1000000000000000) : A 23 [.leaf (Kstrs false l), .leaf (.str s)] = some ([.leaf (.bool (decide (s ∈ l)))], [.gone, .gone]) := by
 refine run_spec_l3In ?_
 simp [spec_l3In.b]
 refine l3In_loop s _ _ l hs l [] 0 rfl rfl (fun h => ?_) (fun h => ?_)
 ·simp [h]
 ·simp [h]
theorem l3Word (s : ByteArray) : A 71 [.leaf (.str s)] = some ([.leaf (.bool (decide (s ∈ words)))], [.gone]) := by
 refine run_spec_l3Word ?_
 have h := l3In s words (by decide)
 generalize decide (s ∈ words) = k at *
 simp only [Kstrs, words, List.map] at h
 simp (maxSteps := 1000000) (disch := omega) [ip, wr, spec_l3Word.b, h]
theorem implArity (s : ByteArray) (hs : (s.size : Int) ≤ 1000000000) : A 78 [.leaf (.str s)] = some ([.leaf (.int .i64 (ar s))], [.gone]) := by
 refine run_impl_Arity ?_
 have h2 := isOneOf s ⟨#[43, 32, 45, 32, 42, 32, 60, 32, 61, 32, 101, 113, 63, 32, 99, 111, 110, 115]⟩ twos hs (by decide) (by decide) (by decide)
 have h1 := isOneOf s ⟨#[99, 97, 114, 32, 99, 100, 114, 32, 110, 117, 108, 108, 63, 32, 112, 97, 105, 114, 63, 32, 110, 111, 116, 32, 112, 114, 105, 110, 116, 32, 101, 114, 114, 111, 114, 32, 102, 105, 101, 108, 100, 32, 105, 115]⟩ ones hs (by decide) (by decide) (by decide)
 by_cases c2 : s ∈ twos
 ·have e : ar s = 2 := by unfold ar; rw [if_pos c2]
  rw [decide_eq_true c2] at h2
  simp (maxSteps := 1000000) (disch := omega) [ip, wr, impl_Arity.b, h2, e]
 ·rw [decide_eq_false c2] at h2
  by_cases c1 : s ∈ ones
  ·have e : ar s = 1 := by unfold ar; rw [if_neg c2, if_pos c1]
   rw [decide_eq_true c1] at h1
   simp (maxSteps := 1000000) (disch := omega) [ip, wr, impl_Arity.b, h2, h1, e]
  ·rw [decide_eq_false c1] at h1
   by_cases c0 : s = ⟨#[109, 97, 107, 101]⟩
   ·have e : ar s = 0 := by unfold ar; rw [if_neg c2, if_neg c1, if_pos c0]
    subst c0
    simp (maxSteps := 1000000) (disch := omega) [ip, wr, impl_Arity.b, h2, h1, e]
   ·have e : ar s = -1 := by unfold ar; rw [if_neg c2, if_neg c1, if_neg c0]
    simp (maxSteps := 1000000) (disch := omega) [ip, wr, impl_Arity.b, h2, h1, c0, e]
theorem specArity (s : ByteArray) : A 72 [.leaf (.str s)] = some ([.leaf (.int .i64 (ar s))], [.gone]) := by
 refine run_spec_Arity ?_
 by_cases c2 : s ∈ twos
 ·have e : ar s = 2 := by unfold ar; rw [if_pos c2]
  rw [e]
  simp only [twos, List.mem_cons, List.not_mem_nil, or_false] at c2
  rcases c2 with rfl | rfl | rfl | rfl | rfl | rfl | rfl <;> simp (maxSteps := 1000000) (disch := omega) [ip, wr, spec_Arity.b]
 ·by_cases c1 : s ∈ ones
  ·have e : ar s = 1 := by unfold ar; rw [if_neg c2, if_pos c1]
   rw [e]
   clear c2 e
   simp only [ones, List.mem_cons, List.not_mem_nil, or_false] at c1
   rcases c1 with rfl | rfl | rfl | rfl | rfl | rfl | rfl | rfl | rfl <;> simp (maxSteps := 1000000) (disch := omega) [ip, wr, spec_Arity.b]
  ·by_cases c0 : s = ⟨#[109, 97, 107, 101]⟩
   ·have e : ar s = 0 := by unfold ar; rw [if_neg c2, if_neg c1, if_pos c0]
    rw [e]
    clear c2 c1 e
    subst c0
    simp (maxSteps := 1000000) (disch := omega) [ip, wr, spec_Arity.b]
   ·have e : ar s = -1 := by unfold ar; rw [if_neg c2, if_neg c1, if_neg c0]
    rw [e]
    clear e
    simp only [twos, ones, List.mem_cons, List.not_mem_nil, or_false, not_or] at c1 c2
    simp (maxSteps := 1000000) (disch := omega) [ip, wr, spec_Arity.b, c1, c2, c0]
theorem implIsName (s : ByteArray) (hs : (s.size : Int) ≤ 1000000000) : A 54 [.leaf (.str s)] = some ([.leaf (.bool (isName s))], [.gone]) := by
 refine run_impl_IsName ?_
 have h1 := symOk s (by omega)
 have h2 := isOneOf s ⟨#[113, 117, 111, 116, 101, 32, 105, 102, 32, 108, 97, 109, 98, 100, 97, 32, 98, 101, 103, 105, 110, 32, 115, 101, 116, 33, 32, 108, 101, 116, 32, 108, 101, 116, 42, 32, 99, 111, 110, 100, 32, 101, 108, 115, 101, 32, 97, 110, 100, 32, 111, 114, 32, 119, 104, 101, 110, 32, 100, 101, 102, 105, 110, 101]⟩ words hs (by decide) (by decide) (by decide)
 have h3 := implArity s hs
 unfold isName
 by_cases c0 : s = ⟨#[37, 116]⟩
 ·simp (maxSteps := 1000000) (disch := omega) [ip, wr, impl_IsName.b, c0]
 ·generalize decide (s ∈ words) = k at *
  cases hk : sym s <;> rw [hk] at h1
  ·simp (maxSteps := 1000000) (disch := omega) [ip, wr, impl_IsName.b, c0, h1]
  ·cases k
   ·simp (maxSteps := 1000000) (disch := omega) [ip, wr, impl_IsName.b, c0, h1, h2, h3]
   ·simp (maxSteps := 1000000) (disch := omega) [ip, wr, impl_IsName.b, c0, h1, h2, h3]
theorem specIsName (s : ByteArray) (hs : (s.size : Int) ≤ 1000000000) : A 44 [.leaf (.str s)] = some ([.leaf (.bool (isName s))], [.gone]) := by
 refine run_spec_IsName ?_
 have h1 := l2Sym s (by omega)
 have h2 := l3Word s
 have h3 := specArity s
 unfold isName
 by_cases c0 : s = ⟨#[37, 116]⟩
 ·simp (maxSteps := 1000000) (disch := omega) [ip, wr, spec_IsName.b, c0]
 ·generalize decide (s ∈ words) = k at *
  cases hk : sym s <;> rw [hk] at h1
  ·simp (maxSteps := 1000000) (disch := omega) [ip, wr, spec_IsName.b, c0, h1]
  ·cases k
   ·simp (maxSteps := 1000000) (disch := omega) [ip, wr, spec_IsName.b, c0, h1, h2, h3]
   ·simp (maxSteps := 1000000) (disch := omega) [ip, wr, spec_IsName.b, c0, h1, h2, h3]
end Go.Proofs.YthkfnfppihgejaaGreatDoor.LN
