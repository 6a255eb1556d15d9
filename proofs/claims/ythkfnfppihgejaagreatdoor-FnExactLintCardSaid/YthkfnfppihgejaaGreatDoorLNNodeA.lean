/- Rows of names, primitives, nodes, programs: the program's and the reference's tell the same. -/
import Derived.Test.YthkfnfppihgejaaGreatDoorLNNameB
import Derived.Test.YthkfnfppihgejaaGreatDoorLNFam
namespace Go.Proofs.YthkfnfppihgejaaGreatDoor.LN
open Go Go.VS Go.Lib
set_option maxRecDepth 10000
set_option linter.unusedSimpArgs false
set_option linter.unusedVariables false
theorem take_mid {α β : Type} (a : List α) (f : α → β) (l : List β) : (a.map f ++ l).take a.length = a.map f := by
 rw [List.take_append_of_le_length (by simp)]
 exact List.take_of_length_le (by simp)
/-- Names, each one and unlike those ahead of it. -/
noncomputable def goodNames : List ByteArray → List ByteArray → Bool
 | _, [] => true
 | done, s :: rest => (isName s && !decide (s ∈ done)) && goodNames (done ++ [s]) rest
theorem l3Names_loop (ks : List Fr) (Q : VX → Env → Prop) : ∀ (rest done : List ByteArray) (i : Int), i = done.length → (done.length : Int) + rest.length ≤ 1048576 → (strsU rest : Int) ≤ 1048576 →
  (goodNames done rest = true → Run G A (.exit 0) [(0, .v (.leaf (Kstrs false (done ++ rest)))), (5, .v (.leaf (.int .i64 (done.length + rest.length)))), (13, .v (.leaf (.bool false)))] ks Q) →
  (goodNames done rest = false → Run G A .ret [(4, .v (.leaf (.bool false)))] ks Q) →
  Run G A (.loop spec_l3Names.l0) [(0, .v (.leaf (Kstrs false (done ++ rest)))), (5, .v (.leaf (.int .i64 i)))] ks Q := by
 intro rest
 induction rest with
 | nil =>
  intro done i hi hl hu hq hr
  subst hi
  refine run_loop_at spec_l3Names.l0.eq_1 ?_
  simp (maxSteps := 1000000) (disch := omega) [ip, wr, ]
  simpa using hq rfl
 | cons s rest ih =>
  intro done i hi hl hu hq hr
  subst hi
  simp only [strsU, List.length_cons] at hl hu
  have ih := ih (done ++ [s]) (done.length + 1) (by simp) (by simp; omega) (by omega)
  have h1 := specIsName s (by omega)
  have h2 := l3In s done (by omega)
  have e : goodNames done (s :: rest) = ((isName s && !decide (s ∈ done)) && goodNames (done ++ [s]) rest) := rfl
  rw [e] at hq hr
  refine run_loop_at spec_l3Names.l0.eq_1 ?_
  cases hk : isName s with
  | false =>
   rw [hk] at h1
   have hr := hr (by rw [hk]; rfl)
   simp (maxSteps := 1000000) (disch := omega) [ip, wr, get_mid, h1]
   exact hr
  | true =>
   rw [hk] at h1 hq hr
   generalize decide (s ∈ done) = k at *
   cases k with
   | true =>
    have hr := hr rfl
    simp (maxSteps := 1000000) (disch := omega) [ip, wr, get_mid, take_mid, h1, h2]
    exact hr
   | false =>
    have ih := ih (fun h => run_env (hq h) (by simp; omega)) (fun h => hr h)
    simp (maxSteps := 1000000) (disch := omega) [ip, wr, get_mid, take_mid, h1, h2]
    refine run_env ih ?_
    simp
theorem l3Names (l : List ByteArray) (most : Int) (hl : (l.length : Int) ≤ 1048576) (hu : (strsU l : Int) ≤ 1048576) : A 94 [.leaf (Kstrs false l), .leaf (.int .i64 most)] = some ([.leaf (.bool (goodNames [] l && decide ((l.length : Int) ≤ most)))], [.gone, .gone]) := by
 refine run_spec_l3Names ?_
 by_cases h : (l.length : Int) ≤ most
 ·have h' : ¬ most < (l.length : Int) := by omega
  simp (maxSteps := 1000000) (disch := omega) [ip, wr, spec_l3Names.b, h, h']
  refine l3Names_loop _ _ l [] 0 rfl (by simp; omega) hu (fun g => ?_) (fun g => ?_)
  ·simp (maxSteps := 1000000) (disch := omega) [ip, wr, g]
  ·simp (maxSteps := 1000000) (disch := omega) [ip, wr, g]
 ·have h' : most < (l.length : Int) := by omega
  simp (maxSteps := 1000000) (disch := omega) [ip, wr, spec_l3Names.b, h, h']
def strIdx : List ByteArray → ByteArray → Int → Int
 | [], _, _ => -1
 | x :: l, s, k => if s = x then k else strIdx l s (k + 1)
theorem strIdx_ge : ∀ (l : List ByteArray) (s : ByteArray) (k : Int), s ∈ l → k ≤ strIdx l s k ∧ strIdx l s k < k + l.length
 | x :: l, s, k, h => by
  unfold strIdx
  by_cases e : s = x
  ·rw [if_pos e]; simp; omega
  ·rw [if_neg e]
   have h2 : s ∈ l := by simpa [e] using h
   have := strIdx_ge l s (k + 1) h2
   simp; omega
theorem strIdx_at : ∀ (done : List ByteArray) (s : ByteArray) (rest : List ByteArray) (k : Int), strIdx (done ++ s :: rest) s k = k + done.length ↔ s ∉ done
 | [], s, rest, k => by simp [strIdx]
 | x :: done, s, rest, k => by
  unfold strIdx
  simp only [List.cons_append]
  by_cases e : s = x
  ·rw [if_pos e]; simp [e]; omega
  ·rw [if_neg e]
   have := strIdx_at done s rest (k + 1)
   simp only [List.mem_cons, e, false_or]
   rw [← this]
   simp; omega
theorem sIndex_loop (s : ByteArray) (ks : List Fr) (Q : VX → Env → Prop) (l : List ByteArray) (hs : (l.length : Int) ≤ 1000000000) (j : Int) (hr : Run G A .ret [(4, .v (.leaf (.int .i64 j)))] ks Q)
  (hq : j = -1 → Run G A (.exit 0) [(0, .v (.leaf (Kstrs false l))), (1, .v (.leaf (.str s))), (7, .v (.leaf (.int .i64 l.length))), (8, .v (.leaf (.int .i64 l.length))), (9, .v (.leaf (.bool false)))] ks Q) : ∀ (rest done : List ByteArray) (i : Int), l = done ++ rest → i = done.length → j = strIdx rest s i →
  Run G A (.loop slices_Index_string_string.l0) [(0, .v (.leaf (Kstrs false l))), (1, .v (.leaf (.str s))), (7, .v (.leaf (.int .i64 l.length))), (8, .v (.leaf (.int .i64 i)))] ks Q := by
 intro rest
 induction rest with
 | nil =>
  intro done i hd hi hj
  subst hi hd
  refine run_loop_at slices_Index_string_string.l0.eq_1 ?_
  simp (maxSteps := 1000000) (disch := omega) [ip, wr, ]
  simpa using hq hj
 | cons c rest ih =>
  intro done i hd hi hj
  have ih := ih (done ++ [c]) (done.length + 1) (by simp [hd]) (by simp)
  subst hi hd
  simp only [List.length_append, List.length_cons] at hs
  refine run_loop_at slices_Index_string_string.l0.eq_1 ?_
  unfold strIdx at hj
  by_cases hc : s = c
  ·subst hc
   rw [if_pos rfl] at hj
   subst hj
   simp (maxSteps := 1000000) (disch := omega) [ip, wr, get_mid]
   exact hr
  ·rw [if_neg hc] at hj
   simp (maxSteps := 1000000) (disch := omega) [ip, wr, get_mid, hc]
   refine run_env (ih hj) ?_
   simp
theorem sIndexL (l : List ByteArray) (s : ByteArray) (hs : (l.length : Int) ≤ 1000000000) : A 86 [.leaf (Kstrs false l), .leaf (.str s)] = some ([.leaf (.int .i64 (strIdx l s 0))], [.gone, .gone]) := by
 refine run_slices_Index_string_string ?_
 simp (maxSteps := 1000000) (disch := omega) [ip, wr, slices_Index_string_string.b]
 refine sIndex_loop s _ _ l hs (strIdx l s 0) ?_ (fun h => ?_) l [] 0 rfl rfl rfl
 ·simp (maxSteps := 1000000) (disch := omega) [ip, wr, ]
 ·simp (maxSteps := 1000000) (disch := omega) [ip, wr, h]
theorem sIndex (l : List ByteArray) (s : ByteArray) (hs : (l.length : Int) ≤ 1048576) : A 86 [.leaf (Kstrs false l), .leaf (.str s)] = some ([.leaf (.int .i64 (strIdx l s 0))], [.gone, .gone]) := sIndexL l s (by omega)
theorem namesOk_loop (most : Int) (ks : List Fr) (Q : VX → Env → Prop) : ∀ (rest done : List ByteArray) (i : Int), i = done.length → (done.length : Int) + rest.length ≤ 1048576 → (strsU rest : Int) ≤ 1048576 →
  (goodNames done rest = true → Run G A (.exit 0) [(0, .v (.leaf (Kstrs false (done ++ rest)))), (1, .v (.leaf (.int .i64 most))), (7, .v (.leaf (Kstrs false (done ++ rest)))), (8, .v (.leaf (.int .i64 (done.length + rest.length)))), (9, .v (.leaf (.int .i64 (done.length + rest.length)))), (10, .v (.leaf (.bool false)))] ks Q) →
  (goodNames done rest = false → Run G A .ret [(4, .v (.leaf (.bool false)))] ks Q) →
  Run G A (.loop impl_namesOk.l0) [(0, .v (.leaf (Kstrs false (done ++ rest)))), (1, .v (.leaf (.int .i64 most))), (7, .v (.leaf (Kstrs false (done ++ rest)))), (8, .v (.leaf (.int .i64 (done.length + rest.length)))), (9, .v (.leaf (.int .i64 i)))] ks Q := by
 intro rest
 induction rest with
 | nil =>
  intro done i hi hl hu hq hr
  subst hi
  refine run_loop_at impl_namesOk.l0.eq_1 ?_
  simp (maxSteps := 1000000) (disch := omega) [ip, wr, ]
  simpa using hq rfl
 | cons s rest ih =>
  intro done i hi hl hu hq hr
  subst hi
  simp only [strsU, List.length_cons] at hl hu
  have ih := ih (done ++ [s]) (done.length + 1) (by simp) (by simp; omega) (by omega)
  have h1 := implIsName s (by omega)
  have h2 := sIndex (done ++ s :: rest) s (by simp; omega)
  have h3 := strIdx_at done s rest 0
  have e : goodNames done (s :: rest) = ((isName s && !decide (s ∈ done)) && goodNames (done ++ [s]) rest) := rfl
  rw [e] at hq hr
  refine run_loop_at impl_namesOk.l0.eq_1 ?_
  cases hk : isName s with
  | false =>
   rw [hk] at h1
   have hr := hr (by rw [hk]; rfl)
   simp (maxSteps := 1000000) (disch := omega) [ip, wr, get_mid, h1]
   exact hr
  | true =>
   rw [hk] at h1 hq hr
   generalize strIdx (done ++ s :: rest) s 0 = j at h2 h3
   simp only [Kstrs, List.map_append, List.map_cons] at h2
   by_cases hm : s ∈ done
   ·have hr := hr (by simp [hm])
    have hj : ¬ j = done.length := fun h => h3.mp (by omega) hm
    simp (maxSteps := 1000000) (disch := omega) [ip, wr, get_mid, h1, h2, hj]
    exact hr
   ·have hj : j = done.length := by have := h3.mpr hm; omega
    subst hj
    have ih := ih (fun h => run_env (hq (by simp [hm, h])) (by simp; omega)) (fun h => hr (by simp [h]))
    simp (maxSteps := 1000000) (disch := omega) [ip, wr, get_mid, take_mid, h1, h2]
    refine run_env ih ?_
    simp
    omega
theorem namesOk (l : List ByteArray) (most : Int) (hl : (l.length : Int) ≤ 1048576) (hu : (strsU l : Int) ≤ 1048576) : A 83 [.leaf (Kstrs false l), .leaf (.int .i64 most)] = some ([.leaf (.bool (goodNames [] l && decide ((l.length : Int) ≤ most)))], [.gone, .gone]) := by
 refine run_impl_namesOk ?_
 simp (maxSteps := 1000000) (disch := omega) [ip, wr, impl_namesOk.b]
 refine run_env (namesOk_loop most _ _ l [] 0 rfl (by simp; omega) hu (fun g => ?_) (fun g => ?_)) ?_
 ·simp (maxSteps := 1000000) (disch := omega) [ip, wr, g]
 ·simp (maxSteps := 1000000) (disch := omega) [ip, wr, g]
 ·simp
end Go.Proofs.YthkfnfppihgejaaGreatDoor.LN
