/- slices.Concat of texts. -/
import Derived.Test.YthkfnfppihgejaaGreatDoorLNOnceA
namespace Go.Proofs.YthkfnfppihgejaaGreatDoor.LN
open Go Go.VS Go.Lib
set_option maxRecDepth 10000
set_option maxHeartbeats 8000000
set_option linter.unusedSimpArgs false
set_option linter.unusedVariables false
theorem sum_fold : ∀ (ls : List (List ByteArray)) (s : Nat), ls.foldl (fun s l => s + l.length) s = s + (ls.map List.length).sum
 | [], s => by simp
 | l :: ls, s => by rw [List.foldl_cons, sum_fold ls]; simp only [List.map_cons, List.sum_cons]; omega
theorem flat_fold : ∀ (ls : List (List ByteArray)) (s : List ByteArray), ls.foldl (fun s l => s ++ l) s = s ++ ls.flatten
 | [], s => by simp
 | l :: ls, s => by rw [List.foldl_cons, flat_fold ls]; simp
theorem take_lens : ∀ (ls : List (List ByteArray)) (j : Nat) (l : List ByteArray), ls[j]? = some l → ((ls.take j).map List.length).sum + l.length ≤ (ls.map List.length).sum
 | [], j, l, h => by simp at h
 | b :: ls, 0, l, h => by simp at h; subst h; simp
 | b :: ls, j + 1, l, h => by
  have := take_lens ls j l (by simpa using h)
  simp only [List.take_succ_cons, List.map_cons, List.sum_cons]
  omega
theorem sGrow (n : Nat) (hn : (n : Int) ≤ 1000000000) : A 112 [.leaf (.sl true 1 []), .leaf (.int .i64 n)] = some ([.leaf (.sl true 1 [])], [.gone, .gone]) := by
 refine P_slices_Grow_string_string ?_
 simp only [prim_slices_Grow_string_string, runGrowS]
 rw [if_pos ⟨by omega, hn⟩]
theorem sConcat (ls : List (List ByteArray)) (hl : (ls.length : Int) ≤ 1000) (hs : ((ls.map List.length).sum : Int) ≤ 1000000000) : A 100 [.leaf (.sl false 1 (ls.map fun l => [Kstrs false l]))] = some ([.leaf (Kstrs true ls.flatten)], [.gone]) := by
 refine run_slices_Concat_string_string ?_
 simp (maxSteps := 1000000) (disch := omega) [ip, wr, slices_Concat_string_string.b]
 refine at_fold (fun e i (s : Nat) => (e.put 11 (.v (.leaf (.int .i64 i)))).put 3 (.v (.leaf (.int .i64 s)))) slices_Concat_string_string.l0.eq_1 (fun s l => s + l.length) ls 0 (by simp) ?_ (fun i x hx hi ih => ?_)
 ·rw [sum_fold, Nat.zero_add]
  have hG := sGrow _ hs
  generalize hnn : (ls.map List.length).sum = n at hs hG ⊢
  simp (maxSteps := 1000000) (disch := omega) [ip, wr, hG]
  refine at_fold (fun e i (s : List ByteArray) => (e.put 27 (.v (.leaf (.int .i64 i)))).put 6 (.v (.leaf (Kstrs true s)))) slices_Concat_string_string.l1.eq_1 (fun s l => s ++ l) ls [] (by simp) ?_ (fun i x hx hi ih => ?_)
  ·rw [flat_fold, List.nil_append]
   generalize ls.flatten = t
   simp (maxSteps := 1000000) (disch := omega) [ip, wr, ]
  ·rw [flat_fold, List.nil_append] at ih ⊢
   have ht := take_lens ls i x hx
   have hfl : (ls.take i).flatten.length = ((ls.take i).map List.length).sum := List.length_flatten
   have hb : ((ls.take i).flatten.length : Int) + x.length ≤ 1000000000 := by omega
   generalize (ls.take i).flatten = t at *
   simp (maxSteps := 1000000) (disch := omega) [ip, wr, hx, at_get hx]
   refine run_env ih ?_
   simp
 ·have ht := take_lens ls i x hx
  rw [sum_fold, Nat.zero_add] at ih ⊢
  generalize ((ls.take i).map List.length).sum = s at *
  have h0 : ¬ ((s : Int) + x.length < 0) := by omega
  simp (maxSteps := 1000000) (disch := omega) [ip, wr, hx, at_get hx, h0]
  refine run_env ih ?_
  simp
end Go.Proofs.YthkfnfppihgejaaGreatDoor.LN
