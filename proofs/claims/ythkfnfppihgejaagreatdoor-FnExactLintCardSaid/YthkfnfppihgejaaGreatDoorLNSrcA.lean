/- Sources: the program's and the reference's tell the same. -/
import Derived.Test.YthkfnfppihgejaaGreatDoorLNOnceA
namespace Go.Proofs.YthkfnfppihgejaaGreatDoor.LN
open Go Go.VS Go.Lib
set_option maxRecDepth 10000
set_option maxHeartbeats 8000000
set_option linter.unusedSimpArgs false
set_option linter.unusedVariables false
theorem implDefNames (l : List KDef) (hl : (l.length : Int) ≤ 1048576) : A 28 [.leaf (KDef.sl false l)] = some ([.leaf (Kstrs true (l.map KDef.name))], [.gone]) := by
 refine run_impl_namesOfDefs ?_
 simp (maxSteps := 1000000) (disch := omega) [ip, wr, impl_namesOfDefs.b]
 refine at_fold (fun e i (s : List ByteArray) => (e.put 8 (.v (.leaf (.int .i64 i)))).put 3 (.v (.leaf (Kstrs true s)))) impl_namesOfDefs.l0.eq_1 (fun s (d : KDef) => s ++ [d.name]) l [] (by simp) ?_ (fun i x hx hi ih => ?_)
 ·rw [app_map]
  simp (maxSteps := 1000000) (disch := omega) [ip, wr, ]
 ·rw [app_map] at ih ⊢
  have ht := take_len hx
  generalize l.take i = t at *
  simp (maxSteps := 1000000) (disch := omega) [ip, wr, hx, at_get hx]
  refine run_env ih ?_
  simp
theorem specDefNames (l : List KDef) (hl : (l.length : Int) ≤ 1048576) : A 20 [.leaf (KDef.sl false l)] = some ([.leaf (Kstrs true (l.map KDef.name))], [.gone]) := by
 refine run_spec_l11DefNames ?_
 simp (maxSteps := 1000000) (disch := omega) [ip, wr, spec_l11DefNames.b]
 refine at_fold (fun e i (s : List ByteArray) => (e.put 4 (.v (.leaf (.int .i64 i)))).put 3 (.v (.leaf (Kstrs true s)))) spec_l11DefNames.l0.eq_1 (fun s (d : KDef) => s ++ [d.name]) l [] (by simp) ?_ (fun i x hx hi ih => ?_)
 ·rw [app_map]
  simp (maxSteps := 1000000) (disch := omega) [ip, wr, ]
 ·rw [app_map] at ih ⊢
  have ht := take_len hx
  generalize l.take i = t at *
  simp (maxSteps := 1000000) (disch := omega) [ip, wr, hx, at_get hx]
  refine run_env ih ?_
  simp
theorem implTypeNames (l : List KType) (hl : (l.length : Int) ≤ 1048576) : A 80 [.leaf (KType.sl false l)] = some ([.leaf (Kstrs true (l.map KType.name))], [.gone]) := by
 refine run_impl_namesOfTypes ?_
 simp (maxSteps := 1000000) (disch := omega) [ip, wr, impl_namesOfTypes.b]
 refine at_fold (fun e i (s : List ByteArray) => (e.put 8 (.v (.leaf (.int .i64 i)))).put 3 (.v (.leaf (Kstrs true s)))) impl_namesOfTypes.l0.eq_1 (fun s (d : KType) => s ++ [d.name]) l [] (by simp) ?_ (fun i x hx hi ih => ?_)
 ·rw [app_map]
  simp (maxSteps := 1000000) (disch := omega) [ip, wr, ]
 ·rw [app_map] at ih ⊢
  have ht := take_len hx
  generalize l.take i = t at *
  simp (maxSteps := 1000000) (disch := omega) [ip, wr, hx, at_get hx]
  refine run_env ih ?_
  simp
theorem specTypeNames (l : List KType) (hl : (l.length : Int) ≤ 1048576) : A 49 [.leaf (KType.sl false l)] = some ([.leaf (Kstrs true (l.map KType.name))], [.gone]) := by
 refine run_spec_l11TypeNames ?_
 simp (maxSteps := 1000000) (disch := omega) [ip, wr, spec_l11TypeNames.b]
 refine at_fold (fun e i (s : List ByteArray) => (e.put 4 (.v (.leaf (.int .i64 i)))).put 3 (.v (.leaf (Kstrs true s)))) spec_l11TypeNames.l0.eq_1 (fun s (d : KType) => s ++ [d.name]) l [] (by simp) ?_ (fun i x hx hi ih => ?_)
 ·rw [app_map]
  simp (maxSteps := 1000000) (disch := omega) [ip, wr, ]
 ·rw [app_map] at ih ⊢
  have ht := take_len hx
  generalize l.take i = t at *
  simp (maxSteps := 1000000) (disch := omega) [ip, wr, hx, at_get hx]
  refine run_env ih ?_
  simp
/-- All of a list are in another one. -/
def inB (l all : List ByteArray) : Bool := l.all fun s => decide (s ∈ all)
theorem implAreIn (l all : List ByteArray) (hl : (l.length : Int) ≤ 1048576) (ha : (all.length : Int) ≤ 1048576) : A 81 [.leaf (Kstrs false l), .leaf (Kstrs false all)] = some ([.leaf (.bool (inB l all))], [.gone, .gone]) := by
 refine run_impl_areIn ?_
 simp (maxSteps := 1000000) (disch := omega) [ip, wr, impl_areIn.b]
 refine at_all 9 impl_areIn.l0.eq_1 (fun s => decide (s ∈ all)) l (by simp) (fun g => ?_) (fun i x hx hi hp ih => ?_) (fun i x hx hi hp g => ?_)
 ·simp (maxSteps := 1000000) (disch := omega) [ip, wr, inB, g]
 ·have h1 := sContains all x ha
  rw [hp] at h1
  simp (maxSteps := 1000000) (disch := omega) [ip, wr, hx, at_get hx, h1]
  refine run_env ih ?_
  simp
 ·have h1 := sContains all x ha
  rw [hp] at h1
  simp (maxSteps := 1000000) (disch := omega) [ip, wr, hx, at_get hx, h1, inB, g]
theorem strs_at' {l : List ByteArray} {i : Nat} {x : ByteArray} (h : l[i]? = some x) : x.size ≤ strsU l := by
 induction l generalizing i with
 | nil => simp at h
 | cons a l ih =>
  simp only [strsU]
  cases i with
  | zero => simp at h; subst h; omega
  | succ i => have := ih (by simpa using h); omega
theorem implAllNames' (l : List ByteArray) (hl : (l.length : Int) ≤ 1048576) (hu : (strsU l : Int) ≤ 1048576) : A 58 [.leaf (Kstrs false l)] = some ([.leaf (.bool (l.all isName))], [.gone]) := by
 refine run_impl_allNames ?_
 simp (maxSteps := 1000000) (disch := omega) [ip, wr, impl_allNames.b]
 refine at_all 7 impl_allNames.l0.eq_1 isName l (by simp) (fun g => ?_) (fun i x hx hi hp ih => ?_) (fun i x hx hi hp g => ?_)
 ·simp (maxSteps := 1000000) (disch := omega) [ip, wr, g]
 ·have h1 := implIsName x (by have := strs_at' hx; omega)
  rw [hp] at h1
  simp (maxSteps := 1000000) (disch := omega) [ip, wr, hx, at_get hx, h1]
  refine run_env ih ?_
  simp
 ·have h1 := implIsName x (by have := strs_at' hx; omega)
  rw [hp] at h1
  simp (maxSteps := 1000000) (disch := omega) [ip, wr, hx, at_get hx, h1, g]
theorem specAllNames (l : List ByteArray) (hl : (l.length : Int) ≤ 1048576) (hu : (strsU l : Int) ≤ 1048576) : A 48 [.leaf (Kstrs false l)] = some ([.leaf (.bool (l.all isName))], [.gone]) := by
 refine run_spec_l11All ?_
 simp (maxSteps := 1000000) (disch := omega) [ip, wr, spec_l11All.b]
 refine at_all 3 spec_l11All.l0.eq_1 isName l (by simp) (fun g => ?_) (fun i x hx hi hp ih => ?_) (fun i x hx hi hp g => ?_)
 ·simp (maxSteps := 1000000) (disch := omega) [ip, wr, g]
 ·have h1 := specIsName x (by have := strs_at' hx; omega)
  rw [hp] at h1
  simp (maxSteps := 1000000) (disch := omega) [ip, wr, hx, at_get hx, h1]
  refine run_env ih ?_
  simp
 ·have h1 := specIsName x (by have := strs_at' hx; omega)
  rw [hp] at h1
  simp (maxSteps := 1000000) (disch := omega) [ip, wr, hx, at_get hx, h1, g]
theorem defs_at {l : List KDef} {i : Nat} {x : KDef} (h : l[i]? = some x) : KDef.w x ≤ KDef.us l := by
 induction l generalizing i with
 | nil => simp at h
 | cons a l ih =>
  simp only [KDef.us]
  cases i with
  | zero => simp at h; subst h; omega
  | succ i => have := ih (by simpa using h); omega
theorem defNames_us : ∀ l : List KDef, strsU (l.map KDef.name) ≤ KDef.us l
 | [] => Nat.le_refl _
 | x :: l => by have := defNames_us l; simp only [List.map_cons, strsU, KDef.us, KDef.w]; omega
theorem implProgsOk (l : List KDef) (hl : (l.length : Int) ≤ 1048576) (hu : (KDef.us l : Int) ≤ 1048576) : A 60 [.leaf (KDef.sl false l)] = some ([.leaf (.bool (l.all fun d => progB d.prog))], [.gone]) := by
 refine run_impl_progsOk ?_
 simp (maxSteps := 1000000) (disch := omega) [ip, wr, impl_progsOk.b]
 refine at_all 7 impl_progsOk.l0.eq_1 (fun d : KDef => progB d.prog) l (by simp) (fun g => ?_) (fun i x hx hi hp ih => ?_) (fun i x hx hi hp g => ?_)
 ·simp (maxSteps := 1000000) (disch := omega) [ip, wr, g]
 ·have h1 := implProgOk x.prog (by have := defs_at hx; simp only [KDef.w] at this; omega)
  rw [hp] at h1
  simp (maxSteps := 1000000) (disch := omega) [ip, wr, hx, at_get hx, h1]
  refine run_env ih ?_
  simp
 ·have h1 := implProgOk x.prog (by have := defs_at hx; simp only [KDef.w] at this; omega)
  rw [hp] at h1
  simp (maxSteps := 1000000) (disch := omega) [ip, wr, hx, at_get hx, h1, g]
end Go.Proofs.YthkfnfppihgejaaGreatDoor.LN
