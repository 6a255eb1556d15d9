/- Rows of names, each once; the names that a program sets: the program's and the reference's tell the same. -/
import Derived.Test.YthkfnfppihgejaaGreatDoorLNProgA
namespace Go.Proofs.YthkfnfppihgejaaGreatDoor.LN
open Go Go.VS Go.Lib
set_option maxRecDepth 10000
set_option maxHeartbeats 8000000
set_option linter.unusedSimpArgs false
set_option linter.unusedVariables false
/-- A name put behind others, once. -/
def put1 (l : List ByteArray) (s : ByteArray) : List ByteArray := if s ∈ l then l else l ++ [s]
theorem put1_length (l : List ByteArray) (s : ByteArray) : (put1 l s).length ≤ l.length + 1 := by
 unfold put1
 split <;> simp
theorem put1s_length : ∀ (m l : List ByteArray), (m.foldl put1 l).length ≤ l.length + m.length
 | [], l => by simp
 | s :: m, l => by
  have h1 := put1s_length m (put1 l s)
  have h2 := put1_length l s
  simp only [List.foldl_cons, List.length_cons]
  omega
theorem strIdx_mem (l : List ByteArray) (s : ByteArray) : (0 ≤ strIdx l s 0) ↔ s ∈ l := by
 constructor
 ·intro h
  refine Classical.byContradiction fun hn => ?_
  have : ∀ (l : List ByteArray) (k : Int), s ∉ l → strIdx l s k = -1 := by
   intro l
   induction l with
   | nil => intro k _; rfl
   | cons x l ih =>
    intro k hm
    simp only [List.mem_cons, not_or] at hm
    unfold strIdx
    rw [if_neg hm.1, ih _ hm.2]
  rw [this l 0 hn] at h
  omega
 ·intro h
  exact (strIdx_ge l s 0 h).1
theorem sContainsL (l : List ByteArray) (s : ByteArray) (hl : (l.length : Int) ≤ 1000000000) : A 63 [.leaf (Kstrs false l), .leaf (.str s)] = some ([.leaf (.bool (decide (s ∈ l)))], [.gone, .gone]) := by
 have h1 := sIndexL l s hl
 have h2 := strIdx_mem l s
 refine run_slices_Contains_string_string ?_
 generalize strIdx l s 0 = j at *
 by_cases hm : s ∈ l
 ·have hj := h2.2 hm
  simp (maxSteps := 1000000) (disch := omega) [ip, wr, slices_Contains_string_string.b, h1, hm, hj]
 ·have h3 : ¬ 0 ≤ j := fun h => hm (h2.1 h)
  have hj : j < 0 := by omega
  simp (maxSteps := 1000000) (disch := omega) [ip, wr, slices_Contains_string_string.b, h1, hm, hj]
theorem sContains (l : List ByteArray) (s : ByteArray) (hl : (l.length : Int) ≤ 1048576) : A 63 [.leaf (Kstrs false l), .leaf (.str s)] = some ([.leaf (.bool (decide (s ∈ l)))], [.gone, .gone]) := sContainsL l s (by omega)
theorem implAddOnceL (l m : List ByteArray) (hl : (l.length : Int) + m.length ≤ 1000000000) : A 31 [.leaf (Kstrs true l), .leaf (Kstrs false m)] = some ([.leaf (Kstrs true (m.foldl put1 l))], [.gone, .gone]) := by
 refine run_impl_addOnce ?_
 simp (maxSteps := 1000000) (disch := omega) [ip, wr, impl_addOnce.b]
 refine at_fold (fun e i (s : List ByteArray) => (e.put 9 (.v (.leaf (.int .i64 i)))).put 0 (.v (.leaf (Kstrs true s)))) impl_addOnce.l0.eq_1 put1 m l (by simp) ?_ (fun i x hx hi ih => ?_)
 ·simp (maxSteps := 1000000) (disch := omega) [ip, wr, ]
 ·have hS := put1s_length (m.take i) l
  rw [List.length_take] at hS
  generalize (m.take i).foldl put1 l = S at *
  have h1 := sContainsL S x (by omega)
  unfold put1 at ih
  by_cases hm : x ∈ S
  ·simp (maxSteps := 1000000) (disch := omega) [ip, wr, hx, at_get hx, h1, hm]
   refine run_env ih ?_
   simp [hm]
  ·simp (maxSteps := 1000000) (disch := omega) [ip, wr, hx, at_get hx, h1, hm]
   refine run_env ih ?_
   simp [hm]
theorem implAddOnce (l m : List ByteArray) (hl : (l.length : Int) + m.length ≤ 1048576) : A 31 [.leaf (Kstrs true l), .leaf (Kstrs false m)] = some ([.leaf (Kstrs true (m.foldl put1 l))], [.gone, .gone]) := implAddOnceL l m (by omega)
def setNode (l : List ByteArray) (x : KNode) : List ByteArray := if x.kind = 10 then put1 l x.s else l
theorem sets_length : ∀ (m : List KNode) (l : List ByteArray), (m.foldl setNode l).length ≤ l.length + m.length
 | [], l => by simp
 | s :: m, l => by
  have h1 := sets_length m (setNode l s)
  have h2 := put1_length l s.s
  have h3 : (setNode l s).length ≤ l.length + 1 := by unfold setNode; split <;> omega
  simp only [List.foldl_cons, List.length_cons]
  omega
/-- The names that a program sets. -/
noncomputable def setsB (p : KProg) : List ByteArray := if progB p = true then p.nodes.foldl setNode [] else []
theorem setsB_length (p : KProg) : (setsB p).length ≤ p.nodes.length := by
 unfold setsB
 split
 ·have := sets_length p.nodes []
  simpa using this
 ·simp
theorem implSets (p : KProg) (hw : (KProg.w p : Int) ≤ 1048576) : A 32 [.agg (KProg.row false p)] = some ([.leaf (Kstrs true (setsB p))], [.gone]) := by
 have hP := implProgOk p hw
 unfold setsB
 obtain ⟨nodes, root⟩ := p
 simp only [KProg.w, Int.natCast_add] at hw
 refine run_impl_Sets ?_
 cases hk : progB ⟨nodes, root⟩ with
 | false =>
  rw [hk] at hP
  simp (maxSteps := 1000000) (disch := omega) [ip, wr, impl_Sets.b, hP]
 | true =>
  rw [hk] at hP
  simp (maxSteps := 1000000) (disch := omega) [ip, wr, impl_Sets.b, hP]
  refine at_fold (fun e i (s : List ByteArray) => (e.put 12 (.v (.leaf (.int .i64 i)))).put 3 (.v (.leaf (Kstrs true s)))) impl_Sets.l0.eq_1 setNode nodes [] (by simp) ?_ (fun i x hx hi ih => ?_)
  ·simp (maxSteps := 1000000) (disch := omega) [ip, wr, ]
  ·have hS := sets_length (nodes.take i) []
   rw [List.length_take] at hS
   simp only [List.length_nil] at hS
   generalize (nodes.take i).foldl setNode [] = S at *
   have h1 := implAddOnce S [x.s] (by simp; omega)
   simp only [List.foldl_cons, List.foldl_nil, Kstrs, List.map_cons, List.map_nil] at h1
   unfold setNode at ih
   by_cases hm : x.kind = 10
   ·simp (maxSteps := 1000000) (disch := omega) [ip, wr, hx, at_get hx, h1, hm]
    refine run_env ih ?_
    simp [hm]
   ·simp (maxSteps := 1000000) (disch := omega) [ip, wr, hx, at_get hx, hm]
    refine run_env ih ?_
    simp [hm]
theorem specSets (p : KProg) (hw : (KProg.w p : Int) ≤ 1048576) : A 24 [.agg (KProg.row false p)] = some ([.leaf (Kstrs true (setsB p))], [.gone]) := by
 have hP := specProgOk p hw
 unfold setsB
 obtain ⟨nodes, root⟩ := p
 simp only [KProg.w, Int.natCast_add] at hw
 refine run_spec_Sets ?_
 cases hk : progB ⟨nodes, root⟩ with
 | false =>
  rw [hk] at hP
  simp (maxSteps := 1000000) (disch := omega) [ip, wr, spec_Sets.b]
  refine run_loop_at spec_Sets.l0.eq_1 ?_
  by_cases h0 : nodes = []
  ·simp (maxSteps := 1000000) (disch := omega) [ip, wr, hP, h0]
  ·have h1 : 0 < nodes.length := List.length_pos_iff.2 h0
   simp (maxSteps := 1000000) (disch := omega) [ip, wr, hP, h1]
 | true =>
  rw [hk] at hP
  simp (maxSteps := 1000000) (disch := omega) [ip, wr, spec_Sets.b, hP]
  refine at_fold (fun e i (s : List ByteArray) => (e.put 4 (.v (.leaf (.int .i64 i)))).put 3 (.v (.leaf (Kstrs true s)))) spec_Sets.l0.eq_1 setNode nodes [] (by simp) ?_ (fun i x hx hi ih => ?_)
  ·simp (maxSteps := 1000000) (disch := omega) [ip, wr, hP]
  ·have hS := sets_length (nodes.take i) []
   rw [List.length_take] at hS
   simp only [List.length_nil] at hS
   generalize (nodes.take i).foldl setNode [] = S at *
   have h1 := l3In x.s S (by omega)
   unfold setNode put1 at ih
   by_cases hm : x.kind = 10
   ·by_cases hq : x.s ∈ S
    ·simp (maxSteps := 1000000) (disch := omega) [ip, wr, hP, hx, at_get hx, h1, hm, hq]
     refine run_env ih ?_
     simp [hm, hq]
    ·simp (maxSteps := 1000000) (disch := omega) [ip, wr, hP, hx, at_get hx, h1, hm, hq]
     refine run_env ih ?_
     simp [hm, hq]
   ·simp (maxSteps := 1000000) (disch := omega) [ip, wr, hP, hx, at_get hx, hm]
    refine run_env ih ?_
    simp [hm]
end Go.Proofs.YthkfnfppihgejaaGreatDoor.LN
