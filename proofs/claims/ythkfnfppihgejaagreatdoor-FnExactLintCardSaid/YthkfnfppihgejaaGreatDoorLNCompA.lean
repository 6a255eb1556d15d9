/- What changed between two sources: the program's and the reference's tell the same. -/
import Derived.Test.YthkfnfppihgejaaGreatDoorLNSrcB
import Derived.Test.YthkfnfppihgejaaGreatDoorLNConcatA
namespace Go.Proofs.YthkfnfppihgejaaGreatDoor.LN
open Go Go.VS Go.Lib
set_option maxRecDepth 10000
set_option maxHeartbeats 8000000
set_option linter.unusedSimpArgs false
set_option linter.unusedVariables false
def lessStep (o s : List ByteArray) (x : ByteArray) : List ByteArray := if x ∈ o then s else s ++ [x]
/-- Those that are none of others. -/
def lessB (l o : List ByteArray) : List ByteArray := l.foldl (lessStep o) []
theorem less_length (o : List ByteArray) : ∀ (l s : List ByteArray), (l.foldl (lessStep o) s).length ≤ s.length + l.length
 | [], s => by simp
 | x :: l, s => by
  have := less_length o l (lessStep o s x)
  have h : (lessStep o s x).length ≤ s.length + 1 := by unfold lessStep; split <;> simp
  simp only [List.foldl_cons, List.length_cons]
  omega
theorem strsU_append : ∀ (l m : List ByteArray), strsU (l ++ m) = strsU l + strsU m
 | [], m => by simp [strsU]
 | x :: l, m => by simp only [List.cons_append, strsU, strsU_append l m]; omega
theorem less_us (o : List ByteArray) : ∀ (l s : List ByteArray), strsU (l.foldl (lessStep o) s) ≤ strsU s + strsU l
 | [], s => by simp
 | x :: l, s => by
  have := less_us o l (lessStep o s x)
  have h : strsU (lessStep o s x) ≤ strsU s + x.size := by
   unfold lessStep
   split
   ·omega
   ·rw [strsU_append]; simp [strsU]
  simp only [List.foldl_cons, strsU]
  omega
theorem implLess (l o : List ByteArray) (hl : (l.length : Int) ≤ 1048576) (ho : (o.length : Int) ≤ 1048576) : A 33 [.leaf (Kstrs false l), .leaf (Kstrs false o)] = some ([.leaf (Kstrs true (lessB l o))], [.gone, .gone]) := by
 refine run_impl_less ?_
 simp (maxSteps := 1000000) (disch := omega) [ip, wr, impl_less.b]
 refine at_fold (fun e i (s : List ByteArray) => (e.put 10 (.v (.leaf (.int .i64 i)))).put 5 (.v (.leaf (Kstrs true s)))) impl_less.l0.eq_1 (lessStep o) l [] (by simp) ?_ (fun i x hx hi ih => ?_)
 ·simp (maxSteps := 1000000) (disch := omega) [ip, wr, lessB]
 ·have hS := less_length o (l.take i) []
  rw [List.length_take] at hS
  simp only [List.length_nil] at hS
  generalize (l.take i).foldl (lessStep o) [] = S at *
  have h1 := sContains o x ho
  unfold lessStep at ih
  by_cases hm : x ∈ o
  ·simp (maxSteps := 1000000) (disch := omega) [ip, wr, hx, at_get hx, h1, hm]
   refine run_env ih ?_
   simp [hm]
  ·simp (maxSteps := 1000000) (disch := omega) [ip, wr, hx, at_get hx, h1, hm]
   refine run_env ih ?_
   simp [hm]
theorem once_nodup : ∀ (l s : List ByteArray), (l.foldlM onceF s).isSome = true → (∀ x ∈ l, ¬ x ∈ s) ∧ l.Nodup
 | [], s, _ => ⟨fun x h => (by cases h), List.nodup_nil⟩
 | x :: l, s, h => by
  rw [List.foldlM_cons] at h
  have e : onceF s x = if x ∈ s then none else some (s ++ [x]) := rfl
  rw [e] at h
  by_cases hx : x ∈ s
  ·simp [hx] at h
  ·simp only [if_neg hx] at h
   obtain ⟨h1, h2⟩ := once_nodup l (s ++ [x]) h
   refine ⟨fun y hy => ?_, List.nodup_cons.2 ⟨fun hm => h1 x hm (by simp), h2⟩⟩
   rcases List.mem_cons.1 hy with rfl | hy
   ·exact hx
   ·intro hs
    exact h1 y hy (by simp [hs])
def resP (t x : KType) : Bool := decide (x.name = t.name) && !decide (x.size = t.size)
def resStep (t : KType) (s : List ByteArray) (x : KType) : List ByteArray := if resP t x = true then s ++ [t.name] else s
def resizedB (a b : List KType) : List ByteArray := a.foldl (fun s t => b.foldl (resStep t) s) []
/-- Has another source a type of that name, of another size? -/
def otherB (b : List KType) (t : KType) : Bool := b.any (resP t)
def otherStep (b : List KType) (s : List ByteArray) (t : KType) : List ByteArray := if otherB b t = true then s ++ [t.name] else s
theorem res_none (t : KType) : ∀ (b : List KType) (s : List ByteArray), (∀ x ∈ b, ¬ x.name = t.name) → b.foldl (resStep t) s = s
 | [], s, _ => rfl
 | x :: b, s, h => by
  have hx : resP t x = false := by simp [resP, h x (by simp)]
  rw [List.foldl_cons]
  unfold resStep at *
  rw [if_neg (by simp [hx])]
  exact res_none t b s fun y hy => h y (by simp [hy])
theorem res_once (t : KType) : ∀ (b : List KType) (s : List ByteArray), (b.map KType.name).Nodup → b.foldl (resStep t) s = otherStep b s t
 | [], s, _ => rfl
 | x :: b, s, h => by
  simp only [List.map_cons, List.nodup_cons] at h
  rw [List.foldl_cons]
  by_cases hx : x.name = t.name
  ·have hn : ∀ y ∈ b, ¬ y.name = t.name := fun y hy e => h.1 (List.mem_map.2 ⟨y, hy, by rw [e, hx]⟩)
   rw [res_none t b _ hn]
   have hb : b.any (resP t) = false := by
    rw [List.any_eq_false]
    intro y hy
    simp [resP, hn y hy]
   simp only [resStep, otherStep, otherB, List.any_cons, hb, Bool.or_false]
  ·have hp : resP t x = false := by simp [resP, hx]
   have e : resStep t s x = s := by simp [resStep, hp]
   have eo : otherB (x :: b) t = otherB b t := by simp only [otherB, List.any_cons, hp, Bool.false_or]
   rw [e, res_once t b s h.2]
   unfold otherStep
   rw [eo]
theorem resized_eq (a b : List KType) (h : (b.map KType.name).Nodup) : resizedB a b = a.foldl (otherStep b) [] := by
 unfold resizedB
 congr 1
 funext s t
 exact res_once t b s h
theorem other_length (b : List KType) : ∀ (a : List KType) (s : List ByteArray), (a.foldl (otherStep b) s).length ≤ s.length + a.length
 | [], s => by simp
 | t :: a, s => by
  have h1 := other_length b a (otherStep b s t)
  have h2 : (otherStep b s t).length ≤ s.length + 1 := by unfold otherStep; split <;> simp
  simp only [List.foldl_cons, List.length_cons]
  omega
theorem other_us (b : List KType) : ∀ (a : List KType) (s : List ByteArray), strsU (a.foldl (otherStep b) s) ≤ strsU s + KType.us a
 | [], s => by simp [KType.us]
 | t :: a, s => by
  have h1 := other_us b a (otherStep b s t)
  have h2 : strsU (otherStep b s t) ≤ strsU s + t.name.size := by
   unfold otherStep
   split
   ·rw [strsU_append]; simp [strsU]
   ·omega
  simp only [List.foldl_cons, KType.us, KType.w]
  omega
/-- The size of the first type of a name; -1 where there is none. -/
def sizeIn (n : ByteArray) : List KType → Int
 | [] => -1
 | x :: l => if x.name = n then x.size else sizeIn n l
theorem sizeIn_none (n : ByteArray) : ∀ l : List KType, (∀ x ∈ l, ¬ x.name = n) → sizeIn n l = -1
 | [], _ => rfl
 | x :: l, h => by unfold sizeIn; rw [if_neg (h x (by simp)), sizeIn_none n l fun y hy => h y (by simp [hy])]
theorem sizeIn_at (n : ByteArray) : ∀ (l : List KType) (i : Nat) (x : KType) (k : Int), 0 ≤ k → l[i]? = some x → findB (fun y : KType => decide (y.name = n)) l k = k + i → sizeIn n l = x.size
 | [], i, x, k, _, h, _ => by simp at h
 | y :: l, i, x, k, hk, h, hf => by
  unfold findB at hf
  unfold sizeIn
  by_cases hy : y.name = n
  ·rw [if_pos (by simpa using hy)] at hf
   have : i = 0 := by omega
   subst this
   simp at h
   subst h
   rw [if_pos hy]
  ·rw [if_neg (by simpa using hy)] at hf
   rw [if_neg hy]
   cases i with
   | zero =>
    rcases findB_cases (fun y : KType => decide (y.name = n)) l (k + 1) (by omega) with ⟨h1, _⟩ | ⟨j, z, _, _, h3⟩
    ·omega
    ·omega
   | succ i => exact sizeIn_at n l i x (k + 1) (by omega) (by simpa using h) (by rw [hf]; omega)
theorem sizeIn_other {t : KType} : ∀ {b : List KType}, (b.map KType.name).Nodup → (∀ x ∈ b, 0 ≤ x.size) → otherB b t = (decide (0 ≤ sizeIn t.name b) && !decide (sizeIn t.name b = t.size))
 | [], _, _ => by simp [otherB, sizeIn]
 | x :: b, h, hz => by
  simp only [List.map_cons, List.nodup_cons] at h
  unfold sizeIn
  by_cases hx : x.name = t.name
  ·have hn : ∀ y ∈ b, ¬ y.name = t.name := fun y hy e => h.1 (List.mem_map.2 ⟨y, hy, by rw [e, hx]⟩)
   have hb : b.any (resP t) = false := by
    rw [List.any_eq_false]
    intro y hy
    simp [resP, hn y hy]
   have h0 := hz x (by simp)
   rw [if_pos hx]
   simp only [otherB, List.any_cons, hb, Bool.or_false, resP, hx, decide_true, Bool.true_and, h0]
  ·have hp : resP t x = false := by simp [resP, hx]
   rw [if_neg hx]
   have := sizeIn_other (t := t) h.2 fun y hy => hz y (by simp [hy])
   rw [← this]
   simp only [otherB, List.any_cons, hp, Bool.false_or]
/-- What is new, gone, and of another size in a source. -/
noncomputable def compB (a b : KSrc) : List ByteArray := if (srcB a && srcB b) = true then (lessB b.exports a.exports).map (fun x => (⟨#[43]⟩ : ByteArray) ++ x) ++ ((lessB a.exports b.exports).map (fun x => (⟨#[45]⟩ : ByteArray) ++ x) ++ (a.types.foldl (otherStep b.types) []).map (fun x => (⟨#[126]⟩ : ByteArray) ++ x)) else []
theorem compB_length (a b : KSrc) : (compB a b).length ≤ b.exports.length + a.exports.length + a.types.length := by
 unfold compB
 split
 ·have h1 := less_length a.exports b.exports []
  have h2 := less_length b.exports a.exports []
  have h3 := other_length b.types a.types []
  simp only [List.length_nil, Nat.zero_add] at h1 h2 h3
  simp only [List.length_append, List.length_map, lessB]
  omega
 ·simp
/-- What is known of the types of a right source. -/
structure TypesOk (s : KSrc) : Prop where
 few : s.types.length ≤ 8
 unlike : (s.types.map KType.name).Nodup
 pos : ∀ x ∈ s.types, 0 ≤ x.size
theorem types_of {s : KSrc} (h : srcB s = true) : TypesOk s := by
 unfold srcB at h
 simp only [Bool.and_eq_true] at h
 obtain ⟨_, h1, h2, _, _, _, _, _, _, h3, _⟩ := h
 refine ⟨?_, ?_, ?_⟩
 ·unfold fewB at h1
  simp only [Bool.and_eq_true, decide_eq_true_eq] at h1
  omega
 ·unfold unlikeB onceB at h2
  simp only [Bool.and_eq_true] at h2
  exact (once_nodup _ _ h2.2.2.1).2
 ·intro x hx
  unfold sizesB at h3
  have := List.all_eq_true.1 h3 x hx
  simp only [within, decide_eq_true_eq] at this
  exact this.1
end Go.Proofs.YthkfnfppihgejaaGreatDoor.LN
