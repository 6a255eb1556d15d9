/- What changed between two sources: the reference's side. -/
import Derived.Test.YtjjfodoafefohaaGreatDoorCMCompA
namespace Go.Proofs.YtjjfodoafefohaaGreatDoor.CM
open Go Go.VS Go.Lib
set_option maxRecDepth 10000
set_option maxHeartbeats 8000000
set_option linter.unusedSimpArgs false
set_option linter.unusedVariables false
theorem l18Size (s : KSrc) (n : ByteArray) (hl : (s.types.length : Int) ≤ 1048576) : A 92 [.agg (KSrc.row false s), .leaf (.str n)] = some ([.leaf (.int .i64 (sizeIn n s.types))], [.gone, .gone]) := by
  refine run_spec_l18Size ?_
  simp (maxSteps := 1000000) (disch := omega) [if_pos, if_neg, wrap_i64, wrap_u8, spec_l18Size.b]
  refine at_find 5 spec_l18Size.l0.eq_1 (fun y : KType => decide (y.name = n)) s.types (by simp) (fun g ha => ?_) (fun i x hx hi hp ih => ?_) (fun i x hx hi hp g => ?_)
  · have e := sizeIn_none n s.types (fun x hx => by simpa using List.all_eq_true.1 ha x hx)
    rw [e]
    simp (maxSteps := 1000000) (disch := omega) [if_pos, if_neg, wrap_i64, wrap_u8, ]
  · have hp : ¬ x.name = n := by simpa using hp
    simp (maxSteps := 1000000) (disch := omega) [if_pos, if_neg, wrap_i64, wrap_u8, hx, at_get hx, hp]
    refine run_env ih ?_
    simp
  · have e := sizeIn_at n s.types i x 0 (Int.le_refl _) hx (by rw [g]; omega)
    have hp : x.name = n := by simpa using hp
    rw [e]
    simp (maxSteps := 1000000) (disch := omega) [if_pos, if_neg, wrap_i64, wrap_u8, hx, at_get hx, hp]
def newStep (p : ByteArray) (o s : List ByteArray) (x : ByteArray) : List ByteArray := if x ∈ o then s else s ++ [p ++ x]
theorem new_fold (p : ByteArray) (o : List ByteArray) : ∀ (l s u : List ByteArray), l.foldl (newStep p o) (s ++ u.map (fun x => p ++ x)) = s ++ (l.foldl (lessStep o) u).map (fun x => p ++ x)
  | [], s, u => rfl
  | x :: l, s, u => by
    have e1 : newStep p o (s ++ u.map (fun x => p ++ x)) x = if x ∈ o then s ++ u.map (fun x => p ++ x) else s ++ u.map (fun x => p ++ x) ++ [p ++ x] := rfl
    have e2 : lessStep o u x = if x ∈ o then u else u ++ [x] := rfl
    rw [List.foldl_cons, List.foldl_cons, e1, e2]
    split
    · exact new_fold p o l s u
    · have := new_fold p o l s (u ++ [x])
      rw [List.map_append, ← List.append_assoc] at this
      exact this
theorem new_all (p : ByteArray) (o l s : List ByteArray) : l.foldl (newStep p o) s = s ++ (lessB l o).map (fun x => p ++ x) := by
  have := new_fold p o l s []
  simpa [lessB] using this
theorem new_length (p : ByteArray) (o : List ByteArray) : ∀ (l s : List ByteArray), (l.foldl (newStep p o) s).length ≤ s.length + l.length
  | [], s => by simp
  | x :: l, s => by
    have h1 := new_length p o l (newStep p o s x)
    have h2 : (newStep p o s x).length ≤ s.length + 1 := by unfold newStep; split <;> simp
    simp only [List.foldl_cons, List.length_cons]
    omega
def tStep (b : List KType) (s : List ByteArray) (t : KType) : List ByteArray := if otherB b t = true then s ++ [(⟨#[126]⟩ : ByteArray) ++ t.name] else s
theorem t_fold (b : List KType) : ∀ (l : List KType) (s u : List ByteArray), l.foldl (tStep b) (s ++ u.map (fun x => (⟨#[126]⟩ : ByteArray) ++ x)) = s ++ (l.foldl (otherStep b) u).map (fun x => (⟨#[126]⟩ : ByteArray) ++ x)
  | [], s, u => rfl
  | x :: l, s, u => by
    have e1 : tStep b (s ++ u.map (fun x => (⟨#[126]⟩ : ByteArray) ++ x)) x = if otherB b x = true then s ++ u.map (fun x => (⟨#[126]⟩ : ByteArray) ++ x) ++ [(⟨#[126]⟩ : ByteArray) ++ x.name] else s ++ u.map (fun x => (⟨#[126]⟩ : ByteArray) ++ x) := rfl
    have e2 : otherStep b u x = if otherB b x = true then u ++ [x.name] else u := rfl
    rw [List.foldl_cons, List.foldl_cons, e1, e2]
    split
    · have := t_fold b l s (u ++ [x.name])
      rw [List.map_append, ← List.append_assoc] at this
      exact this
    · exact t_fold b l s u
theorem t_all (b : List KType) (l : List KType) (s : List ByteArray) : l.foldl (tStep b) s = s ++ (l.foldl (otherStep b) []).map (fun x => (⟨#[126]⟩ : ByteArray) ++ x) := by
  have := t_fold b l s []
  simpa using this
theorem t_length (b : List KType) : ∀ (l : List KType) (s : List ByteArray), (l.foldl (tStep b) s).length ≤ s.length + l.length
  | [], s => by simp
  | x :: l, s => by
    have h1 := t_length b l (tStep b s x)
    have h2 : (tStep b s x).length ≤ s.length + 1 := by unfold tStep; split <;> simp
    simp only [List.foldl_cons, List.length_cons]
    omega
theorem specCompare (a b : KSrc) (ha : (KSrc.w a : Int) ≤ 1048576) (hb : (KSrc.w b : Int) ≤ 1048576) : A 31 [.agg (KSrc.row false a), .agg (KSrc.row false b)] = some ([.leaf (Kstrs true (compB a b))], [.gone, .gone]) := by
  have h1 := specSrcOk a ha
  have h2 := specSrcOk b hb
  unfold compB
  refine run_spec_Compare ?_
  cases p1 : srcB a with
  | false =>
    rw [p1] at h1
    simp (maxSteps := 1000000) (disch := omega) [if_pos, if_neg, wrap_i64, wrap_u8, spec_Compare.b, h1]
  | true =>
    rw [p1] at h1
    cases p2 : srcB b with
    | false =>
      rw [p2] at h2
      simp (maxSteps := 1000000) (disch := omega) [if_pos, if_neg, wrap_i64, wrap_u8, spec_Compare.b, h1, h2]
    | true =>
      rw [p2] at h2
      have tb := types_of p2
      have hw := ha
      have hw2 := hb
      simp only [KSrc.w] at hw hw2
      have hS := fun n => l18Size b n (by omega)
      have hO := fun t => sizeIn_other (t := t) tb.unlike tb.pos
      simp only [Bool.and_self, if_true]
      have f1 := new_all ⟨#[43]⟩ a.exports b.exports []
      have f2 := fun s => new_all ⟨#[45]⟩ b.exports a.exports s
      have f3 := fun s => t_all b.types a.types s
      have n1 := less_length a.exports b.exports []
      have n2 := less_length b.exports a.exports []
      simp only [List.nil_append, List.length_nil, Nat.zero_add] at f1 n1 n2
      unfold lessB at f1 f2 ⊢
      generalize hd1 : (b.exports.foldl (lessStep a.exports) []).map (fun x => (⟨#[43]⟩ : ByteArray) ++ x) = d1 at *
      have m1 : d1.length ≤ b.exports.length := by rw [← hd1, List.length_map]; exact n1
      generalize hd2 : (a.exports.foldl (lessStep b.exports) []).map (fun x => (⟨#[45]⟩ : ByteArray) ++ x) = d2 at *
      have m2 : d2.length ≤ a.exports.length := by rw [← hd2, List.length_map]; exact n2
      generalize (a.types.foldl (otherStep b.types) []).map (fun x => (⟨#[126]⟩ : ByteArray) ++ x) = d3 at *
      simp (maxSteps := 1000000) (disch := omega) [if_pos, if_neg, wrap_i64, wrap_u8, spec_Compare.b, h1, h2]
      refine at_fold (fun e i (s : List ByteArray) => (e.put 6 (.v (.leaf (.int .i64 i)))).put 5 (.v (.leaf (Kstrs true s)))) spec_Compare.l0.eq_1 (newStep ⟨#[43]⟩ a.exports) b.exports [] (by simp) ?_ (fun i x hx hi ih => ?_)
      · rw [f1]
        simp (maxSteps := 1000000) (disch := omega) [if_pos, if_neg, wrap_i64, wrap_u8, ]
        refine at_fold (fun e i (s : List ByteArray) => (e.put 7 (.v (.leaf (.int .i64 i)))).put 5 (.v (.leaf (Kstrs true s)))) spec_Compare.l1.eq_1 (newStep ⟨#[45]⟩ b.exports) a.exports d1 (by simp) ?_ (fun i x hx hi ih => ?_)
        · rw [f2]
          have m3 : (d1 ++ d2).length ≤ b.exports.length + a.exports.length := by rw [List.length_append]; omega
          generalize hd : d1 ++ d2 = dd at *
          simp (maxSteps := 1000000) (disch := omega) [if_pos, if_neg, wrap_i64, wrap_u8, ]
          refine at_fold (fun e i (s : List ByteArray) => (e.put 8 (.v (.leaf (.int .i64 i)))).put 5 (.v (.leaf (Kstrs true s)))) spec_Compare.l2.eq_1 (tStep b.types) a.types dd (by simp) ?_ (fun i x hx hi ih => ?_)
          · rw [f3, ← hd, List.append_assoc]
            generalize d1 ++ (d2 ++ d3) = d at *
            simp (maxSteps := 1000000) (disch := omega) [if_pos, if_neg, wrap_i64, wrap_u8, ]
          · have hl := t_length b.types (a.types.take i) dd
            rw [List.length_take] at hl
            generalize (a.types.take i).foldl (tStep b.types) dd = S at *
            have q1 := hS x.name
            have q2 := hO x
            have hxu := types_at hx
            simp only [KType.w] at hxu
            simp only [tStep] at ih
            rw [q2] at ih
            generalize sizeIn x.name b.types = z at *
            by_cases z1 : 0 ≤ z
            · by_cases z2 : z = x.size
              · rw [decide_eq_true z1, decide_eq_true z2] at ih
                simp (maxSteps := 1000000) (disch := omega) [if_pos, if_neg, wrap_i64, wrap_u8, hx, at_get hx, q1, z1, z2]
                refine run_env ih ?_
                simp
              · rw [decide_eq_true z1, decide_eq_false z2] at ih
                simp (maxSteps := 1000000) (disch := omega) [if_pos, if_neg, wrap_i64, wrap_u8, hx, at_get hx, q1, z1, z2]
                refine run_env ih ?_
                simp
            · rw [decide_eq_false z1] at ih
              simp (maxSteps := 1000000) (disch := omega) [if_pos, if_neg, wrap_i64, wrap_u8, hx, at_get hx, q1, z1]
              refine run_env ih ?_
              simp
        · have hl := new_length ⟨#[45]⟩ b.exports (a.exports.take i) d1
          rw [List.length_take] at hl
          generalize (a.exports.take i).foldl (newStep ⟨#[45]⟩ b.exports) d1 = S at *
          have q1 := l3In x b.exports (by omega)
          have hxs := strs_at' hx
          simp only [newStep] at ih
          by_cases hm : x ∈ b.exports
          · rw [decide_eq_true hm] at q1
            rw [if_pos hm] at ih
            simp (maxSteps := 1000000) (disch := omega) [if_pos, if_neg, wrap_i64, wrap_u8, hx, at_get hx, q1]
            refine run_env ih ?_
            simp
          · rw [decide_eq_false hm] at q1
            rw [if_neg hm] at ih
            simp (maxSteps := 1000000) (disch := omega) [if_pos, if_neg, wrap_i64, wrap_u8, hx, at_get hx, q1]
            refine run_env ih ?_
            simp
      · have hl := new_length ⟨#[43]⟩ a.exports (b.exports.take i) []
        rw [List.length_take] at hl
        simp only [List.length_nil] at hl
        generalize (b.exports.take i).foldl (newStep ⟨#[43]⟩ a.exports) [] = S at *
        have q1 := l3In x a.exports (by omega)
        have hxs := strs_at' hx
        simp only [newStep] at ih
        by_cases hm : x ∈ a.exports
        · rw [decide_eq_true hm] at q1
          rw [if_pos hm] at ih
          simp (maxSteps := 1000000) (disch := omega) [if_pos, if_neg, wrap_i64, wrap_u8, hx, at_get hx, q1]
          refine run_env ih ?_
          simp
        · rw [decide_eq_false hm] at q1
          rw [if_neg hm] at ih
          simp (maxSteps := 1000000) (disch := omega) [if_pos, if_neg, wrap_i64, wrap_u8, hx, at_get hx, q1]
          refine run_env ih ?_
          simp
end Go.Proofs.YtjjfodoafefohaaGreatDoor.CM
