/- Rows of names: what is in them, what is put behind them once. -/
import Derived.Test.YticecjjfbjnaaaaNEFam
namespace Go.Proofs.Yticecjjfbjnaaaa.NE
open Go Go.VS Go.Lib
set_option maxRecDepth 10000
set_option maxHeartbeats 8000000
set_option linter.unusedSimpArgs false
set_option linter.unusedVariables false
theorem l3In_loop (s : ByteArray) (ks : List Fr) (Q : VX → Env → Prop) (l : List ByteArray) (hs : (l.length : Int) ≤ 1000000000000000) : ∀ (rest done : List ByteArray) (i : Int), l = done ++ rest → i = done.length →
    (s ∉ rest → Run G A (.exit 0) [(0, .v (.leaf (Kstrs false l))), (1, .v (.leaf (.str s))), (5, .v (.leaf (.int .i64 l.length))), (9, .v (.leaf (.bool false)))] ks Q) →
    (s ∈ rest → Run G A .ret [(4, .v (.leaf (.bool true)))] ks Q) →
    Run G A (.loop spec_l3In.l0) [(0, .v (.leaf (Kstrs false l))), (1, .v (.leaf (.str s))), (5, .v (.leaf (.int .i64 i)))] ks Q := by
  intro rest
  induction rest with
  | nil =>
    intro done i hd hi hq hr
    subst hi hd
    refine run_loop_at spec_l3In.l0.eq_1 ?_
    simp (maxSteps := 1000000) (disch := omega) [if_pos, if_neg, wrap_i64, wrap_u8, ]
    simpa using hq (by simp)
  | cons c rest ih =>
    intro done i hd hi hq hr
    have ih := ih (done ++ [c]) (done.length + 1) (by simp [hd]) (by simp)
    subst hi hd
    simp only [List.length_append, List.length_cons] at hs
    refine run_loop_at spec_l3In.l0.eq_1 ?_
    by_cases hc : c = s
    · subst hc
      have hr := hr (by simp)
      simp (maxSteps := 1000000) (disch := omega) [if_pos, if_neg, wrap_i64, wrap_u8, get_mid]
      exact hr
    · have ih := ih (fun h => hq (by simp [Ne.symm hc, h])) (fun h => hr (by simp [h]))
      simp (maxSteps := 1000000) (disch := omega) [if_pos, if_neg, wrap_i64, wrap_u8, get_mid, hc]
      refine run_env ih ?_
      simp
theorem l3In (s : ByteArray) (l : List ByteArray) (hs : (l.length : Int) ≤ 1000000000000000) : A 19 [.leaf (Kstrs false l), .leaf (.str s)] = some ([.leaf (.bool (decide (s ∈ l)))], [.gone, .gone]) := by
  refine run_spec_l3In ?_
  simp [spec_l3In.b]
  refine l3In_loop s _ _ l hs l [] 0 rfl rfl (fun h => ?_) (fun h => ?_)
  · simp [h]
  · simp [h]
theorem take_mid {α β : Type} (a : List α) (f : α → β) (l : List β) : (a.map f ++ l).take a.length = a.map f := by
  rw [List.take_append_of_le_length (by simp)]
  exact List.take_of_length_le (by simp)
def strIdx : List ByteArray → ByteArray → Int → Int
  | [], _, _ => -1
  | x :: l, s, k => if s = x then k else strIdx l s (k + 1)
theorem strIdx_ge : ∀ (l : List ByteArray) (s : ByteArray) (k : Int), s ∈ l → k ≤ strIdx l s k ∧ strIdx l s k < k + l.length
  | x :: l, s, k, h => by
    unfold strIdx
    by_cases e : s = x
    · rw [if_pos e]; simp; omega
    · rw [if_neg e]
      have h2 : s ∈ l := by simpa [e] using h
      have := strIdx_ge l s (k + 1) h2
      simp; omega
theorem strIdx_at : ∀ (done : List ByteArray) (s : ByteArray) (rest : List ByteArray) (k : Int), strIdx (done ++ s :: rest) s k = k + done.length ↔ s ∉ done
  | [], s, rest, k => by simp [strIdx]
  | x :: done, s, rest, k => by
    unfold strIdx
    simp only [List.cons_append]
    by_cases e : s = x
    · rw [if_pos e]; simp [e]; omega
    · rw [if_neg e]
      have := strIdx_at done s rest (k + 1)
      simp only [List.mem_cons, e, false_or]
      rw [← this]
      simp; omega
theorem sIndex_loop (s : ByteArray) (ks : List Fr) (Q : VX → Env → Prop) (l : List ByteArray) (hs : (l.length : Int) ≤ 1000000000) (j : Int) (hr : Run G A .ret [(4, .v (.leaf (.int .i64 j)))] ks Q)
    (hq : j = -1 → Run G A (.exit 0) [(0, .v (.leaf (Kstrs false l))), (1, .v (.leaf (.str s))), (7, .v (.leaf (.int .i64 l.length))), (8, .v (.leaf (.int .i64 l.length))), (9, .v (.leaf (.bool false)))] ks Q) : ∀ (rest done : List ByteArray) (i : Int), l = done ++ rest → i = done.length → j = strIdx rest s i →
    Run G A (.loop slices_Index_string_string.l0) [(0, .v (.leaf (Kstrs false l))), (1, .v (.leaf (.str s))), (7, .v (.leaf (.int .i64 l.length))), (8, .v (.leaf (.int .i64 i)))] ks Q := by
  intro rest
  induction rest with
  | nil =>
    intro done i hd hi hj
    subst hi hd
    refine run_loop_at slices_Index_string_string.l0.eq_1 ?_
    simp (maxSteps := 1000000) (disch := omega) [if_pos, if_neg, wrap_i64, wrap_u8, ]
    simpa using hq hj
  | cons c rest ih =>
    intro done i hd hi hj
    have ih := ih (done ++ [c]) (done.length + 1) (by simp [hd]) (by simp)
    subst hi hd
    simp only [List.length_append, List.length_cons] at hs
    refine run_loop_at slices_Index_string_string.l0.eq_1 ?_
    unfold strIdx at hj
    by_cases hc : s = c
    · subst hc
      rw [if_pos rfl] at hj
      subst hj
      simp (maxSteps := 1000000) (disch := omega) [if_pos, if_neg, wrap_i64, wrap_u8, get_mid]
      exact hr
    · rw [if_neg hc] at hj
      simp (maxSteps := 1000000) (disch := omega) [if_pos, if_neg, wrap_i64, wrap_u8, get_mid, hc]
      refine run_env (ih hj) ?_
      simp
theorem sIndexL (l : List ByteArray) (s : ByteArray) (hs : (l.length : Int) ≤ 1000000000) : A 45 [.leaf (Kstrs false l), .leaf (.str s)] = some ([.leaf (.int .i64 (strIdx l s 0))], [.gone, .gone]) := by
  refine run_slices_Index_string_string ?_
  simp (maxSteps := 1000000) (disch := omega) [if_pos, if_neg, wrap_i64, wrap_u8, slices_Index_string_string.b]
  refine sIndex_loop s _ _ l hs (strIdx l s 0) ?_ (fun h => ?_) l [] 0 rfl rfl rfl
  · simp (maxSteps := 1000000) (disch := omega) [if_pos, if_neg, wrap_i64, wrap_u8, ]
  · simp (maxSteps := 1000000) (disch := omega) [if_pos, if_neg, wrap_i64, wrap_u8, h]
theorem sIndex (l : List ByteArray) (s : ByteArray) (hs : (l.length : Int) ≤ 1048576) : A 45 [.leaf (Kstrs false l), .leaf (.str s)] = some ([.leaf (.int .i64 (strIdx l s 0))], [.gone, .gone]) := sIndexL l s (by omega)
/-- A name put behind others, once. -/
def put1 (l : List ByteArray) (s : ByteArray) : List ByteArray := if s ∈ l then l else l ++ [s]
theorem put1_length (l : List ByteArray) (s : ByteArray) : (put1 l s).length ≤ l.length + 1 := by
  unfold put1
  split <;> simp
theorem put1s_length : ∀ (m l : List ByteArray), (m.foldl put1 l).length ≤ l.length + m.length
  | [], l => by simp
  | s :: m, l => by
    have h1 := put1s_length m (put1 l s)
    have h2 := put1_length l s
    simp only [List.foldl_cons, List.length_cons]
    omega
theorem strIdx_mem (l : List ByteArray) (s : ByteArray) : (0 ≤ strIdx l s 0) ↔ s ∈ l := by
  constructor
  · intro h
    refine Classical.byContradiction fun hn => ?_
    have : ∀ (l : List ByteArray) (k : Int), s ∉ l → strIdx l s k = -1 := by
      intro l
      induction l with
      | nil => intro k _; rfl
      | cons x l ih =>
        intro k hm
        simp only [List.mem_cons, not_or] at hm
        unfold strIdx
        rw [if_neg hm.1, ih _ hm.2]
    rw [this l 0 hn] at h
    omega
  · intro h
    exact (strIdx_ge l s 0 h).1
theorem sContainsL (l : List ByteArray) (s : ByteArray) (hl : (l.length : Int) ≤ 1000000000) : A 30 [.leaf (Kstrs false l), .leaf (.str s)] = some ([.leaf (.bool (decide (s ∈ l)))], [.gone, .gone]) := by
  have h1 := sIndexL l s hl
  have h2 := strIdx_mem l s
  refine run_slices_Contains_string_string ?_
  generalize strIdx l s 0 = j at *
  by_cases hm : s ∈ l
  · have hj := h2.2 hm
    simp (maxSteps := 1000000) (disch := omega) [if_pos, if_neg, wrap_i64, wrap_u8, slices_Contains_string_string.b, h1, hm, hj]
  · have h3 : ¬ 0 ≤ j := fun h => hm (h2.1 h)
    have hj : j < 0 := by omega
    simp (maxSteps := 1000000) (disch := omega) [if_pos, if_neg, wrap_i64, wrap_u8, slices_Contains_string_string.b, h1, hm, hj]
theorem sContains (l : List ByteArray) (s : ByteArray) (hl : (l.length : Int) ≤ 1048576) : A 30 [.leaf (Kstrs false l), .leaf (.str s)] = some ([.leaf (.bool (decide (s ∈ l)))], [.gone, .gone]) := sContainsL l s (by omega)
theorem implAddOnceL (l m : List ByteArray) (hl : (l.length : Int) + m.length ≤ 1000000000) : A 22 [.leaf (Kstrs true l), .leaf (Kstrs false m)] = some ([.leaf (Kstrs true (m.foldl put1 l))], [.gone, .gone]) := by
  refine run_impl_addOnce ?_
  simp (maxSteps := 1000000) (disch := omega) [if_pos, if_neg, wrap_i64, wrap_u8, impl_addOnce.b]
  refine at_fold (fun e i (s : List ByteArray) => (e.put 9 (.v (.leaf (.int .i64 i)))).put 0 (.v (.leaf (Kstrs true s)))) impl_addOnce.l0.eq_1 put1 m l (by simp) ?_ (fun i x hx hi ih => ?_)
  · simp (maxSteps := 1000000) (disch := omega) [if_pos, if_neg, wrap_i64, wrap_u8, ]
  · have hS := put1s_length (m.take i) l
    rw [List.length_take] at hS
    generalize (m.take i).foldl put1 l = S at *
    have h1 := sContainsL S x (by omega)
    unfold put1 at ih
    by_cases hm : x ∈ S
    · simp (maxSteps := 1000000) (disch := omega) [if_pos, if_neg, wrap_i64, wrap_u8, hx, at_get hx, h1, hm]
      refine run_env ih ?_
      simp [hm]
    · simp (maxSteps := 1000000) (disch := omega) [if_pos, if_neg, wrap_i64, wrap_u8, hx, at_get hx, h1, hm]
      refine run_env ih ?_
      simp [hm]
theorem implAddOnce (l m : List ByteArray) (hl : (l.length : Int) + m.length ≤ 1048576) : A 22 [.leaf (Kstrs true l), .leaf (Kstrs false m)] = some ([.leaf (Kstrs true (m.foldl put1 l))], [.gone, .gone]) := implAddOnceL l m (by omega)
end Go.Proofs.Yticecjjfbjnaaaa.NE
