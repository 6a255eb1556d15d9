/- The names that are free in a program: the program's and the reference's tell the same. -/
import Derived.Test.YthkfnfppihgejaaGreatDoorLNConcatA
import Derived.Test.YthkfnfppihgejaaGreatDoorLNTreeA
namespace Go.Proofs.YthkfnfppihgejaaGreatDoor.LN
open Go Go.VS Go.Lib
set_option maxRecDepth 10000
set_option maxHeartbeats 8000000
set_option linter.unusedSimpArgs false
set_option linter.unusedVariables false
/-- What is free in a node, behind what was found. -/
def seekF (nodes : List KNode) : Nat → Int → List ByteArray → List ByteArray → List ByteArray
 | 0, _, _, out => out
 | d + 1, i, bound, out => match nodes[i.toNat]? with
  | none => out
  | some x => if x.kind = 5 then (if x.s ∈ bound ∨ x.s ∈ out then out else out ++ [x.s])
   else x.args.foldl (fun o a => seekF nodes d a (if x.kind = 7 then bound ++ x.names else bound) o) out
theorem foldl_le {α : Type} (f : List ByteArray → α → List ByteArray) (w : α → Nat) : ∀ (l : List α) (o : List ByteArray), (∀ a ∈ l, ∀ o, (f o a).length ≤ o.length + w a) → (l.foldl f o).length ≤ o.length + (l.map w).sum
 | [], o, _ => by simp
 | a :: l, o, h => by
  have h1 := h a (by simp) o
  have h2 := foldl_le f w l (f o a) (fun b hb => h b (by simp [hb]))
  simp only [List.foldl_cons, List.map_cons, List.sum_cons]
  omega
theorem seekF_length {nodes : List KNode} (hlt : ArgsLt nodes) : ∀ (d i : Nat) (bound out : List ByteArray), i < d → i < nodes.length → (seekF nodes d i bound out).length ≤ out.length + sizeN nodes i
 | 0, i, _, _, h, _ => by omega
 | d + 1, i, bound, out, h, hi => by
  have hx : nodes[i]? = some nodes[i] := List.getElem?_eq_getElem hi
  generalize nodes[i] = x at hx
  have hsz := sizeN_eq hlt hx
  simp only [seekF, Int.toNat_natCast, hx]
  split
  ·split
   ·omega
   ·simp; omega
  ·have := foldl_le (fun o a => seekF nodes d a (if x.kind = 7 then bound ++ x.names else bound) o) (fun a => sizeN nodes a.toNat) x.args out (fun a ha o => by
    have := hlt i x hx a ha
    have e : a = ((a.toNat : Nat) : Int) := by omega
    have h2 := seekF_length hlt d a.toNat (if x.kind = 7 then bound ++ x.names else bound) o (by omega) (by omega)
    rw [← e] at h2
    exact h2)
   omega
theorem take_sum {α : Type} (w : α → Nat) : ∀ (l : List α) (j : Nat) (a : α), l[j]? = some a → ((l.take j).map w).sum + w a ≤ (l.map w).sum
 | [], j, a, h => by simp at h
 | b :: l, 0, a, h => by simp at h; subst h; simp
 | b :: l, j + 1, a, h => by
  have := take_sum w l j a (by simpa using h)
  simp only [List.take_succ_cons, List.map_cons, List.sum_cons]
  omega
theorem var_args {x : KNode} (h : nodeB x = true) (hk : x.kind = 5) : x.args = [] := by
 unfold nodeB at h
 simp [hk] at h
 exact h.2
theorem lam_names {x : KNode} (h : nodeB x = true) (hk : x.kind = 7) : x.names.length ≤ 8 := by
 unfold nodeB at h
 simp [hk, namesB] at h
 omega
@[simp] theorem freeRR_append : ∀ a b : List (List L), freeRR (a ++ b) = (freeRR a && freeRR b)
 | [], b => by simp [freeRR]
 | r :: a, b => by simp only [List.cons_append, freeRR, freeRR_append a b, Bool.and_assoc]
theorem nodes_us : ∀ {l : List KNode} {i : Nat} {x : KNode}, l[i]? = some x → KNode.w x ≤ KNode.us l
 | [], i, x, h => by simp at h
 | a :: l, 0, x, h => by simp at h; subst h; simp only [KNode.us]; omega
 | a :: l, i + 1, x, h => by have := nodes_us (l := l) (i := i) (x := x) (by simpa using h); simp only [KNode.us]; omega
theorem seek (nodes : List KNode) (hlt : ArgsLt nodes) (hB : ∀ x ∈ nodes, nodeB x = true) (hn : (nodes.length : Int) ≤ 400) (hu : (KNode.us nodes : Int) ≤ 1048576) : ∀ (d i : Nat) (bound out : List ByteArray), i < d → i < nodes.length → (bound.length : Int) + 8 * i ≤ 4000 → (out.length : Int) + sizeN nodes i ≤ 4000 →
  A 84 [.box [KNode.sl false nodes, Kstrs true out], .leaf (.int .i64 i), .leaf (Kstrs false bound)] = some ([], [.box [KNode.sl false nodes, Kstrs true (seekF nodes d i bound out)], .gone, .gone])
 | 0, i, _, _, h, _, _, _ => by omega
 | d + 1, i, bound, out, h, hi, hb, ho => by
  have ih := seek nodes hlt hB hn hu d
  have hx : nodes[i]? = some nodes[i] := List.getElem?_eq_getElem hi
  have hBx := hB nodes[i] (List.getElem_mem hi)
  generalize nodes[i] = x at hx hBx
  have hsz := sizeN_eq hlt hx
  have hux := nodes_us hx
  have hargs := hlt i x hx
  simp only [KNode.w] at hux
  have e : seekF nodes (d + 1) i bound out = if x.kind = 5 then (if x.s ∈ bound ∨ x.s ∈ out then out else out ++ [x.s]) else x.args.foldl (fun o a => seekF nodes d a (if x.kind = 7 then bound ++ x.names else bound) o) out := by
   simp only [seekF, Int.toNat_natCast, hx]
  rw [e]
  have step : ∀ (b' : List ByteArray), (b'.length : Int) + 8 * i ≤ 4008 → ∀ (j : Nat) (a : Int), x.args[j]? = some a → A 84 [.box [KNode.sl false nodes, Kstrs true ((x.args.take j).foldl (fun o a => seekF nodes d a b' o) out)], .leaf (.int .i64 a), .leaf (Kstrs false b')] = some ([], [.box [KNode.sl false nodes, Kstrs true (seekF nodes d a b' ((x.args.take j).foldl (fun o a => seekF nodes d a b' o) out))], .gone, .gone]) := by
   intro b' hb' j a ha
   have ham := List.mem_of_getElem? ha
   have h1 := hargs a ham
   have h2 := foldl_le (fun o a => seekF nodes d a b' o) (fun a => sizeN nodes a.toNat) (x.args.take j) out (fun c hc o => by
    have := hargs c (List.mem_of_mem_take hc)
    have e : c = ((c.toNat : Nat) : Int) := by omega
    have h2 := seekF_length hlt d c.toNat b' o (by omega) (by omega)
    rw [← e] at h2
    exact h2)
   have h3 := take_sum (fun a : Int => sizeN nodes a.toNat) x.args j a ha
   have e1 : a = ((a.toNat : Nat) : Int) := by omega
   have h4 := ih a.toNat b' ((x.args.take j).foldl (fun o a => seekF nodes d a b' o) out) (by omega) (by omega) (by omega) (by omega)
   rw [← e1] at h4
   exact h4
  refine run_impl_seeker_seek ?_
  by_cases k5 : x.kind = 5
  ·rw [if_pos k5]
   have ha := var_args hBx k5
   have c1 := sContains bound x.s (by omega)
   have c2 := sContains out x.s (by omega)
   by_cases m1 : x.s ∈ bound
   ·rw [if_pos (.inl m1)]
    rw [decide_eq_true m1] at c1
    simp (maxSteps := 1000000) (disch := omega) [ip, wr, impl_seeker_seek.b, hx, at_get hx, k5, c1]
    refine run_loop_at impl_seeker_seek.l0.eq_1 ?_
    simp (maxSteps := 1000000) (disch := omega) [ip, wr, ha]
   ·rw [decide_eq_false m1] at c1
    by_cases m2 : x.s ∈ out
    ·rw [if_pos (.inr m2)]
     rw [decide_eq_true m2] at c2
     simp (maxSteps := 1000000) (disch := omega) [ip, wr, impl_seeker_seek.b, hx, at_get hx, k5, c1, c2]
     refine run_loop_at impl_seeker_seek.l0.eq_1 ?_
     simp (maxSteps := 1000000) (disch := omega) [ip, wr, ha]
    ·rw [if_neg (fun h => h.elim m1 m2)]
     rw [decide_eq_false m2] at c2
     simp (maxSteps := 1000000) (disch := omega) [ip, wr, impl_seeker_seek.b, hx, at_get hx, k5, c1, c2]
     refine run_loop_at impl_seeker_seek.l0.eq_1 ?_
     simp (maxSteps := 1000000) (disch := omega) [ip, wr, ha]
  ·rw [if_neg k5]
   by_cases k7 : x.kind = 7
   ·have hn7 := lam_names hBx k7
    have hc := sConcat [bound, x.names] (by simp) (by simp; omega)
    simp only [List.map_cons, List.map_nil, List.flatten_cons, List.flatten_nil, List.append_nil] at hc
    have hbl : ((bound ++ x.names).length : Int) + 8 * i ≤ 4008 := by rw [List.length_append]; omega
    simp only [k7, if_true]
    generalize bound ++ x.names = b' at *
    have step := step b' hbl
    simp (maxSteps := 1000000) (disch := omega) [ip, wr, impl_seeker_seek.b, hx, at_get hx, k7, hc]
    refine at_fold (fun e j (s : List ByteArray) => ((e.put 56 (.v (.leaf (.int .i64 j)))).put 0 (.v (.box [KNode.sl false nodes, Kstrs true s]))).put 2 (.v (.leaf (Kstrs (decide (j = 0)) b')))) impl_seeker_seek.l0.eq_1 (fun o a => seekF nodes d a b' o) x.args out (by simp) ?_ (fun j a ha hj ih2 => ?_)
    ·generalize decide ((x.args.length : Int) = 0) = w
     simp (maxSteps := 1000000) (disch := omega) [ip, wr, ]
    ·have h4 := step j a ha
     have hj1 : decide (((j : Int) + 1) = 0) = false := decide_eq_false (by omega)
     rw [hj1] at ih2
     generalize (x.args.take j).foldl (fun o a => seekF nodes d a b' o) out = o at *
     generalize seekF nodes d a b' o = o2 at *
     generalize decide ((j : Int) = 0) = w
     cases w
     ·simp (maxSteps := 1000000) (disch := omega) [ip, wr, ha, at_get ha, h4]
      refine run_env ih2 ?_
      simp
     ·simp (maxSteps := 1000000) (disch := omega) [ip, wr, ha, at_get ha, h4]
      refine run_env ih2 ?_
      simp
   ·have step := step bound (by omega)
    simp only [k7, if_false]
    simp (maxSteps := 1000000) (disch := omega) [ip, wr, impl_seeker_seek.b, hx, at_get hx, k5, k7]
    refine at_fold (fun e j (s : List ByteArray) => (e.put 56 (.v (.leaf (.int .i64 j)))).put 0 (.v (.box [KNode.sl false nodes, Kstrs true s]))) impl_seeker_seek.l0.eq_1 (fun o a => seekF nodes d a bound o) x.args out (by simp) ?_ (fun j a ha hj ih2 => ?_)
    ·simp (maxSteps := 1000000) (disch := omega) [ip, wr, ]
    ·have h4 := step j a ha
     generalize (x.args.take j).foldl (fun o a => seekF nodes d a bound o) out = o at *
     generalize seekF nodes d a bound o = o2 at *
     simp (maxSteps := 1000000) (disch := omega) [ip, wr, ha, at_get ha, h4]
     refine run_env ih2 ?_
     simp
theorem l5Free (nodes : List KNode) (root : Int) (hlt : ArgsLt nodes) (hB : ∀ x ∈ nodes, nodeB x = true) (hn : (nodes.length : Int) ≤ 400) (hu : (KNode.us nodes : Int) ≤ 1048576) : ∀ (d i : Nat) (bound out : List ByteArray), i < d → i < nodes.length → (bound.length : Int) + 8 * i ≤ 4000 → (out.length : Int) + sizeN nodes i ≤ 4000 →
  A 22 [.agg (KProg.row false ⟨nodes, root⟩), .leaf (.int .i64 i), .leaf (Kstrs false bound), .leaf (Kstrs true out)] = some ([.leaf (Kstrs true (seekF nodes d i bound out))], [.gone, .gone, .gone, .gone])
 | 0, i, _, _, h, _, _, _ => by omega
 | d + 1, i, bound, out, h, hi, hb, ho => by
  have ih := l5Free nodes root hlt hB hn hu d
  have hx : nodes[i]? = some nodes[i] := List.getElem?_eq_getElem hi
  have hBx := hB nodes[i] (List.getElem_mem hi)
  generalize nodes[i] = x at hx hBx
  have hsz := sizeN_eq hlt hx
  have hux := nodes_us hx
  have hargs := hlt i x hx
  simp only [KNode.w] at hux
  have e : seekF nodes (d + 1) i bound out = if x.kind = 5 then (if x.s ∈ bound ∨ x.s ∈ out then out else out ++ [x.s]) else x.args.foldl (fun o a => seekF nodes d a (if x.kind = 7 then bound ++ x.names else bound) o) out := by
   simp only [seekF, Int.toNat_natCast, hx]
  rw [e]
  have step : ∀ (b' : List ByteArray), (b'.length : Int) + 8 * i ≤ 4008 → ∀ (j : Nat) (a : Int), x.args[j]? = some a → A 22 [.agg (KProg.row false ⟨nodes, root⟩), .leaf (.int .i64 a), .leaf (Kstrs false b'), .leaf (Kstrs true ((x.args.take j).foldl (fun o a => seekF nodes d a b' o) out))] = some ([.leaf (Kstrs true (seekF nodes d a b' ((x.args.take j).foldl (fun o a => seekF nodes d a b' o) out)))], [.gone, .gone, .gone, .gone]) := by
   intro b' hb' j a ha
   have ham := List.mem_of_getElem? ha
   have h1 := hargs a ham
   have h2 := foldl_le (fun o a => seekF nodes d a b' o) (fun a => sizeN nodes a.toNat) (x.args.take j) out (fun c hc o => by
    have := hargs c (List.mem_of_mem_take hc)
    have e : c = ((c.toNat : Nat) : Int) := by omega
    have h2 := seekF_length hlt d c.toNat b' o (by omega) (by omega)
    rw [← e] at h2
    exact h2)
   have h3 := take_sum (fun a : Int => sizeN nodes a.toNat) x.args j a ha
   have e1 : a = ((a.toNat : Nat) : Int) := by omega
   have h4 := ih a.toNat b' ((x.args.take j).foldl (fun o a => seekF nodes d a b' o) out) (by omega) (by omega) (by omega) (by omega)
   rw [← e1] at h4
   exact h4
  refine run_spec_l5Free ?_
  by_cases k5 : x.kind = 5
  ·rw [if_pos k5]
   have c1 := l3In x.s bound (by omega)
   have c2 := l3In x.s out (by omega)
   by_cases m1 : x.s ∈ bound
   ·rw [if_pos (.inl m1)]
    rw [decide_eq_true m1] at c1
    simp (maxSteps := 1000000) (disch := omega) [ip, wr, spec_l5Free.b, hx, at_get hx, k5, c1]
   ·rw [decide_eq_false m1] at c1
    by_cases m2 : x.s ∈ out
    ·rw [if_pos (.inr m2)]
     rw [decide_eq_true m2] at c2
     simp (maxSteps := 1000000) (disch := omega) [ip, wr, spec_l5Free.b, hx, at_get hx, k5, c1, c2]
    ·rw [if_neg (fun h => h.elim m1 m2)]
     rw [decide_eq_false m2] at c2
     simp (maxSteps := 1000000) (disch := omega) [ip, wr, spec_l5Free.b, hx, at_get hx, k5, c1, c2]
  ·rw [if_neg k5]
   by_cases k7 : x.kind = 7
   ·have hn7 := lam_names hBx k7
    have hbl : ((bound ++ x.names).length : Int) + 8 * i ≤ 4008 := by rw [List.length_append]; omega
    simp only [k7, if_true]
    have step := step (bound ++ x.names) hbl
    simp (maxSteps := 1000000) (disch := omega) [ip, wr, spec_l5Free.b, hx, at_get hx, k7]
    refine at_fold (fun e j (s : List ByteArray) => (e.put 10 (.v (.leaf (.int .i64 j)))).put 3 (.v (.leaf (Kstrs true s)))) spec_l5Free.l0.eq_1 (fun o a => seekF nodes d a (bound ++ x.names) o) x.args out (by simp) ?_ (fun j a ha hj ih2 => ?_)
    ·simp (maxSteps := 1000000) (disch := omega) [ip, wr, ]
    ·have h4 := step j a ha
     generalize (x.args.take j).foldl (fun o a => seekF nodes d a (bound ++ x.names) o) out = o at *
     generalize seekF nodes d a (bound ++ x.names) o = o2 at *
     simp only [Kstrs, List.map_append] at h4
     simp (maxSteps := 1000000) (disch := omega) [ip, wr, ha, at_get ha, h4, freezeRR_append]
     refine run_env ih2 ?_
     simp
   ·have step := step bound (by omega)
    simp only [k7, if_false]
    simp (maxSteps := 1000000) (disch := omega) [ip, wr, spec_l5Free.b, hx, at_get hx, k5, k7]
    refine at_fold (fun e j (s : List ByteArray) => (e.put 10 (.v (.leaf (.int .i64 j)))).put 3 (.v (.leaf (Kstrs true s)))) spec_l5Free.l0.eq_1 (fun o a => seekF nodes d a bound o) x.args out (by simp) ?_ (fun j a ha hj ih2 => ?_)
    ·simp (maxSteps := 1000000) (disch := omega) [ip, wr, ]
    ·have h4 := step j a ha
     generalize (x.args.take j).foldl (fun o a => seekF nodes d a bound o) out = o at *
     generalize seekF nodes d a bound o = o2 at *
     simp (maxSteps := 1000000) (disch := omega) [ip, wr, ha, at_get ha, h4]
     refine run_env ih2 ?_
     simp
/-- The names that are free in a node of a right program. -/
noncomputable def freeB (p : KProg) (i : Int) : List ByteArray := if (within 0 ((p.nodes.length : Int) - 1) i && progB p) = true then seekF p.nodes p.nodes.length i [] [] else []
theorem progB_len {p : KProg} (h : progB p = true) : (p.nodes.length : Int) ≤ 400 := by
 unfold progB at h
 simp only [Bool.and_eq_true] at h
 have := h.1
 unfold within at this
 simp at this
 omega
theorem freeB_length (p : KProg) (i : Int) : (freeB p i).length ≤ 400 := by
 unfold freeB
 split
 ·rename_i h
  simp only [Bool.and_eq_true] at h
  obtain ⟨h1, h2⟩ := h
  simp only [within, decide_eq_true_eq] at h1
  have hn := progB_len h2
  have hi : i.toNat < p.nodes.length := by omega
  have h3 := seekF_length (argsLt_of h2) p.nodes.length i.toNat [] [] hi hi
  have h4 := size_le h2 hi
  have e : ((i.toNat : Nat) : Int) = i := by omega
  rw [e] at h3
  simp only [List.length_nil] at h3
  omega
 ·simp
theorem implFreeR (p : KProg) (i : Int) (hk : progB p = true) (h0 : 0 ≤ i) (h1 : i < p.nodes.length) (hw : (KProg.w p : Int) ≤ 1048576) : A 61 [.box (KProg.row false p), .leaf (.int .i64 i)] = some ([.leaf (Kstrs true (seekF p.nodes p.nodes.length i [] []))], [.box (KProg.row false p), .gone]) := by
 have hn := progB_len hk
 have hi : i.toNat < p.nodes.length := by omega
 have h4 := size_le hk hi
 have e : ((i.toNat : Nat) : Int) = i := by omega
 simp only [KProg.w] at hw
 have h2 := seek p.nodes (argsLt_of hk) (nodeB_of hk) hn (by omega) p.nodes.length i.toNat [] [] hi hi (by simp; omega) (by simp; omega)
 rw [e] at h2
 obtain ⟨nodes, root⟩ := p
 simp only at h2 ⊢
 simp only [Kstrs, List.map_nil] at h2
 generalize seekF nodes nodes.length i [] [] = t at *
 refine run_impl_free ?_
 simp (maxSteps := 1000000) (disch := omega) [ip, wr, impl_free.b, h2]
end Go.Proofs.YthkfnfppihgejaaGreatDoor.LN
