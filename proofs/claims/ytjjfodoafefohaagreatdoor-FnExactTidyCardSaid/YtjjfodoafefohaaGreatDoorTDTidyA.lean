/- Programs put in order: the program's and the reference's tell the same. -/
import Derived.Test.YtjjfodoafefohaaGreatDoorTDTreeA
namespace Go.Proofs.YtjjfodoafefohaaGreatDoor.TD
open Go Go.VS Go.Lib
set_option maxRecDepth 10000
set_option maxHeartbeats 8000000
set_option linter.unusedSimpArgs false
set_option linter.unusedVariables false
theorem nodes_us : ∀ {l : List KNode} {i : Nat} {x : KNode}, l[i]? = some x → KNode.w x ≤ KNode.us l
  | [], i, x, h => by simp at h
  | a :: l, 0, x, h => by simp at h; subst h; simp only [KNode.us]; omega
  | a :: l, i + 1, x, h => by have := nodes_us (l := l) (i := i) (x := x) (by simpa using h); simp only [KNode.us]; omega
theorem take_sum {α : Type} (w : α → Nat) : ∀ (l : List α) (j : Nat) (a : α), l[j]? = some a → ((l.take j).map w).sum + w a ≤ (l.map w).sum
  | [], j, a, h => by simp at h
  | b :: l, 0, a, h => by simp at h; subst h; simp
  | b :: l, j + 1, a, h => by
    have := take_sum w l j a (by simpa using h)
    simp only [List.take_succ_cons, List.map_cons, List.sum_cons]
    omega
/-- A node put behind what is below it. -/
def tidyStep (f : Int → List KNode → List KNode) (s : List KNode × List Int) (a : Int) : List KNode × List Int := (f a s.1, s.2 ++ [((f a s.1).length : Int) - 1])
def tidyF (nodes : List KNode) : Nat → Int → List KNode → List KNode
  | 0, _, out => out
  | d + 1, i, out => match nodes[i.toNat]? with
    | none => out
    | some x => (x.args.foldl (tidyStep (tidyF nodes d)) (out, [])).1 ++ [{ x with args := (x.args.foldl (tidyStep (tidyF nodes d)) (out, [])).2 }]
theorem tidyStep_snd (f : Int → List KNode → List KNode) : ∀ (l : List Int) (s : List KNode × List Int), (l.foldl (tidyStep f) s).2.length = s.2.length + l.length
  | [], s => rfl
  | a :: l, s => by rw [List.foldl_cons, tidyStep_snd f l]; simp [tidyStep]; omega
theorem tidyStep_fst (f : Int → List KNode → List KNode) (w : Int → Nat) : ∀ (l : List Int) (s : List KNode × List Int), (∀ a ∈ l, ∀ o, (f a o).length = o.length + w a) → (l.foldl (tidyStep f) s).1.length = s.1.length + (l.map w).sum
  | [], s, _ => by simp
  | a :: l, s, h => by
    have h1 := h a (by simp) s.1
    rw [List.foldl_cons, tidyStep_fst f w l _ (fun b hb => h b (by simp [hb]))]
    simp only [tidyStep, List.map_cons, List.sum_cons]
    omega
theorem tidyF_length {nodes : List KNode} (hlt : ArgsLt nodes) : ∀ (d i : Nat) (out : List KNode), i < d → i < nodes.length → (tidyF nodes d i out).length = out.length + sizeN nodes i
  | 0, i, _, h, _ => by omega
  | d + 1, i, out, h, hi => by
    have hx : nodes[i]? = some nodes[i] := List.getElem?_eq_getElem hi
    generalize nodes[i] = x at hx
    have hsz := sizeN_eq hlt hx
    simp only [tidyF, Int.toNat_natCast, hx]
    rw [List.length_append, tidyStep_fst (tidyF nodes d) (fun a => sizeN nodes a.toNat) x.args (out, []) (fun a ha o => by
        have := hlt i x hx a ha
        have e : a = ((a.toNat : Nat) : Int) := by omega
        have h2 := tidyF_length hlt d a.toNat o (by omega) (by omega)
        rw [← e] at h2
        exact h2)]
    simp
    omega
@[simp] theorem freeRR_append : ∀ a b : List (List L), freeRR (a ++ b) = (freeRR a && freeRR b)
  | [], b => by simp [freeRR]
  | r :: a, b => by simp only [List.cons_append, freeRR, freeRR_append a b, Bool.and_assoc]
theorem sClone (l : List ByteArray) (hl : (l.length : Int) ≤ 1048576) : A 182 [.leaf (Kstrs false l)] = some ([.leaf (Kstrs true l)], [.gone]) := by
  refine P_slices_Clone_string_string ?_
  simp only [prim_slices_Clone_string_string, runCloneS, strsOf_map]
  rw [if_pos (by omega)]
theorem tidierPut (nodes : List KNode) (hlt : ArgsLt nodes) (hn : (nodes.length : Int) ≤ 400) (hu : (KNode.us nodes : Int) ≤ 1048576) : ∀ (d i : Nat) (out : List KNode), i < d → i < nodes.length → (out.length : Int) + sizeN nodes i ≤ 400 →
    A 128 [.box [KNode.sl false nodes, KNode.sl true out], .leaf (.int .i64 i)] = some ([.leaf (.int .i64 (((tidyF nodes d i out).length : Int) - 1))], [.box [KNode.sl false nodes, KNode.sl true (tidyF nodes d i out)], .gone])
  | 0, i, _, h, _, _ => by omega
  | d + 1, i, out, h, hi, ho => by
    have ih := tidierPut nodes hlt hn hu d
    have hx : nodes[i]? = some nodes[i] := List.getElem?_eq_getElem hi
    generalize nodes[i] = x at hx
    have hsz := sizeN_eq hlt hx
    have hux := nodes_us hx
    have hargs := hlt i x hx
    simp only [KNode.w] at hux
    have hC := sClone x.names (by omega)
    have hlen := tidyF_length hlt (d + 1) i out h hi
    have e : tidyF nodes (d + 1) i out = (x.args.foldl (tidyStep (tidyF nodes d)) (out, [])).1 ++ [{ x with args := (x.args.foldl (tidyStep (tidyF nodes d)) (out, [])).2 }] := by
      simp only [tidyF, Int.toNat_natCast, hx]
    have hf1 : ∀ (l : List Int), (∀ a ∈ l, 0 ≤ a ∧ a < (i : Int)) → (l.foldl (tidyStep (tidyF nodes d)) (out, [])).1.length = out.length + (l.map fun a => sizeN nodes a.toNat).sum := by
      intro l hl
      have := tidyStep_fst (tidyF nodes d) (fun a => sizeN nodes a.toNat) l (out, []) (fun a ha o => by
        have := hl a ha
        have e : a = ((a.toNat : Nat) : Int) := by omega
        have h2 := tidyF_length hlt d a.toNat o (by omega) (by omega)
        rw [← e] at h2
        exact h2)
      simpa using this
    have hf2 := fun (l : List Int) => tidyStep_snd (tidyF nodes d) l (out, [])
    rw [e] at hlen ⊢
    refine run_impl_tidier_put ?_
    simp (maxSteps := 1000000) (disch := omega) [if_pos, if_neg, wrap_i64, wrap_u8, impl_tidier_put.b, hx, at_get hx]
    refine at_fold (fun e j (s : List KNode × List Int) => ((e.put 20 (.v (.leaf (.int .i64 j)))).put 0 (.v (.box [KNode.sl false nodes, KNode.sl true s.1]))).put 6 (.v (.leaf (Kints true s.2)))) impl_tidier_put.l0.eq_1 (tidyStep (tidyF nodes d)) x.args (out, []) (by simp) ?_ (fun j a ha hj ih2 => ?_)
    · have k1 := hf1 x.args hargs
      have k2 := hf2 x.args
      simp only [List.length_nil] at k2
      generalize x.args.foldl (tidyStep (tidyF nodes d)) (out, []) = st at *
      obtain ⟨o, r⟩ := st
      simp only at k1 k2 hlen ⊢
      simp (maxSteps := 1000000) (disch := omega) [if_pos, if_neg, wrap_i64, wrap_u8, hC]
    · have ham := hargs a (List.mem_of_getElem? ha)
      have k1 := hf1 (x.args.take j) (fun c hc => hargs c (List.mem_of_mem_take hc))
      have k2 := hf2 (x.args.take j)
      have k3 := take_sum (fun a : Int => sizeN nodes a.toNat) x.args j a ha
      simp only [List.length_nil, List.length_take] at k2
      have hal : x.args.length ≤ 1048576 := by omega
      generalize (x.args.take j).foldl (tidyStep (tidyF nodes d)) (out, []) = st at *
      obtain ⟨o, r⟩ := st
      have e3 : tidyStep (tidyF nodes d) (o, r) a = (tidyF nodes d a o, r ++ [((tidyF nodes d a o).length : Int) - 1]) := rfl
      rw [e3] at ih2
      simp only at k1 k2 ih2 ⊢
      have e1 : a = ((a.toNat : Nat) : Int) := by omega
      have h4 := ih a.toNat o (by omega) (by omega) (by omega)
      have h5 := tidyF_length hlt d a.toNat o (by omega) (by omega)
      rw [← e1] at h4 h5
      generalize tidyF nodes d a o = o2 at *
      simp (maxSteps := 1000000) (disch := omega) [if_pos, if_neg, wrap_i64, wrap_u8, ha, at_get ha, h4]
      refine run_env ih2 ?_
      simp
theorem l23Tidy (nodes : List KNode) (root : Int) (hlt : ArgsLt nodes) (hn : (nodes.length : Int) ≤ 400) (hu : (KNode.us nodes : Int) ≤ 1048576) : ∀ (d i : Nat) (out : List KNode), i < d → i < nodes.length → (out.length : Int) + sizeN nodes i ≤ 400 →
    A 60 [.agg (KProg.row false ⟨nodes, root⟩), .leaf (.int .i64 i), .leaf (KNode.sl true out)] = some ([.leaf (KNode.sl true (tidyF nodes d i out))], [.gone, .gone, .gone])
  | 0, i, _, h, _, _ => by omega
  | d + 1, i, out, h, hi, ho => by
    have ih := l23Tidy nodes root hlt hn hu d
    have hx : nodes[i]? = some nodes[i] := List.getElem?_eq_getElem hi
    generalize nodes[i] = x at hx
    have hsz := sizeN_eq hlt hx
    have hux := nodes_us hx
    have hargs := hlt i x hx
    simp only [KNode.w] at hux
    have hlen := tidyF_length hlt (d + 1) i out h hi
    have e : tidyF nodes (d + 1) i out = (x.args.foldl (tidyStep (tidyF nodes d)) (out, [])).1 ++ [{ x with args := (x.args.foldl (tidyStep (tidyF nodes d)) (out, [])).2 }] := by
      simp only [tidyF, Int.toNat_natCast, hx]
    have hf1 : ∀ (l : List Int), (∀ a ∈ l, 0 ≤ a ∧ a < (i : Int)) → (l.foldl (tidyStep (tidyF nodes d)) (out, [])).1.length = out.length + (l.map fun a => sizeN nodes a.toNat).sum := by
      intro l hl
      have := tidyStep_fst (tidyF nodes d) (fun a => sizeN nodes a.toNat) l (out, []) (fun a ha o => by
        have := hl a ha
        have e : a = ((a.toNat : Nat) : Int) := by omega
        have h2 := tidyF_length hlt d a.toNat o (by omega) (by omega)
        rw [← e] at h2
        exact h2)
      simpa using this
    have hf2 := fun (l : List Int) => tidyStep_snd (tidyF nodes d) l (out, [])
    rw [e] at hlen ⊢
    refine run_spec_l23Tidy ?_
    simp (maxSteps := 1000000) (disch := omega) [if_pos, if_neg, wrap_i64, wrap_u8, spec_l23Tidy.b, hx, at_get hx]
    refine at_fold (fun e j (s : List KNode × List Int) => ((e.put 9 (.v (.leaf (.int .i64 j)))).put 2 (.v (.leaf (KNode.sl true s.1)))).put 8 (.v (.leaf (Kints true s.2)))) spec_l23Tidy.l0.eq_1 (tidyStep (tidyF nodes d)) x.args (out, []) (by simp) ?_ (fun j a ha hj ih2 => ?_)
    · have k1 := hf1 x.args hargs
      have k2 := hf2 x.args
      simp only [List.length_nil] at k2
      generalize x.args.foldl (tidyStep (tidyF nodes d)) (out, []) = st at *
      obtain ⟨o, r⟩ := st
      simp only at k1 k2 hlen ⊢
      simp (maxSteps := 1000000) (disch := omega) [if_pos, if_neg, wrap_i64, wrap_u8, ]
    · have ham := hargs a (List.mem_of_getElem? ha)
      have k1 := hf1 (x.args.take j) (fun c hc => hargs c (List.mem_of_mem_take hc))
      have k2 := hf2 (x.args.take j)
      have k3 := take_sum (fun a : Int => sizeN nodes a.toNat) x.args j a ha
      simp only [List.length_nil, List.length_take] at k2
      have hal : x.args.length ≤ 1048576 := by omega
      generalize (x.args.take j).foldl (tidyStep (tidyF nodes d)) (out, []) = st at *
      obtain ⟨o, r⟩ := st
      have e3 : tidyStep (tidyF nodes d) (o, r) a = (tidyF nodes d a o, r ++ [((tidyF nodes d a o).length : Int) - 1]) := rfl
      rw [e3] at ih2
      simp only at k1 k2 ih2 ⊢
      have e1 : a = ((a.toNat : Nat) : Int) := by omega
      have h4 := ih a.toNat o (by omega) (by omega) (by omega)
      have h5 := tidyF_length hlt d a.toNat o (by omega) (by omega)
      rw [← e1] at h4 h5
      generalize tidyF nodes d a o = o2 at *
      simp (maxSteps := 1000000) (disch := omega) [if_pos, if_neg, wrap_i64, wrap_u8, ha, at_get ha, h4]
      refine run_env ih2 ?_
      simp
/-- A right program in the order in which its nodes end. -/
noncomputable def tidyB (p : KProg) : KProg := if progB p = true then ⟨tidyF p.nodes p.nodes.length p.root [], ((tidyF p.nodes p.nodes.length p.root []).length : Int) - 1⟩ else ⟨[], 0⟩
theorem progB_len {p : KProg} (h : progB p = true) : (p.nodes.length : Int) ≤ 400 := by
  unfold progB at h
  simp only [Bool.and_eq_true] at h
  have := h.1
  unfold within at this
  simp at this
  omega
theorem tidyF_cnt {nodes : List KNode} {C : Nat} (hC : ∀ x ∈ nodes, KNode.cnt x ≤ C) : ∀ (d : Nat) (i : Int) (out : List KNode), (∀ y ∈ out, KNode.cnt y ≤ C) → ∀ y ∈ tidyF nodes d i out, KNode.cnt y ≤ C
  | 0, i, out, h => h
  | d + 1, i, out, h => by
    unfold tidyF
    split
    · exact h
    · rename_i x hx
      have hfold : ∀ (l : List Int) (s : List KNode × List Int), (∀ y ∈ s.1, KNode.cnt y ≤ C) → ∀ y ∈ (l.foldl (tidyStep (tidyF nodes d)) s).1, KNode.cnt y ≤ C := by
        intro l
        induction l with
        | nil => intro s hs; exact hs
        | cons a l ih => intro s hs; exact ih _ (tidyF_cnt hC d a s.1 hs)
      intro y hy
      rcases List.mem_append.1 hy with hy | hy
      · exact hfold x.args (out, []) h y hy
      · obtain rfl := List.mem_singleton.1 hy
        have hxC := hC x (List.mem_of_getElem? hx)
        have hl := tidyStep_snd (tidyF nodes d) x.args (out, [])
        simp only [KNode.cnt, List.length_nil] at hxC hl ⊢
        omega
theorem cnts_mul {C : Nat} : ∀ l : List KNode, (∀ y ∈ l, KNode.cnt y ≤ C) → KNode.cnts l ≤ C * l.length
  | [], _ => by simp [KNode.cnts]
  | y :: l, h => by
    have h1 := h y (by simp)
    have h2 := cnts_mul l (fun z hz => h z (by simp [hz]))
    simp only [KNode.cnts, List.length_cons, Nat.mul_succ]
    omega
/-- Where a right program's walk begins. -/
structure Begin (p : KProg) : Prop where
  lt : ArgsLt p.nodes
  n : (p.nodes.length : Int) ≤ 400
  hi : p.root.toNat < p.nodes.length
  e : ((p.root.toNat : Nat) : Int) = p.root
  sz : (sizeN p.nodes p.root.toNat : Int) ≤ 400
theorem begin_of {p : KProg} (hk : progB p = true) : Begin p := by
  obtain ⟨hok, hroot, hpos⟩ := progB_ok hk
  have hlen := progB_len hk
  have hs := size_le hk (k := p.root.toNat) (by omega)
  exact ⟨argsLt_of hk, hlen, by omega, by omega, by omega⟩
theorem tidyB_cnts (p : KProg) (hw : (KProg.w p : Int) ≤ 1048576) : KNode.cnts (tidyB p).nodes ≤ 1000000000 := by
  unfold tidyB
  split
  · rename_i hk
    have B := begin_of hk
    have B4 := B.sz
    have h1 := tidyF_length B.lt p.nodes.length p.root.toNat [] B.hi B.hi
    rw [B.e] at h1
    have h2 := cnts_mul (C := 1048579) (tidyF p.nodes p.nodes.length p.root []) (tidyF_cnt (fun x hx => by
      obtain ⟨i, hi⟩ := List.getElem?_of_mem hx
      have := nodes_us hi
      simp only [KNode.w, KProg.w] at this hw
      simp only [KNode.cnt]
      omega) _ _ _ (by simp))
    simp only [List.length_nil, Nat.zero_add] at h1
    rw [h1] at h2
    simp only
    omega
  · simp [KNode.cnts]
theorem implTidyR (p : KProg) (hk : progB p = true) (hw : (KProg.w p : Int) ≤ 1048576) : A 61 [.leaf (KNode.sl false p.nodes), .leaf (.int .i64 p.root)] = some ([.agg (KProg.row true ⟨tidyF p.nodes p.nodes.length p.root [], ((tidyF p.nodes p.nodes.length p.root []).length : Int) - 1⟩)], [.gone, .gone]) := by
  have B := begin_of hk
  have B4 := B.sz
  simp only [KProg.w] at hw
  have h1 := tidierPut p.nodes B.lt B.n (by omega) p.nodes.length p.root.toNat [] B.hi B.hi (by simp; omega)
  have hl := tidyF_length B.lt p.nodes.length p.root.toNat [] B.hi B.hi
  rw [B.e] at h1 hl
  obtain ⟨nodes, root⟩ := p
  simp only [List.length_nil, Nat.zero_add] at hl B4 h1 ⊢
  generalize tidyF nodes nodes.length root [] = t at *
  simp only [KNode.sl, List.map_nil] at h1
  refine run_impl_tidy ?_
  simp (maxSteps := 1000000) (disch := omega) [if_pos, if_neg, wrap_i64, wrap_u8, impl_tidy.b, h1]
theorem implTidy (p : KProg) (hw : (KProg.w p : Int) ≤ 1048576) : A 22 [.agg (KProg.row false p)] = some ([.agg (KProg.row true (tidyB p))], [.gone]) := by
  have hP := implProgOk p hw
  refine run_impl_Tidy ?_
  unfold tidyB
  cases hk : progB p with
  | false =>
    rw [hk] at hP
    simp (maxSteps := 1000000) (disch := omega) [if_pos, if_neg, wrap_i64, wrap_u8, impl_Tidy.b, hP]
  | true =>
    rw [hk] at hP
    have h2 := implTidyR p hk hw
    obtain ⟨nodes, root⟩ := p
    simp only at h2 ⊢
    generalize tidyF nodes nodes.length root [] = t at *
    simp (maxSteps := 1000000) (disch := omega) [if_pos, if_neg, wrap_i64, wrap_u8, impl_Tidy.b, hP, h2]
theorem specTidy (p : KProg) (hw : (KProg.w p : Int) ≤ 1048576) : A 21 [.agg (KProg.row false p)] = some ([.agg (KProg.row true (tidyB p))], [.gone]) := by
  have hP := specProgOk p hw
  refine run_spec_Tidy ?_
  unfold tidyB
  cases hk : progB p with
  | false =>
    rw [hk] at hP
    simp (maxSteps := 1000000) (disch := omega) [if_pos, if_neg, wrap_i64, wrap_u8, spec_Tidy.b, hP]
  | true =>
    rw [hk] at hP
    have B := begin_of hk
    have B4 := B.sz
    simp only [KProg.w] at hw
    have h1 := l23Tidy p.nodes p.root B.lt B.n (by omega) p.nodes.length p.root.toNat [] B.hi B.hi (by simp; omega)
    have hl := tidyF_length B.lt p.nodes.length p.root.toNat [] B.hi B.hi
    rw [B.e] at h1 hl
    obtain ⟨nodes, root⟩ := p
    simp only [List.length_nil, Nat.zero_add] at hl B4 h1 ⊢
    generalize tidyF nodes nodes.length root [] = t at *
    simp only [KNode.sl, List.map_nil] at h1
    simp (maxSteps := 1000000) (disch := omega) [if_pos, if_neg, wrap_i64, wrap_u8, spec_Tidy.b, hP, h1]
end Go.Proofs.YtjjfodoafefohaaGreatDoor.TD
