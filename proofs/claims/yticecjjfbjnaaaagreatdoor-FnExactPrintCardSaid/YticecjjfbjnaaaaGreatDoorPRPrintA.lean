/- The text of a program: the program's and the reference's tell the same. -/
import Derived.Test.YticecjjfbjnaaaaGreatDoorPRTreeA
import Derived.Test.YticecjjfbjnaaaaGreatDoorPRSetsA
namespace Go.Proofs.YticecjjfbjnaaaaGreatDoor.PR
open Go Go.VS Go.Lib
set_option maxRecDepth 10000
set_option maxHeartbeats 8000000
set_option linter.unusedSimpArgs false
set_option linter.unusedVariables false
theorem take_sum {α : Type} (w : α → Nat) : ∀ (l : List α) (j : Nat) (a : α), l[j]? = some a → ((l.take j).map w).sum + w a ≤ (l.map w).sum
 | [], j, a, h => by simp at h
 | b :: l, 0, a, h => by simp at h; subst h; simp
 | b :: l, j + 1, a, h => by
  have := take_sum w l j a (by simpa using h)
  simp only [List.take_succ_cons, List.map_cons, List.sum_cons]
  omega
theorem nodes_us : ∀ {l : List KNode} {i : Nat} {x : KNode}, l[i]? = some x → KNode.w x ≤ KNode.us l
 | [], i, x, h => by simp at h
 | a :: l, 0, x, h => by simp at h; subst h; simp only [KNode.us]; omega
 | a :: l, i + 1, x, h => by have := nodes_us (l := l) (i := i) (x := x) (by simpa using h); simp only [KNode.us]; omega
/-- Texts with a blank between. -/
def jl : List ByteArray → List UInt8
 | [] => []
 | [x] => x.data.toList
 | x :: y :: l => x.data.toList ++ 32 :: jl (y :: l)
theorem joinU_jl : ∀ l : List ByteArray, joinU l ⟨#[32]⟩ = jl l
 | [] => rfl
 | [x] => by simp [joinU, jl, Lib.join, List.intercalate]
 | x :: y :: l => by
  have ih := joinU_jl (y :: l)
  simp only [joinU, Lib.join, List.map_cons, List.intercalate] at ih ⊢
  simp only [List.intersperse, List.flatten_cons, jl]
  rw [← ih]
  simp
def joinS (l : List ByteArray) : ByteArray := ⟨(joinU l ⟨#[32]⟩).toArray⟩
theorem joinS_nil : joinS [] = ⟨#[]⟩ := rfl
theorem joinS_one (x : ByteArray) : joinS [x] = x := by
 unfold joinS
 rw [joinU_jl]
 simp [jl]
theorem jl_snoc : ∀ (a : List ByteArray) (x : ByteArray), a ≠ [] → jl (a ++ [x]) = jl a ++ 32 :: x.data.toList
 | [], x, h => (h rfl).elim
 | [y], x, _ => rfl
 | y :: z :: a, x, _ => by
  have ih := jl_snoc (z :: a) x (by simp)
  simp only [List.cons_append, jl] at ih ⊢
  rw [ih]
  simp
theorem joinS_snoc {a : List ByteArray} (x : ByteArray) (h : a ≠ []) : joinS (a ++ [x]) = joinS a ++ ⟨#[32]⟩ ++ x := by
 unfold joinS
 rw [joinU_jl, joinU_jl, jl_snoc a x h]
 apply ByteArray.ext
 rw [ByteArray.data_append, ByteArray.data_append]
 apply Array.ext'
 simp
theorem jl_length : ∀ l : List ByteArray, (jl l).length ≤ (l.map fun x => x.size + 1).sum
 | [] => Nat.zero_le _
 | [x] => by simp [jl]
 | x :: y :: l => by
  have ih := jl_length (y :: l)
  have : x.data.toList.length = x.size := by simp
  simp only [jl, List.map_cons, List.sum_cons, List.length_append, List.length_cons] at ih ⊢
  omega
theorem joinS_size (l : List ByteArray) : (joinS l).size = (jl l).length := by
 unfold joinS
 rw [joinU_jl]
 simp
theorem sum_strsU : ∀ l : List ByteArray, (l.map fun x => x.size + 1).sum = strsU l + l.length
 | [] => rfl
 | x :: l => by
  have := sum_strsU l
  simp only [List.map_cons, List.sum_cons, strsU, List.length_cons] at this ⊢
  omega
theorem strsU_append : ∀ (l m : List ByteArray), strsU (l ++ m) = strsU l + strsU m
 | [], m => by simp [strsU]
 | x :: l, m => by simp only [List.cons_append, strsU, strsU_append l m]; omega
theorem nil_app (a : ByteArray) : (⟨#[]⟩ : ByteArray) ++ a = a := by
 apply ByteArray.ext
 rw [ByteArray.data_append]
 apply Array.ext'
 simp
theorem joinS_le (l : List ByteArray) : (joinS l).size ≤ strsU l + l.length := by
 rw [joinS_size, ← sum_strsU]
 exact jl_length l
/-- What stands ahead of the parts in the text of a node. -/
def headsP (x : KNode) : List ByteArray :=
 if x.kind = 6 then [⟨#[105, 102]⟩] else
 if x.kind = 7 then [⟨#[108, 97, 109, 98, 100, 97]⟩, ⟨#[40]⟩ ++ joinS x.names ++ ⟨#[41]⟩] else
 if x.kind = 10 then [⟨#[115, 101, 116, 33]⟩, x.s] else
 if x.kind = 11 then [⟨#[98, 101, 103, 105, 110]⟩] else
 if x.kind = 9 then (if x.s = ⟨#[102, 105, 101, 108, 100]⟩ then x.s :: (x.names ++ [str (itoa x.n)]) else x.s :: x.names) else []
/-- The text of a node, its parts' texts given. -/
def textX (x : KNode) (l : List ByteArray) : ByteArray :=
 if x.kind = 1 then str (itoa x.n) else
 if x.kind = 2 then (if x.n = 1 then ⟨#[35, 116]⟩ else ⟨#[35, 102]⟩) else
 if x.kind = 3 then ⟨#[40, 113, 117, 111, 116, 101, 32, 40, 41, 41]⟩ else
 if x.kind = 4 then ⟨#[40, 113, 117, 111, 116, 101, 32]⟩ ++ x.s ++ ⟨#[41]⟩ else
 if x.kind = 5 then x.s else ⟨#[40]⟩ ++ joinS (headsP x ++ l) ++ ⟨#[41]⟩
def textF (nodes : List KNode) : Nat → Int → ByteArray
 | 0, _ => ⟨#[]⟩
 | d + 1, i => match nodes[i.toNat]? with
  | none => ⟨#[]⟩
  | some x => textX x (x.args.map (textF nodes d))
def wtP (x : KNode) : Nat := 100 + 2 * KNode.w x
theorem itoaS {n : Int} (h1 : -1000000 ≤ n) (h2 : n ≤ 1000000) : (str (itoa n)).size ≤ 20 := by
 have := (itoa_len n (by omega) (by omega)).1
 rw [str_size]
 omega
theorem heads_le {x : KNode} (hB : nodeB x = true) : (headsP x).length ≤ 2 + x.names.length ∧ strsU (headsP x) ≤ 40 + strsU x.names + x.names.length + x.s.size := by
 have hj := joinS_le x.names
 unfold headsP
 split
 ·simp [strsU]; omega
 ·split
  ·simp [strsU]; omega
  ·split
   ·simp [strsU]; omega
   ·split
    ·simp [strsU]; omega
    ·split
     ·rename_i k9
      split
      ·rename_i hs
       have hn : -1000000 ≤ x.n ∧ x.n ≤ 1000000 := by
        unfold nodeB primB at hB
        simp [k9, hs] at hB
        omega
       have := itoaS hn.1 hn.2
       simp [strsU]
       rw [strsU_append]
       simp [strsU]
       omega
      ·simp [strsU]; omega
     ·simp [strsU]
theorem textX_le {x : KNode} (hB : nodeB x = true) (l : List ByteArray) (w : Nat) (hl : strsU l ≤ w) (hn : l.length = x.args.length) : (textX x l).size ≤ wtP x + w := by
 have h1 := heads_le hB
 have h2 := joinS_le (headsP x ++ l)
 rw [strsU_append, List.length_append] at h2
 unfold textX wtP
 simp only [KNode.w]
 split
 ·rename_i k1
  have hn : -1000000 ≤ x.n ∧ x.n ≤ 1000000 := by
   unfold nodeB at hB
   simp [k1, within] at hB
   omega
  have := itoaS hn.1 hn.2
  omega
 ·split
  ·split <;> simp <;> omega
  ·split
   ·simp; omega
   ·split
    ·simp; omega
    ·split
     ·omega
     ·simp; omega
theorem textF_le {nodes : List KNode} (hlt : ArgsLt nodes) (hB : ∀ x ∈ nodes, nodeB x = true) : ∀ (d i : Nat), i < d → (textF nodes d i).size ≤ sizeW wtP nodes i
 | 0, i, h => by omega
 | d + 1, i, h => by
  simp only [textF, Int.toNat_natCast]
  cases hx : nodes[i]? with
  | none => simp
  | some x =>
   simp only
   rw [sizeW_eq hlt hx]
   refine textX_le (hB x (List.mem_of_getElem? hx)) _ _ ?_ (by simp)
   have : ∀ l : List Int, (∀ a ∈ l, 0 ≤ a ∧ a < (i : Int)) → strsU (l.map (textF nodes d)) ≤ (l.map fun a => sizeW wtP nodes a.toNat).sum := by
    intro l
    induction l with
    | nil => intro _; simp [strsU]
    | cons a l ih =>
     intro hl
     have h1 := hl a (by simp)
     have h2 := textF_le hlt hB d a.toNat (by omega)
     have h3 := ih (fun b hb => hl b (by simp [hb]))
     have e1 : ((a.toNat : Nat) : Int) = a := by omega
     rw [e1] at h2
     simp only [List.map_cons, strsU, List.sum_cons]
     omega
   exact this x.args (hlt i x hx)
@[simp] theorem freeRR_append : ∀ a b : List (List L), freeRR (a ++ b) = (freeRR a && freeRR b)
 | [], b => by simp [freeRR]
 | r :: a, b => by simp only [List.cons_append, freeRR, freeRR_append a b, Bool.and_assoc]
theorem sJoin (l : List ByteArray) (hl : (l.length : Int) ≤ 100000000) (hu : (strsU l : Int) ≤ 100000000) : A 145 [.leaf (Kstrs false l), .leaf (.str ⟨#[32]⟩)] = some ([.leaf (.str (joinS l))], [.gone, .gone]) := by
 refine P_strings_Join ?_
 have h := joinS_le l
 have e : (joinS l).size = (joinU l ⟨#[32]⟩).length := by simp [joinS]
 simp only [prim_strings_Join, runJoin, Kstrs, strsOf_map]
 rw [if_pos (by omega)]
 rfl
theorem implDec (n : Int) (h0 : -9223372036854775808 ≤ n) (h1 : n ≤ 9223372036854775807) : A 142 [.leaf (.int .i64 n)] = some ([.leaf (.str (str (itoa n)))], [.gone]) := by
 have h := P_strconv_Itoa (cs := [.leaf (.int .i64 n)]) (r := ([.leaf (.str (str (itoa n)))], [.gone])) (by simp only [prim_strconv_Itoa, runItoa]; rw [if_pos ⟨h0, h1⟩]; rfl)
 refine run_impl_Dec ?_
 simp (maxSteps := 1000000) (disch := omega) [ip, wr, impl_Dec.b, h]
theorem boolText (b : Bool) : A 143 [.leaf (.bool b)] = some ([.leaf (.str (if b then ⟨#[35, 116]⟩ else ⟨#[35, 102]⟩))], [.gone]) := by
 refine run_impl_boolText ?_
 cases b
 ·simp (maxSteps := 1000000) (disch := omega) [ip, wr, impl_boolText.b]
 ·simp (maxSteps := 1000000) (disch := omega) [ip, wr, impl_boolText.b]
theorem num_in {x : KNode} (hB : nodeB x = true) (k1 : x.kind = 1) : -1000000 ≤ x.n ∧ x.n ≤ 1000000 := by
 unfold nodeB at hB
 simp [k1, within] at hB
 omega
theorem field_in {x : KNode} (hB : nodeB x = true) (k9 : x.kind = 9) (hs : x.s = ⟨#[102, 105, 101, 108, 100]⟩) : -1000000 ≤ x.n ∧ x.n ≤ 1000000 := by
 unfold nodeB primB at hB
 simp [k9, hs] at hB
 omega
theorem implWords (x : KNode) (hB : nodeB x = true) (hs : (x.s.size : Int) ≤ 1048576) (hl : (x.names.length : Int) ≤ 1048576) (hu : (strsU x.names : Int) ≤ 1048576) : A 144 [.agg (KNode.row false x)] = some ([.leaf (Kstrs true (headsP x))], [.gone]) := by
 have hJ := sJoin x.names (by omega) (by omega)
 have hj := joinS_le x.names
 refine run_impl_words ?_
 unfold headsP
 by_cases k6 : x.kind = 6
 ·simp (maxSteps := 1000000) (disch := omega) [ip, wr, impl_words.b, k6]
 ·by_cases k7 : x.kind = 7
  ·simp (maxSteps := 1000000) (disch := omega) [ip, wr, impl_words.b, k7, hJ]
  ·by_cases k10 : x.kind = 10
   ·simp (maxSteps := 1000000) (disch := omega) [ip, wr, impl_words.b, k10]
   ·by_cases k11 : x.kind = 11
    ·simp (maxSteps := 1000000) (disch := omega) [ip, wr, impl_words.b, k11]
    ·by_cases k9 : x.kind = 9
     ·by_cases hf : x.s = ⟨#[102, 105, 101, 108, 100]⟩
      ·have hn := field_in hB k9 hf
       have hD := implDec x.n (by omega) (by omega)
       simp (maxSteps := 1000000) (disch := omega) [ip, wr, impl_words.b, k9, hf, hD]
      ·simp (maxSteps := 1000000) (disch := omega) [ip, wr, impl_words.b, k9, hf]
     ·simp (maxSteps := 1000000) (disch := omega) [ip, wr, impl_words.b, k6, k7, k9, k10, k11]
/-- Where the walk of a right program's text stands. -/
structure TextAt (nodes : List KNode) : Prop where
 lt : ArgsLt nodes
 hB : ∀ x ∈ nodes, nodeB x = true
 n : (nodes.length : Int) ≤ 400
 hu : (KNode.us nodes : Int) ≤ 1048576
 sz : ∀ i : Nat, i < nodes.length → (sizeW wtP nodes i : Int) ≤ 10000000
theorem strsU_map_take {nodes : List KNode} (hT : TextAt nodes) {d i : Nat} {x : KNode} (hx : nodes[i]? = some x) (hd : i ≤ d) : ∀ l : List Int, (∀ a ∈ l, 0 ≤ a ∧ a < (i : Int)) → strsU (l.map (textF nodes d)) ≤ (l.map fun a => sizeW wtP nodes a.toNat).sum := by
 intro l
 induction l with
 | nil => intro _; simp [strsU]
 | cons a l ih =>
  intro hl
  have h1 := hl a (by simp)
  have h2 := textF_le hT.lt hT.hB d a.toNat (by omega)
  have h3 := ih (fun b hb => hl b (by simp [hb]))
  have e1 : ((a.toNat : Nat) : Int) = a := by omega
  rw [e1] at h2
  simp only [List.map_cons, strsU, List.sum_cons]
  omega
theorem foldl_snoc {α β : Type} (f : α → β) : ∀ (l : List α) (s : List β), l.foldl (fun s a => s ++ [f a]) s = s ++ l.map f
 | [], s => by simp
 | a :: l, s => by simp only [List.foldl_cons, foldl_snoc f l, List.map_cons, List.append_assoc, List.cons_append, List.nil_append]
theorem implNodeText {nodes : List KNode} (hT : TextAt nodes) : ∀ (d i : Nat), i < d → i < nodes.length → A 84 [.leaf (KNode.sl false nodes), .leaf (.int .i64 i)] = some ([.leaf (.str (textF nodes d i))], [.gone, .gone])
 | 0, i, h, _ => by omega
 | d + 1, i, h, hi => by
  have ih := implNodeText hT d
  have hx : nodes[i]? = some nodes[i] := List.getElem?_eq_getElem hi
  have hBx := hT.hB nodes[i] (List.getElem_mem hi)
  have hszi := hT.sz i hi
  generalize nodes[i] = x at hx hBx
  have hn := hT.n
  have hu := hT.hu
  have hux := nodes_us hx
  have hargs := hT.lt i x hx
  have hsz := sizeW_eq (wt := wtP) hT.lt hx
  simp only [KNode.w] at hux
  have e : textF nodes (d + 1) i = textX x (x.args.map (textF nodes d)) := by simp only [textF, Int.toNat_natCast, hx]
  rw [e]
  refine run_impl_nodeText ?_
  unfold textX
  by_cases k1 : x.kind = 1
  ·have hr := num_in hBx k1
   have hD := implDec x.n (by omega) (by omega)
   simp (maxSteps := 1000000) (disch := omega) [ip, wr, impl_nodeText.b, hx, at_get hx, k1, hD]
  ·by_cases k2 : x.kind = 2
   ·have hb := boolText (decide (x.n = 1))
    by_cases kn : x.n = 1
    ·rw [decide_eq_true kn] at hb
     simp (maxSteps := 1000000) (disch := omega) [ip, wr, impl_nodeText.b, hx, at_get hx, k2, kn, hb]
    ·rw [decide_eq_false kn] at hb
     simp (maxSteps := 1000000) (disch := omega) [ip, wr, impl_nodeText.b, hx, at_get hx, k2, kn, hb]
   ·by_cases k3 : x.kind = 3
    ·simp (maxSteps := 1000000) (disch := omega) [ip, wr, impl_nodeText.b, hx, at_get hx, k3]
    ·by_cases k4 : x.kind = 4
     ·simp (maxSteps := 1000000) (disch := omega) [ip, wr, impl_nodeText.b, hx, at_get hx, k4]
     ·by_cases k5 : x.kind = 5
      ·simp (maxSteps := 1000000) (disch := omega) [ip, wr, impl_nodeText.b, hx, at_get hx, k5]
      ·have hW := implWords x hBx (by omega) (by omega) (by omega)
       have hh := heads_le hBx
       rw [if_neg k1, if_neg k2, if_neg k3, if_neg k4, if_neg k5]
       generalize headsP x = H at *
       simp (maxSteps := 1000000) (disch := omega) [ip, wr, impl_nodeText.b, hx, at_get hx, k1, k2, k3, k4, k5, hW]
       refine at_fold (fun e j (s : List ByteArray) => (e.put 43 (.v (.leaf (.int .i64 j)))).put 6 (.v (.leaf (Kstrs true s)))) impl_nodeText.l0.eq_1 (fun s a => s ++ [textF nodes d a]) x.args H (by simp) ?_ (fun j a ha hj ih2 => ?_)
       ·rw [foldl_snoc]
        have k := strsU_map_take hT hx (Nat.le_of_lt_succ h) x.args hargs
        have hJ := sJoin (H ++ x.args.map (textF nodes d)) (by simp; omega) (by rw [strsU_append]; omega)
        have hj2 := joinS_le (H ++ x.args.map (textF nodes d))
        rw [strsU_append] at hj2
        simp only [List.length_append, List.length_map] at hj2
        generalize hM : H ++ x.args.map (textF nodes d) = M at *
        have hml : M.length = H.length + x.args.length := by rw [← hM]; simp
        simp (maxSteps := 1000000) (disch := omega) [ip, wr, hJ]
       ·have ham := hargs a (List.mem_of_getElem? ha)
        have e1 : a = ((a.toNat : Nat) : Int) := by omega
        have h4 := ih a.toNat (by omega) (by omega)
        rw [← e1] at h4
        rw [foldl_snoc] at ih2 ⊢
        have hml : (H ++ (x.args.take j).map (textF nodes d)).length = H.length + j := by simp; omega
        generalize H ++ (x.args.take j).map (textF nodes d) = M at *
        generalize textF nodes d a = t at *
        simp (maxSteps := 1000000) (disch := omega) [ip, wr, ha, at_get ha, h4]
        refine run_env ih2 ?_
        simp
theorem l23Words (l : List ByteArray) (hl : (l.length : Int) ≤ 100000000) (hu : (strsU l : Int) ≤ 100000000) : A 138 [.leaf (Kstrs false l)] = some ([.leaf (.str (joinS l))], [.gone]) := by
 refine run_spec_l23Words ?_
 simp (maxSteps := 1000000) (disch := omega) [ip, wr, spec_l23Words.b]
 have hf : ∀ l : List ByteArray, l.foldl (fun s x => s ++ [x]) [] = l := fun l => by have := foldl_snoc (fun x : ByteArray => x) l []; simpa using this
 refine at_fold (fun e j (s : List ByteArray) => (e.put 4 (.v (.leaf (.int .i64 j)))).put 3 (.v (.leaf (.str (joinS s))))) spec_l23Words.l0.eq_1 (fun s x => s ++ [x]) l [] (by simp [joinS_nil]) ?_ (fun j a ha hj ih => ?_)
 ·rw [hf]
  simp (maxSteps := 1000000) (disch := omega) [ip, wr, ]
 ·rw [hf] at ih ⊢
  have k1 := joinS_le (l.take j)
  have k2 := take_sum (fun x : ByteArray => x.size + 1) l j a ha
  rw [sum_strsU, sum_strsU] at k2
  simp only [List.length_take] at k1 k2
  by_cases j0 : j = 0
  ·subst j0
   simp only [List.take_zero, List.nil_append, joinS_one, joinS_nil] at ih ⊢
   simp (maxSteps := 1000000) (disch := omega) [ip, wr, ha, at_get ha]
   refine run_env ih ?_
   simp [nil_app]
  ·rw [joinS_snoc a (by intro h; have := congrArg List.length h; simp only [List.length_take, List.length_nil] at this; omega)] at ih
   generalize joinS (l.take j) = J at *
   simp (maxSteps := 1000000) (disch := omega) [ip, wr, ha, at_get ha, j0]
   refine run_env ih ?_
   simp
theorem l23Text {nodes : List KNode} (root : Int) (hT : TextAt nodes) : ∀ (d i : Nat), i < d → i < nodes.length → A 82 [.agg (KProg.row false ⟨nodes, root⟩), .leaf (.int .i64 i)] = some ([.leaf (.str (textF nodes d i))], [.gone, .gone])
 | 0, i, h, _ => by omega
 | d + 1, i, h, hi => by
  have ih := l23Text root hT d
  have hx : nodes[i]? = some nodes[i] := List.getElem?_eq_getElem hi
  have hBx := hT.hB nodes[i] (List.getElem_mem hi)
  have hszi := hT.sz i hi
  generalize nodes[i] = x at hx hBx
  have hn := hT.n
  have hu := hT.hu
  have hux := nodes_us hx
  have hargs := hT.lt i x hx
  have hsz := sizeW_eq (wt := wtP) hT.lt hx
  simp only [KNode.w] at hux
  have e : textF nodes (d + 1) i = textX x (x.args.map (textF nodes d)) := by simp only [textF, Int.toNat_natCast, hx]
  have hfold := strsU_map_take hT hx (Nat.le_of_lt_succ h) x.args hargs
  have hh := heads_le hBx
  rw [e]
  refine run_spec_l23Text ?_
  unfold textX
  by_cases k1 : x.kind = 1
  ·have hr := num_in hBx k1
   have hD := dec x.n (by omega) (by omega)
   simp (maxSteps := 1000000) (disch := omega) [ip, wr, spec_l23Text.b, hx, at_get hx, k1, hD]
  ·by_cases k2 : x.kind = 2
   ·by_cases kn : x.n = 1
    ·simp (maxSteps := 1000000) (disch := omega) [ip, wr, spec_l23Text.b, hx, at_get hx, k2, kn]
    ·simp (maxSteps := 1000000) (disch := omega) [ip, wr, spec_l23Text.b, hx, at_get hx, k2, kn]
   ·by_cases k3 : x.kind = 3
    ·simp (maxSteps := 1000000) (disch := omega) [ip, wr, spec_l23Text.b, hx, at_get hx, k3]
    ·by_cases k4 : x.kind = 4
     ·simp (maxSteps := 1000000) (disch := omega) [ip, wr, spec_l23Text.b, hx, at_get hx, k4]
     ·by_cases k5 : x.kind = 5
      ·simp (maxSteps := 1000000) (disch := omega) [ip, wr, spec_l23Text.b, hx, at_get hx, k5]
      ·have hW := l23Words x.names (by omega) (by omega)
       have hjn := joinS_le x.names
       have cases : (x.kind = 6 ∧ headsP x = [⟨#[105, 102]⟩]) ∨ (x.kind = 7 ∧ headsP x = [⟨#[108, 97, 109, 98, 100, 97]⟩, ⟨#[40]⟩ ++ joinS x.names ++ ⟨#[41]⟩]) ∨ (x.kind = 10 ∧ headsP x = [⟨#[115, 101, 116, 33]⟩, x.s]) ∨ (x.kind = 11 ∧ headsP x = [⟨#[98, 101, 103, 105, 110]⟩]) ∨ (x.kind = 9 ∧ x.s = ⟨#[102, 105, 101, 108, 100]⟩ ∧ headsP x = x.s :: (x.names ++ [str (itoa x.n)])) ∨ (x.kind = 9 ∧ ¬ x.s = ⟨#[102, 105, 101, 108, 100]⟩ ∧ headsP x = x.s :: x.names) ∨ ((¬ x.kind = 6 ∧ ¬ x.kind = 7 ∧ ¬ x.kind = 10 ∧ ¬ x.kind = 11 ∧ ¬ x.kind = 9) ∧ headsP x = []) := by
        unfold headsP
        by_cases k6 : x.kind = 6
        ·simp [k6]
        ·by_cases k7 : x.kind = 7
         ·simp [k7]
         ·by_cases k10 : x.kind = 10
          ·simp [k10]
          ·by_cases k11 : x.kind = 11
           ·simp [k11]
           ·by_cases k9 : x.kind = 9
            ·by_cases hs : x.s = ⟨#[102, 105, 101, 108, 100]⟩
             ·simp [k9, hs]
             ·simp [k9, hs]
            ·simp [k6, k7, k9, k10, k11]
       have hD : x.kind = 9 → x.s = ⟨#[102, 105, 101, 108, 100]⟩ → A 137 [.leaf (.int .i64 x.n)] = some ([.leaf (.str (str (itoa x.n)))], [.gone]) := fun k9 hs => by
        have hr := field_in hBx k9 hs
        exact dec x.n (by omega) (by omega)
       rw [if_neg k1, if_neg k2, if_neg k3, if_neg k4, if_neg k5]
       generalize hH : headsP x = H at *
       rcases cases with ⟨c, g⟩ | ⟨c, g⟩ | ⟨c, g⟩ | ⟨c, g⟩ | ⟨c, c2, g⟩ | ⟨c, c2, g⟩ | ⟨⟨c6, c7, c10, c11, c9⟩, g⟩
       ·simp (maxSteps := 1000000) (disch := omega) [ip, wr, spec_l23Text.b, hx, at_get hx, c]
        refine at_fold (fun e j (s : List ByteArray) => (e.put 7 (.v (.leaf (.int .i64 j)))).put 6 (.v (.leaf (Kstrs true s)))) spec_l23Text.l0.eq_1 (fun s a => s ++ [textF nodes d a]) x.args H (by rw [g]; simp) ?_ (fun j a ha hj ih2 => ?_)
        ·rw [foldl_snoc]
         have hJ := l23Words (H ++ x.args.map (textF nodes d)) (by simp; omega) (by rw [strsU_append]; omega)
         have hj2 := joinS_le (H ++ x.args.map (textF nodes d))
         rw [strsU_append] at hj2
         simp only [List.length_append, List.length_map] at hj2
         generalize hM : H ++ x.args.map (textF nodes d) = M at *
         have hml : M.length = H.length + x.args.length := by rw [← hM]; simp
         simp (maxSteps := 1000000) (disch := omega) [ip, wr, hJ]
        ·have ham := hargs a (List.mem_of_getElem? ha)
         have e1 : a = ((a.toNat : Nat) : Int) := by omega
         have h4 := ih a.toNat (by omega) (by omega)
         rw [← e1] at h4
         rw [foldl_snoc] at ih2 ⊢
         have hml : (H ++ (x.args.take j).map (textF nodes d)).length = H.length + j := by simp; omega
         generalize H ++ (x.args.take j).map (textF nodes d) = M at *
         generalize textF nodes d a = t at *
         simp (maxSteps := 1000000) (disch := omega) [ip, wr, ha, at_get ha, h4]
         refine run_env ih2 ?_
         simp
       ·simp (maxSteps := 1000000) (disch := omega) [ip, wr, spec_l23Text.b, hx, at_get hx, c, hW]
        refine at_fold (fun e j (s : List ByteArray) => (e.put 7 (.v (.leaf (.int .i64 j)))).put 6 (.v (.leaf (Kstrs true s)))) spec_l23Text.l0.eq_1 (fun s a => s ++ [textF nodes d a]) x.args H (by rw [g]; simp) ?_ (fun j a ha hj ih2 => ?_)
        ·rw [foldl_snoc]
         have hJ := l23Words (H ++ x.args.map (textF nodes d)) (by simp; omega) (by rw [strsU_append]; omega)
         have hj2 := joinS_le (H ++ x.args.map (textF nodes d))
         rw [strsU_append] at hj2
         simp only [List.length_append, List.length_map] at hj2
         generalize hM : H ++ x.args.map (textF nodes d) = M at *
         have hml : M.length = H.length + x.args.length := by rw [← hM]; simp
         simp (maxSteps := 1000000) (disch := omega) [ip, wr, hJ]
        ·have ham := hargs a (List.mem_of_getElem? ha)
         have e1 : a = ((a.toNat : Nat) : Int) := by omega
         have h4 := ih a.toNat (by omega) (by omega)
         rw [← e1] at h4
         rw [foldl_snoc] at ih2 ⊢
         have hml : (H ++ (x.args.take j).map (textF nodes d)).length = H.length + j := by simp; omega
         generalize H ++ (x.args.take j).map (textF nodes d) = M at *
         generalize textF nodes d a = t at *
         simp (maxSteps := 1000000) (disch := omega) [ip, wr, ha, at_get ha, h4]
         refine run_env ih2 ?_
         simp
       ·simp (maxSteps := 1000000) (disch := omega) [ip, wr, spec_l23Text.b, hx, at_get hx, c]
        refine at_fold (fun e j (s : List ByteArray) => (e.put 7 (.v (.leaf (.int .i64 j)))).put 6 (.v (.leaf (Kstrs true s)))) spec_l23Text.l0.eq_1 (fun s a => s ++ [textF nodes d a]) x.args H (by rw [g]; simp) ?_ (fun j a ha hj ih2 => ?_)
        ·rw [foldl_snoc]
         have hJ := l23Words (H ++ x.args.map (textF nodes d)) (by simp; omega) (by rw [strsU_append]; omega)
         have hj2 := joinS_le (H ++ x.args.map (textF nodes d))
         rw [strsU_append] at hj2
         simp only [List.length_append, List.length_map] at hj2
         generalize hM : H ++ x.args.map (textF nodes d) = M at *
         have hml : M.length = H.length + x.args.length := by rw [← hM]; simp
         simp (maxSteps := 1000000) (disch := omega) [ip, wr, hJ]
        ·have ham := hargs a (List.mem_of_getElem? ha)
         have e1 : a = ((a.toNat : Nat) : Int) := by omega
         have h4 := ih a.toNat (by omega) (by omega)
         rw [← e1] at h4
         rw [foldl_snoc] at ih2 ⊢
         have hml : (H ++ (x.args.take j).map (textF nodes d)).length = H.length + j := by simp; omega
         generalize H ++ (x.args.take j).map (textF nodes d) = M at *
         generalize textF nodes d a = t at *
         simp (maxSteps := 1000000) (disch := omega) [ip, wr, ha, at_get ha, h4]
         refine run_env ih2 ?_
         simp
       ·simp (maxSteps := 1000000) (disch := omega) [ip, wr, spec_l23Text.b, hx, at_get hx, c]
        refine at_fold (fun e j (s : List ByteArray) => (e.put 7 (.v (.leaf (.int .i64 j)))).put 6 (.v (.leaf (Kstrs true s)))) spec_l23Text.l0.eq_1 (fun s a => s ++ [textF nodes d a]) x.args H (by rw [g]; simp) ?_ (fun j a ha hj ih2 => ?_)
        ·rw [foldl_snoc]
         have hJ := l23Words (H ++ x.args.map (textF nodes d)) (by simp; omega) (by rw [strsU_append]; omega)
         have hj2 := joinS_le (H ++ x.args.map (textF nodes d))
         rw [strsU_append] at hj2
         simp only [List.length_append, List.length_map] at hj2
         generalize hM : H ++ x.args.map (textF nodes d) = M at *
         have hml : M.length = H.length + x.args.length := by rw [← hM]; simp
         simp (maxSteps := 1000000) (disch := omega) [ip, wr, hJ]
        ·have ham := hargs a (List.mem_of_getElem? ha)
         have e1 : a = ((a.toNat : Nat) : Int) := by omega
         have h4 := ih a.toNat (by omega) (by omega)
         rw [← e1] at h4
         rw [foldl_snoc] at ih2 ⊢
         have hml : (H ++ (x.args.take j).map (textF nodes d)).length = H.length + j := by simp; omega
         generalize H ++ (x.args.take j).map (textF nodes d) = M at *
         generalize textF nodes d a = t at *
         simp (maxSteps := 1000000) (disch := omega) [ip, wr, ha, at_get ha, h4]
         refine run_env ih2 ?_
         simp
       ·have hD := hD c c2
        simp (maxSteps := 1000000) (disch := omega) [ip, wr, spec_l23Text.b, hx, at_get hx, c, c2, hD]
        refine at_fold (fun e j (s : List ByteArray) => (e.put 7 (.v (.leaf (.int .i64 j)))).put 6 (.v (.leaf (Kstrs true s)))) spec_l23Text.l0.eq_1 (fun s a => s ++ [textF nodes d a]) x.args H (by rw [g]; simp [c2]) ?_ (fun j a ha hj ih2 => ?_)
        ·rw [foldl_snoc]
         have hJ := l23Words (H ++ x.args.map (textF nodes d)) (by simp; omega) (by rw [strsU_append]; omega)
         have hj2 := joinS_le (H ++ x.args.map (textF nodes d))
         rw [strsU_append] at hj2
         simp only [List.length_append, List.length_map] at hj2
         generalize hM : H ++ x.args.map (textF nodes d) = M at *
         have hml : M.length = H.length + x.args.length := by rw [← hM]; simp
         simp (maxSteps := 1000000) (disch := omega) [ip, wr, hJ]
        ·have ham := hargs a (List.mem_of_getElem? ha)
         have e1 : a = ((a.toNat : Nat) : Int) := by omega
         have h4 := ih a.toNat (by omega) (by omega)
         rw [← e1] at h4
         rw [foldl_snoc] at ih2 ⊢
         have hml : (H ++ (x.args.take j).map (textF nodes d)).length = H.length + j := by simp; omega
         generalize H ++ (x.args.take j).map (textF nodes d) = M at *
         generalize textF nodes d a = t at *
         simp (maxSteps := 1000000) (disch := omega) [ip, wr, ha, at_get ha, h4]
         refine run_env ih2 ?_
         simp
       ·simp (maxSteps := 1000000) (disch := omega) [ip, wr, spec_l23Text.b, hx, at_get hx, c, c2]
        refine at_fold (fun e j (s : List ByteArray) => (e.put 7 (.v (.leaf (.int .i64 j)))).put 6 (.v (.leaf (Kstrs true s)))) spec_l23Text.l0.eq_1 (fun s a => s ++ [textF nodes d a]) x.args H (by rw [g]; simp) ?_ (fun j a ha hj ih2 => ?_)
        ·rw [foldl_snoc]
         have hJ := l23Words (H ++ x.args.map (textF nodes d)) (by simp; omega) (by rw [strsU_append]; omega)
         have hj2 := joinS_le (H ++ x.args.map (textF nodes d))
         rw [strsU_append] at hj2
         simp only [List.length_append, List.length_map] at hj2
         generalize hM : H ++ x.args.map (textF nodes d) = M at *
         have hml : M.length = H.length + x.args.length := by rw [← hM]; simp
         simp (maxSteps := 1000000) (disch := omega) [ip, wr, hJ]
        ·have ham := hargs a (List.mem_of_getElem? ha)
         have e1 : a = ((a.toNat : Nat) : Int) := by omega
         have h4 := ih a.toNat (by omega) (by omega)
         rw [← e1] at h4
         rw [foldl_snoc] at ih2 ⊢
         have hml : (H ++ (x.args.take j).map (textF nodes d)).length = H.length + j := by simp; omega
         generalize H ++ (x.args.take j).map (textF nodes d) = M at *
         generalize textF nodes d a = t at *
         simp (maxSteps := 1000000) (disch := omega) [ip, wr, ha, at_get ha, h4]
         refine run_env ih2 ?_
         simp
       ·simp (maxSteps := 1000000) (disch := omega) [ip, wr, spec_l23Text.b, hx, at_get hx, k1, k2, k3, k4, k5, c6, c7, c9, c10, c11]
        refine at_fold (fun e j (s : List ByteArray) => (e.put 7 (.v (.leaf (.int .i64 j)))).put 6 (.v (.leaf (Kstrs true s)))) spec_l23Text.l0.eq_1 (fun s a => s ++ [textF nodes d a]) x.args H (by rw [g]; simp) ?_ (fun j a ha hj ih2 => ?_)
        ·rw [foldl_snoc]
         have hJ := l23Words (H ++ x.args.map (textF nodes d)) (by simp; omega) (by rw [strsU_append]; omega)
         have hj2 := joinS_le (H ++ x.args.map (textF nodes d))
         rw [strsU_append] at hj2
         simp only [List.length_append, List.length_map] at hj2
         generalize hM : H ++ x.args.map (textF nodes d) = M at *
         have hml : M.length = H.length + x.args.length := by rw [← hM]; simp
         simp (maxSteps := 1000000) (disch := omega) [ip, wr, hJ]
        ·have ham := hargs a (List.mem_of_getElem? ha)
         have e1 : a = ((a.toNat : Nat) : Int) := by omega
         have h4 := ih a.toNat (by omega) (by omega)
         rw [← e1] at h4
         rw [foldl_snoc] at ih2 ⊢
         have hml : (H ++ (x.args.take j).map (textF nodes d)).length = H.length + j := by simp; omega
         generalize H ++ (x.args.take j).map (textF nodes d) = M at *
         generalize textF nodes d a = t at *
         simp (maxSteps := 1000000) (disch := omega) [ip, wr, ha, at_get ha, h4]
         refine run_env ih2 ?_
         simp
def hidT : ByteArray := ⟨#[37, 116]⟩
/-- Does a node have the name that cannot be read? -/
noncomputable def hidB (x : KNode) : Bool := decide (x.s = ⟨#[37, 116]⟩) || decide ((⟨#[37, 116]⟩ : ByteArray) ∈ x.names)
noncomputable def hidAll (l : List KNode) : Bool := decide (0 ≤ findB hidB l 0)
theorem hidden1 (x : KNode) (hl : (x.names.length : Int) ≤ 1048576) : A 140 [.agg (KNode.row false x)] = some ([.leaf (.bool (hidB x))], [.gone]) := by
 have hC := sContains x.names ⟨#[37, 116]⟩ hl
 refine run_impl_hasHidden_1 ?_
 unfold hidB
 by_cases h : x.s = ⟨#[37, 116]⟩
 ·simp (maxSteps := 1000000) (disch := omega) [ip, wr, impl_hasHidden_1.b, h]
 ·by_cases m : (⟨#[37, 116]⟩ : ByteArray) ∈ x.names
  ·rw [decide_eq_true m] at hC
   simp (maxSteps := 1000000) (disch := omega) [ip, wr, impl_hasHidden_1.b, h, hC, m]
  ·rw [decide_eq_false m] at hC
   simp (maxSteps := 1000000) (disch := omega) [ip, wr, impl_hasHidden_1.b, h, hC, m]
theorem hidIndex (l : List KNode) (hl : (l.length : Int) ≤ 1048576) (hu : (KNode.us l : Int) ≤ 1048576) : A 186 [.leaf (KNode.sl false l), .leaf (.fn 140 [])] = some ([.leaf (.int .i64 (findB hidB l 0))], [.gone, .gone]) := by
 refine run_slices_IndexFunc_impl_Node_impl_Node ?_
 simp (maxSteps := 1000000) (disch := omega) [ip, wr, slices_IndexFunc_impl_Node_impl_Node.b]
 refine at_find 8 slices_IndexFunc_impl_Node_impl_Node.l0.eq_1 hidB l (by simp) (fun g _ => ?_) (fun i x hx hi hp ih => ?_) (fun i x hx hi hp g => ?_)
 ·simp (maxSteps := 1000000) (disch := omega) [ip, wr, g]
 ·have hux := nodes_us hx
  simp only [KNode.w] at hux
  have h1 := hidden1 x (by omega)
  rw [hp] at h1
  simp (maxSteps := 1000000) (disch := omega) [ip, wr, hx, at_get hx, h1]
  refine run_env ih ?_
  simp
 ·have hux := nodes_us hx
  simp only [KNode.w] at hux
  have h1 := hidden1 x (by omega)
  rw [hp] at h1
  simp (maxSteps := 1000000) (disch := omega) [ip, wr, hx, at_get hx, h1, g]
theorem implHidden (p : KProg) (hl : (p.nodes.length : Int) ≤ 1048576) (hu : (KNode.us p.nodes : Int) ≤ 1048576) : A 83 [.box (KProg.row false p)] = some ([.leaf (.bool (hidAll p.nodes))], [.box (KProg.row false p)]) := by
 have h1 := hidIndex p.nodes hl hu
 have h2 : A 139 [.leaf (KNode.sl false p.nodes), .leaf (.fn 140 [])] = some ([.leaf (.bool (hidAll p.nodes))], [.gone, .gone]) := by
  refine run_slices_ContainsFunc_impl_Node_impl_Node ?_
  unfold hidAll
  simp (maxSteps := 1000000) (disch := omega) [ip, wr, slices_ContainsFunc_impl_Node_impl_Node.b, h1]
 refine run_impl_hasHidden ?_
 generalize hidAll p.nodes = b at *
 simp (maxSteps := 1000000) (disch := omega) [ip, wr, impl_hasHidden.b, h2]
theorem specHidden (p : KProg) (hl : (p.nodes.length : Int) ≤ 1048576) (hu : (KNode.us p.nodes : Int) ≤ 1048576) : A 81 [.agg (KProg.row false p)] = some ([.leaf (.bool (hidAll p.nodes))], [.gone]) := by
 obtain ⟨nodes, root⟩ := p
 simp only at hl hu ⊢
 refine run_spec_l23Hidden ?_
 unfold hidAll
 simp (maxSteps := 1000000) (disch := omega) [ip, wr, spec_l23Hidden.b]
 refine at_find 3 spec_l23Hidden.l0.eq_1 hidB nodes (by simp) (fun g _ => ?_) (fun i x hx hi hp ih => ?_) (fun i x hx hi hp g => ?_)
 ·simp (maxSteps := 1000000) (disch := omega) [ip, wr, g]
 ·have hux := nodes_us hx
  simp only [KNode.w] at hux
  have hC := l3In ⟨#[37, 116]⟩ x.names (by omega)
  unfold hidB at hp
  simp only [Bool.or_eq_false_iff, decide_eq_false_iff_not] at hp
  rw [decide_eq_false hp.2] at hC
  simp (maxSteps := 1000000) (disch := omega) [ip, wr, hx, at_get hx, hp.1, hC]
  refine run_env ih ?_
  simp
 ·have hux := nodes_us hx
  simp only [KNode.w] at hux
  have hC := l3In ⟨#[37, 116]⟩ x.names (by omega)
  unfold hidB at hp
  simp only [Bool.or_eq_true, decide_eq_true_eq] at hp
  rw [g]
  by_cases h : x.s = ⟨#[37, 116]⟩
  ·simp (maxSteps := 1000000) (disch := omega) [ip, wr, hx, at_get hx, h]
  ·have m := hp.resolve_left h
   rw [decide_eq_true m] at hC
   simp (maxSteps := 1000000) (disch := omega) [ip, wr, hx, at_get hx, h, hC]
/-- Can it be printed? -/
noncomputable def canB (p : KProg) : Bool := progB p && !hidAll p.nodes
noncomputable def printB (p : KProg) : ByteArray := if canB p = true then textF p.nodes p.nodes.length p.root else ⟨#[]⟩
theorem sum_wtP : ∀ l : List KNode, (l.map wtP).sum = 100 * l.length + 2 * KNode.us l
 | [] => rfl
 | x :: l => by
  have := sum_wtP l
  simp only [List.map_cons, List.sum_cons, List.length_cons, KNode.us, this, wtP]
  omega
theorem progB_len {p : KProg} (h : progB p = true) : (p.nodes.length : Int) ≤ 400 := by
 unfold progB at h
 simp only [Bool.and_eq_true] at h
 have := h.1
 unfold within at this
 simp at this
 omega
theorem textAt_of {p : KProg} (h : progB p = true) (hu : (KNode.us p.nodes : Int) ≤ 1048576) : TextAt p.nodes := by
 have hl := progB_len h
 refine ⟨argsLt_of h, nodeB_of h, hl, hu, fun i hi => ?_⟩
 have h1 := weigh_le wtP h hi
 have h2 := pre_sum wtP p.nodes (i + 1)
 rw [sum_wtP] at h2
 omega
theorem root_of {p : KProg} (h : progB p = true) : p.root.toNat < p.nodes.length ∧ ((p.root.toNat : Nat) : Int) = p.root := by
 obtain ⟨hok, hroot, hpos⟩ := progB_ok h
 omega
theorem implPrint (p : KProg) (hw : (KProg.w p : Int) ≤ 1048576) : A 29 [.agg (KProg.row false p)] = some ([.leaf (.str (printB p)), .leaf (.bool (canB p))], [.gone]) := by
 have hP := implProgOk p hw
 simp only [KProg.w] at hw
 have hH := implHidden p (by omega) (by omega)
 refine run_impl_Print ?_
 unfold printB canB
 cases hk : progB p with
 | false =>
  rw [hk] at hP
  simp (maxSteps := 1000000) (disch := omega) [ip, wr, impl_Print.b, hP]
 | true =>
  rw [hk] at hP
  have hT := textAt_of hk (by omega)
  obtain ⟨hi, he⟩ := root_of hk
  have h2 := implNodeText hT p.nodes.length p.root.toNat hi hi
  rw [he] at h2
  cases hh : hidAll p.nodes with
  | true =>
   rw [hh] at hH
   simp (maxSteps := 1000000) (disch := omega) [ip, wr, impl_Print.b, hP, hH]
  | false =>
   rw [hh] at hH
   obtain ⟨nodes, root⟩ := p
   simp only at h2 ⊢
   generalize textF nodes nodes.length root = t at *
   simp (maxSteps := 1000000) (disch := omega) [ip, wr, impl_Print.b, hP, hH, h2]
theorem specPrint (p : KProg) (hw : (KProg.w p : Int) ≤ 1048576) : A 28 [.agg (KProg.row false p)] = some ([.leaf (.str (printB p)), .leaf (.bool (canB p))], [.gone]) := by
 have hP := specProgOk p hw
 simp only [KProg.w] at hw
 have hH := specHidden p (by omega) (by omega)
 refine run_spec_Print ?_
 unfold printB canB
 cases hk : progB p with
 | false =>
  rw [hk] at hP
  simp (maxSteps := 1000000) (disch := omega) [ip, wr, spec_Print.b, hP]
 | true =>
  rw [hk] at hP
  have hT := textAt_of hk (by omega)
  obtain ⟨hi, he⟩ := root_of hk
  have h2 := l23Text p.root hT p.nodes.length p.root.toNat hi hi
  rw [he] at h2
  cases hh : hidAll p.nodes with
  | true =>
   rw [hh] at hH
   simp (maxSteps := 1000000) (disch := omega) [ip, wr, spec_Print.b, hP, hH]
  | false =>
   rw [hh] at hH
   obtain ⟨nodes, root⟩ := p
   simp only at h2 ⊢
   generalize textF nodes nodes.length root = t at *
   simp (maxSteps := 1000000) (disch := omega) [ip, wr, spec_Print.b, hP, hH, h2]
end Go.Proofs.YticecjjfbjnaaaaGreatDoor.PR
