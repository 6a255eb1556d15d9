/- A right program is a tree: how many nodes lie below one. -/
import Derived.Test.YthkfnfppihgejaaGreatDoorLNProgA
namespace Go.Proofs.YthkfnfppihgejaaGreatDoor.LN
open Go Go.VS Go.Lib
set_option maxRecDepth 10000
set_option maxHeartbeats 8000000
set_option linter.unusedSimpArgs false
set_option linter.unusedVariables false
theorem bump_ne (m : List Int) (a : Int) (j : Nat) (h : a.toNat ≠ j) : (bump m a).getD j 0 = m.getD j 0 := by
 unfold bump
 simp only [List.getD_eq_getElem?_getD]
 rw [List.getElem?_set_ne h]
theorem bump_at (m : List Int) (a : Int) (h : a.toNat < m.length) : (bump m a).getD a.toNat 0 = m.getD a.toNat 0 + 1 := by
 unfold bump
 simp only [List.getD_eq_getElem?_getD]
 rw [List.getElem?_set_self h]
 simp
theorem countArgs_ge (i : Int) (j : Nat) : ∀ (l m m' : List Int), countArgs i m l = some m' → i ≤ m.length → m.getD j 0 ≤ m'.getD j 0
 | [], m, m', h, _ => by simp only [countArgs, Option.some.injEq] at h; rw [h]; exact Int.le_refl _
 | a :: l, m, m', h, hi => by
  simp only [countArgs] at h
  split at h
  ·rename_i ha
   have h1 := countArgs_ge i j l _ _ h (by rw [bump_length]; exact hi)
   by_cases e : a.toNat = j
   ·subst e
    rw [bump_at m a (by omega)] at h1
    omega
   ·rw [bump_ne m a j e] at h1
    exact h1
  ·cases h
theorem countNodes_ge (j : Nat) : ∀ (l : List KNode) (i : Int) (m m' : List Int), countNodes i m l = some m' → i + l.length ≤ m.length → m.getD j 0 ≤ m'.getD j 0
 | [], i, m, m', h, _ => by simp only [countNodes, Option.some.injEq] at h; rw [h]; exact Int.le_refl _
 | x :: l, i, m, m', h, hi => by
  simp only [List.length_cons] at hi
  simp only [countNodes] at h
  split at h
  ·split at h
   ·rename_i m1 h1
    have h2 := countArgs_ge i j _ _ _ h1 (by omega)
    have h3 := countNodes_ge j l (i + 1) m1 m' h (by rw [countArgs_length _ _ _ _ h1]; omega)
    omega
   ·cases h
  ·cases h
/-- What lies below the nodes that no node has taken yet. -/
def phi (s : Nat → Nat) (m : List Int) : Nat → Nat
 | 0 => 0
 | k + 1 => phi s m k + (if m.getD k 0 = 0 then s k else 0)
theorem phi_bump (s : Nat → Nat) (m : List Int) (a : Int) (ha : a.toNat < m.length) (h0 : m.getD a.toNat 0 = 0) : ∀ k, phi s (bump m a) k + (if a.toNat < k then s a.toNat else 0) = phi s m k
 | 0 => by simp [phi]
 | k + 1 => by
  have ih := phi_bump s m a ha h0 k
  simp only [phi]
  by_cases e : a.toNat = k
  ·subst e
   rw [if_neg (by omega)] at ih
   rw [bump_at m a ha, h0, if_neg (by omega), if_pos (by omega), if_pos rfl]
   omega
  ·rw [bump_ne m a k e]
   by_cases hlt : a.toNat < k
   ·rw [if_pos hlt] at ih
    rw [if_pos (show a.toNat < k + 1 by omega)]
    omega
   ·rw [if_neg hlt] at ih
    rw [if_neg (show ¬ a.toNat < k + 1 by omega)]
    omega
theorem phi_args (s : Nat → Nat) (i : Int) : ∀ (l m m' : List Int), countArgs i m l = some m' → i ≤ m.length → (∀ j, 0 ≤ m.getD j 0) → (∀ j, m'.getD j 0 ≤ 1) → ∀ k : Nat, i ≤ k → phi s m' k + (l.map fun a => s a.toNat).sum = phi s m k
 | [], m, m', h, _, _, _, k, _ => by simp only [countArgs, Option.some.injEq] at h; subst h; simp
 | a :: l, m, m', h, hi, h0, h1, k, hk => by
  simp only [countArgs] at h
  split at h
  ·rename_i ha
   have hal : a.toNat < m.length := by omega
   have e1 := countArgs_ge i a.toNat l _ _ h (by rw [bump_length]; exact hi)
   rw [bump_at m a hal] at e1
   have e2 := h1 a.toNat
   have e3 := h0 a.toNat
   have e4 : m.getD a.toNat 0 = 0 := by omega
   have ih := phi_args s i l (bump m a) m' h (by rw [bump_length]; exact hi) (fun j => by
    by_cases e : a.toNat = j
    ·subst e; rw [bump_at m a hal]; omega
    ·rw [bump_ne m a j e]; exact h0 j) h1 k hk
   have e5 := phi_bump s m a hal e4 k
   rw [if_pos (show a.toNat < k by omega)] at e5
   simp only [List.map_cons, List.sum_cons]
   omega
  ·cases h
def pre (wt : Nat → Nat) : Nat → Nat
 | 0 => 0
 | k + 1 => pre wt k + wt k
theorem phi_nodes (wt s : Nat → Nat) (nodes : List KNode) (hs : ∀ (k : Nat) x, nodes[k]? = some x → (∀ a ∈ x.args, 0 ≤ a ∧ a < (k : Int)) → s k = wt k + (x.args.map fun a => s a.toNat).sum) : ∀ (rest done : List KNode) (m mf : List Int), nodes = done ++ rest → countNodes done.length m rest = some mf → phi s m done.length = pre wt done.length → (∀ j, 0 ≤ m.getD j 0) → (∀ j : Nat, done.length ≤ j → m.getD j 0 = 0) → (∀ j, mf.getD j 0 ≤ 1) → m.length = nodes.length → ArgsOk done.length rest → ∀ k : Nat, done.length ≤ k → k < nodes.length → s k ≤ pre wt (k + 1)
 | [], done, m, mf, hd, _, _, _, _, _, _, _, k, hk1, hk2 => by rw [hd] at hk2; simp at hk2; omega
 | x :: rest, done, m, mf, hd, hc, hp, h0, hz, h1, hl, hok, k, hk1, hk2 => by
  have hnl : nodes.length = done.length + (rest.length + 1) := by rw [hd]; simp
  have hx : nodes[done.length]? = some x := by rw [hd, List.getElem?_append_right (Nat.le_refl _), Nat.sub_self]; rfl
  simp only [countNodes] at hc
  split at hc
  ·split at hc
   ·rename_i m1 hm1
    have hl1 := countArgs_length _ _ _ _ hm1
    have hge : ∀ j, m1.getD j 0 ≤ mf.getD j 0 := fun j => countNodes_ge j rest _ m1 mf hc (by rw [hl1]; omega)
    have e1 := phi_args s done.length x.args m m1 hm1 (by omega) h0 (fun j => Int.le_trans (hge j) (h1 j)) done.length (Int.le_refl _)
    have e2 := countArgs_above done.length done.length (Int.le_refl _) _ _ _ hm1
    have e3 : phi s m1 (done.length + 1) = pre wt (done.length + 1) := by
     simp only [phi, pre]
     rw [e2, hz done.length (Nat.le_refl _), if_pos rfl, hs done.length x hx hok.1]
     omega
    by_cases hk : k = done.length
    ·subst hk
     have e4 : s done.length ≤ phi s m1 (done.length + 1) := by
      simp only [phi]
      rw [e2, hz done.length (Nat.le_refl _), if_pos rfl]
      omega
     omega
    ·refine phi_nodes wt s nodes hs rest (done ++ [x]) m1 mf (by rw [hd]; simp) (by simpa using hc) (by simpa using e3) (fun j => Int.le_trans (h0 j) (countArgs_ge _ j _ _ _ hm1 (by omega))) (fun j hj => ?_) h1 (by rw [hl1]; exact hl) (by simpa using hok.2) k (by simp; omega) hk2
     simp at hj
     rw [countArgs_above done.length j (by omega) _ _ _ hm1]
     exact hz j (by omega)
   ·cases hc
  ·cases hc
/-- What the nodes weigh that a walk from a node meets. -/
def sizeF (wt : KNode → Nat) (nodes : List KNode) : Nat → Nat → Nat
 | 0, _ => 0
 | d + 1, i => match nodes[i]? with
  | none => 0
  | some x => wt x + (x.args.map fun a => sizeF wt nodes d a.toNat).sum
def ArgsLt (nodes : List KNode) : Prop := ∀ (k : Nat) x, nodes[k]? = some x → ∀ a ∈ x.args, 0 ≤ a ∧ a < (k : Int)
theorem sizeF_mono {wt : KNode → Nat} {nodes : List KNode} (h : ArgsLt nodes) : ∀ (d d' i : Nat), i < d → i < d' → sizeF wt nodes d i = sizeF wt nodes d' i
 | 0, d', i, h1, _ => by omega
 | d + 1, 0, i, _, h2 => by omega
 | d + 1, d' + 1, i, h1, h2 => by
  simp only [sizeF]
  cases hx : nodes[i]? with
  | none => rfl
  | some x =>
   simp only
   have : ∀ l : List Int, (∀ a ∈ l, 0 ≤ a ∧ a < (i : Int)) → (l.map fun a => sizeF wt nodes d a.toNat) = l.map fun a => sizeF wt nodes d' a.toNat := by
    intro l hl
    refine List.map_congr_left fun a ha => sizeF_mono h d d' a.toNat ?_ ?_
    ·have := hl a ha; omega
    ·have := hl a ha; omega
   rw [this x.args (h i x hx)]
/-- What weigh the nodes at and below a node; how many they are. -/
def sizeW (wt : KNode → Nat) (nodes : List KNode) (i : Nat) : Nat := sizeF wt nodes (i + 1) i
abbrev sizeN (nodes : List KNode) (i : Nat) : Nat := sizeW (fun _ => 1) nodes i
theorem sizeW_eq {wt : KNode → Nat} {nodes : List KNode} (h : ArgsLt nodes) {k : Nat} {x : KNode} (hx : nodes[k]? = some x) : sizeW wt nodes k = wt x + (x.args.map fun a => sizeW wt nodes a.toNat).sum := by
 unfold sizeW
 rw [sizeF, hx]
 simp only
 have : (x.args.map fun a => sizeF wt nodes k a.toNat) = x.args.map fun a => sizeF wt nodes (a.toNat + 1) a.toNat := by
  refine List.map_congr_left fun a ha => sizeF_mono h k (a.toNat + 1) a.toNat ?_ (by omega)
  have := h k x hx a ha
  omega
 rw [this]
theorem sizeN_eq {nodes : List KNode} (h : ArgsLt nodes) {k : Nat} {x : KNode} (hx : nodes[k]? = some x) : sizeN nodes k = 1 + (x.args.map fun a => sizeN nodes a.toNat).sum := sizeW_eq h hx
theorem argsOk_get : ∀ (l : List KNode) (i : Int), ArgsOk i l → ∀ (k : Nat) x, l[k]? = some x → ∀ a ∈ x.args, 0 ≤ a ∧ a < i + (k : Int)
 | [], i, _, k, x, hx, _, _ => by simp at hx
 | y :: l, i, h, 0, x, hx, a, ha => by simp at hx; subst hx; simpa using h.1 a ha
 | y :: l, i, h, k + 1, x, hx, a, ha => by
  have := argsOk_get l (i + 1) h.2 k x (by simpa using hx) a ha
  omega
theorem argsLt_of {p : KProg} (h : progB p = true) : ArgsLt p.nodes := by
 obtain ⟨hok, _, _⟩ := progB_ok h
 intro k x hx a ha
 have := argsOk_get _ _ hok k x hx a ha
 simpa using this
theorem nodesB_of : ∀ (l : List KNode) (i : Int) (m mf : List Int), countNodes i m l = some mf → ∀ x ∈ l, nodeB x = true
 | [], _, _, _, _, x, hx => by cases hx
 | y :: l, i, m, mf, h, x, hx => by
  simp only [countNodes] at h
  split at h
  ·rename_i hy
   split at h
   ·rename_i m1 _
    rcases List.mem_cons.1 hx with rfl | hx
    ·exact hy
    ·exact nodesB_of l _ _ _ h x hx
   ·cases h
  ·cases h
theorem nodeB_of {p : KProg} (h : progB p = true) : ∀ x ∈ p.nodes, nodeB x = true := by
 unfold progB at h
 simp only [Bool.and_eq_true] at h
 obtain ⟨_, _, h⟩ := h
 split at h
 ·rename_i m hm
  exact nodesB_of _ _ _ _ hm
 ·cases h
def wtAt (wt : KNode → Nat) (nodes : List KNode) (k : Nat) : Nat := match nodes[k]? with
 | some x => wt x
 | none => 0
/-- What lies below a node weighs no more than what stands ahead of it. -/
theorem weigh_le (wt : KNode → Nat) {p : KProg} (h : progB p = true) {k : Nat} (hk : k < p.nodes.length) : sizeW wt p.nodes k ≤ pre (wtAt wt p.nodes) (k + 1) := by
 have hlt := argsLt_of h
 obtain ⟨hok, _, hpos⟩ := progB_ok h
 unfold progB at h
 simp only [Bool.and_eq_true] at h
 obtain ⟨_, _, h⟩ := h
 split at h
 ·rename_i m hm
  have hz : ∀ j, (List.replicate p.nodes.length (0 : Int)).getD j 0 = 0 := by
   intro j
   simp only [List.getD_eq_getElem?_getD, List.getElem?_replicate]
   split <;> rfl
  refine phi_nodes (wtAt wt p.nodes) (sizeW wt p.nodes) p.nodes (fun k x hx _ => by rw [sizeW_eq hlt hx]; simp only [wtAt, hx]) p.nodes [] (List.replicate p.nodes.length 0) m rfl hm rfl (fun j => by rw [hz]; omega) (fun j _ => hz j) (fun j => ?_) (by simp) (by simpa using hok) k (by simp) hk
  have hml : m.length = p.nodes.length := by
   have : ∀ (l : List KNode) (i : Int) (m mf : List Int), countNodes i m l = some mf → mf.length = m.length := by
    intro l
    induction l with
    | nil => intro i m mf h; simp only [countNodes, Option.some.injEq] at h; rw [h]
    | cons x l ih =>
     intro i m mf h
     simp only [countNodes] at h
     split at h
     ·split at h
      ·rename_i m1 h1
       rw [ih _ _ _ h, countArgs_length _ _ _ _ h1]
      ·cases h
     ·cases h
   rw [this _ _ _ _ hm]
   simp
  by_cases hj : j < p.nodes.length - 1
  ·have hjm : j < m.length := by omega
   have hmem : m[j] ∈ m.take (p.nodes.length - 1) := by
    rw [List.mem_iff_getElem]
    exact ⟨j, by simp; omega, by simp⟩
   have := List.all_eq_true.1 h _ hmem
   rw [List.getD_eq_getElem?_getD, List.getElem?_eq_getElem hjm]
   simp at this ⊢
   omega
  ·have := countNodes_above j p.nodes 0 _ _ (by omega) hm
   rw [this, hz]
   omega
 ·cases h
theorem pre_one (nodes : List KNode) : ∀ k, pre (wtAt (fun _ => 1) nodes) k ≤ k
 | 0 => Nat.le_refl _
 | k + 1 => by
  have := pre_one nodes k
  have h : wtAt (fun _ => 1) nodes k ≤ 1 := by unfold wtAt; split <;> simp
  simp only [pre]
  omega
/-- No more nodes lie below a node than ahead of it. -/
theorem size_le {p : KProg} (h : progB p = true) {k : Nat} (hk : k < p.nodes.length) : sizeN p.nodes k ≤ k + 1 := Nat.le_trans (weigh_le (fun _ => 1) h hk) (pre_one _ _)
theorem pre_sum (wt : KNode → Nat) : ∀ (nodes : List KNode) (k : Nat), pre (wtAt wt nodes) k ≤ (nodes.map wt).sum := by
 have key : ∀ (nodes : List KNode) (k : Nat), pre (wtAt wt nodes) k ≤ ((nodes.take k).map wt).sum := by
  intro nodes k
  induction k with
  | zero => simp [pre]
  | succ k ih =>
   simp only [pre]
   cases hx : nodes[k]? with
   | none =>
    have : nodes.take (k + 1) = nodes.take k := by
     have hl := List.getElem?_eq_none_iff.1 hx
     rw [List.take_of_length_le hl, List.take_of_length_le (by omega)]
    rw [this]
    simp only [wtAt, hx]
    omega
   | some x =>
    rw [List.take_add_one, hx]
    simp only [wtAt, hx, Option.toList_some, List.map_append, List.map_cons, List.map_nil, List.sum_append, List.sum_cons, List.sum_nil]
    omega
 intro nodes k
 refine Nat.le_trans (key nodes k) ?_
 have := List.take_append_drop k nodes
 have h2 : (nodes.map wt).sum = ((nodes.take k).map wt).sum + ((nodes.drop k).map wt).sum := by
  rw [← List.sum_append, ← List.map_append, this]
 omega
end Go.Proofs.YthkfnfppihgejaaGreatDoor.LN
