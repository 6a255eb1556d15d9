/- Data as trees: their texts; what is so of cells that are each just once a part or a top. -/
import Derived.Test.YtjcjodcpiickaaaGreatDoorEngM7
namespace Go.VS
open Go Go.RowKit Go.Lib
set_option linter.unusedSimpArgs false
set_option linter.unusedVariables false
inductive DT where
  | atom (c : KDatum)
  | pair (a b : DT)
def DT.size : DT → Nat
  | .atom _ => 1
  | .pair a b => a.size + b.size + 1
/-- The text of a cell that is no pair. -/
def atomT (c : KDatum) : List UInt8 :=
  if c.kind = 1 then itoa c.n else if c.kind = 2 then (if c.n = 1 then [35, 116] else [35, 102]) else if c.kind = 3 then c.s.data.toList else if c.kind = 4 then [40, 41] else []
/-- The text of a tree (true: of what stands behind the first of a list). -/
def DT.txt : Bool → DT → List UInt8
  | false, .atom c => atomT c
  | true, .atom c => if c.kind = 4 then [41] else [32, 46, 32] ++ (atomT c ++ [41])
  | false, .pair a b => 40 :: (DT.txt false a ++ DT.txt true b)
  | true, .pair a b => 32 :: (DT.txt false a ++ DT.txt true b)
theorem txt_tail : ∀ t : DT, (t.txt true).length ≤ (t.txt false).length + 4
  | .atom c => by
    simp only [DT.txt]
    split
    · simp
    · simp only [List.length_append, List.length_cons, List.length_nil]; omega
  | .pair a b => by simp [DT.txt]
/-- What stands at a number. -/
inductive TreeAt (cs : List KDatum) : Int → DT → Prop where
  | atom (i : Int) (c : KDatum) (h0 : 0 ≤ i) (h : cs[i.toNat]? = some c) (hk : c.kind ≠ 5) : TreeAt cs i (.atom c)
  | pair (i : Int) (c : KDatum) (a b : DT) (h0 : 0 ≤ i) (h : cs[i.toNat]? = some c) (hk : c.kind = 5) (ha : TreeAt cs c.l a) (hb : TreeAt cs c.r b) : TreeAt cs i (.pair a b)
theorem TreeAt.same {cs : List KDatum} {i : Int} {t t' : DT} (h : TreeAt cs i t) (h' : TreeAt cs i t') : t = t' := by
  induction h generalizing t' with
  | atom i c h0 h hk =>
    cases h' with
    | atom _ c' _ h2 _ => rw [h] at h2; rw [Option.some.inj h2]
    | pair _ c' a b _ h2 hk2 _ _ => rw [h] at h2; rw [Option.some.inj h2] at hk; exact absurd hk2 hk
  | pair i c a b h0 h hk ha hb iha ihb =>
    cases h' with
    | atom _ c' _ h2 hk2 => rw [h] at h2; rw [Option.some.inj h2] at hk; exact absurd hk hk2
    | pair _ c' a' b' _ h2 hk2 ha' hb' =>
      rw [h] at h2
      obtain rfl := Option.some.inj h2
      rw [iha ha', ihb hb']
theorem TreeAt.lt {cs : List KDatum} {i : Int} {t : DT} (h : TreeAt cs i t) : 0 ≤ i ∧ i < cs.length := by
  cases h with
  | atom _ c h0 h hk => have := (List.getElem?_eq_some_iff.1 h).1; omega
  | pair _ c a b h0 h hk ha hb => have := (List.getElem?_eq_some_iff.1 h).1; omega
/-- The parts of a pair are numbers below its own. -/
def lowB (i : Nat) (c : KDatum) : Bool := decide (c.kind = 5 → (0 ≤ c.l ∧ c.l < i) ∧ (0 ≤ c.r ∧ c.r < i))
def Low (cs : List KDatum) : Prop := ∀ (i : Nat) c, cs[i]? = some c → lowB i c = true
theorem tree_ex {cs : List KDatum} (hl : Low cs) : ∀ n i : Nat, i < n → i < cs.length → ∃ t, TreeAt cs i t
  | 0, i, h, _ => by omega
  | n + 1, i, h, hi => by
    have hc : cs[i]? = some cs[i] := List.getElem?_eq_getElem hi
    have h1 := hl i _ hc
    generalize cs[i] = c at hc h1
    unfold lowB at h1
    rw [decide_eq_true_iff] at h1
    by_cases hk : c.kind = 5
    · obtain ⟨⟨l0, l1⟩, r0, r1⟩ := h1 hk
      obtain ⟨a, ha⟩ := tree_ex hl n c.l.toNat (by omega) (by omega)
      obtain ⟨b, hb⟩ := tree_ex hl n c.r.toNat (by omega) (by omega)
      rw [show ((c.l.toNat : Nat) : Int) = c.l by omega] at ha
      rw [show ((c.r.toNat : Nat) : Int) = c.r by omega] at hb
      exact ⟨_, .pair i c a b (by omega) (by simpa using hc) hk ha hb⟩
    · exact ⟨_, .atom i c (by omega) (by simpa using hc) hk⟩
open Classical in
/-- How long its text is. -/
noncomputable def lenAt (cs : List KDatum) (i : Int) : Nat := if h : ∃ t, TreeAt cs i t then (h.choose.txt false).length else 0
theorem lenAt_of {cs : List KDatum} {i : Int} {t : DT} (h : TreeAt cs i t) : lenAt cs i = (t.txt false).length := by
  have hx : ∃ t, TreeAt cs i t := ⟨t, h⟩
  unfold lenAt
  rw [dif_pos hx, hx.choose_spec.same h]
def partsD (c : KDatum) : List Int := if c.kind = 5 then [c.l, c.r] else []
def wD (c : KDatum) : Nat := 5 + (atomT c).length
def wDs : List KDatum → Nat
  | [] => 0
  | c :: cs => wD c + wDs cs
theorem wDs_append : ∀ a b : List KDatum, wDs (a ++ b) = wDs a + wDs b
  | [], b => by simp [wDs]
  | c :: a, b => by simp only [List.cons_append, wDs, wDs_append a b]; omega
def sumU (T : Int → Nat) (n : Int) : List Int → Nat
  | [] => 0
  | x :: u => (if x < n then T x else 0) + sumU T n u
theorem sumU_append (T : Int → Nat) (n : Int) : ∀ a b : List Int, sumU T n (a ++ b) = sumU T n a + sumU T n b
  | [], b => by simp [sumU]
  | c :: a, b => by simp only [List.cons_append, sumU, sumU_append T n a b]; omega
theorem sumU_succ (T : Int → Nat) (n : Int) : ∀ u : List Int, sumU T (n + 1) u = sumU T n u + u.count n * T n
  | [] => by simp [sumU]
  | x :: u => by
    simp only [sumU, sumU_succ T n u, List.count_cons, beq_iff_eq]
    by_cases h : x = n
    · subst h
      rw [if_pos (by omega), if_neg (by omega), if_pos rfl, Nat.add_mul]
      omega
    · rw [if_neg (c := x = n) h]
      rw [Nat.add_zero]
      by_cases h2 : x < n
      · rw [if_pos (by omega), if_pos h2]; omega
      · rw [if_neg (by omega), if_neg h2]; omega
theorem sumU_all (T : Int → Nat) (n : Int) : ∀ u : List Int, (∀ x ∈ u, x < n) → sumU T n u = (u.map T).sum
  | [], _ => rfl
  | x :: u, h => by
    simp only [sumU, List.map_cons, List.sum_cons, sumU_all T n u fun y hy => h y (by simp [hy])]
    rw [if_pos (h x (by simp))]
theorem lenAt_step {cs : List KDatum} (hl : Low cs) {n : Nat} {c : KDatum} (h : cs[n]? = some c) : lenAt cs n ≤ wD c + sumU (lenAt cs) n (partsD c) := by
  have hn : n < cs.length := (List.getElem?_eq_some_iff.1 h).1
  have hlow := hl n c h
  unfold lowB at hlow
  rw [decide_eq_true_iff] at hlow
  obtain ⟨t, ht⟩ := tree_ex hl (n + 1) n (by omega) hn
  rw [lenAt_of ht]
  cases ht with
  | atom _ c' h0 h' hk =>
    rw [show ((n : Int)).toNat = n by omega, h] at h'
    obtain rfl := Option.some.inj h'
    simp only [DT.txt, wD]
    omega
  | pair _ c' a b h0 h' hk ha hb =>
    rw [show ((n : Int)).toNat = n by omega, h] at h'
    obtain rfl := Option.some.inj h'
    obtain ⟨⟨l0, l1⟩, r0, r1⟩ := hlow hk
    have ea := lenAt_of ha
    have eb := lenAt_of hb
    have := txt_tail b
    simp only [DT.txt, partsD, if_pos hk, sumU, if_pos l1, if_pos r1, wD, List.length_cons, List.length_append]
    omega
/-- No part of a cell, and no top, stands there twice: all texts together are no longer than the cells. -/
theorem sum_le {cs : List KDatum} {tops : List Int} (hl : Low cs) (hc : ∀ n : Nat, n < cs.length → (tops ++ (cs.drop (n + 1)).flatMap partsD).count (n : Int) ≤ 1) :
    ∀ n : Nat, n ≤ cs.length → sumU (lenAt cs) n (tops ++ (cs.drop n).flatMap partsD) ≤ wDs (cs.take n) + sumU (lenAt cs) 0 (tops ++ cs.flatMap partsD)
  | 0, _ => by simp [wDs]
  | n + 1, h => by
    have hn : n < cs.length := h
    have ih := sum_le hl hc n (by omega)
    have hx : cs[n]? = some cs[n] := List.getElem?_eq_getElem hn
    have hs := lenAt_step hl hx
    have h1 := hc n hn
    rw [List.drop_eq_getElem_cons hn, List.flatMap_cons, sumU_append, sumU_append] at ih
    rw [List.take_add_one, hx, Option.toList_some, wDs_append]
    simp only [wDs]
    rw [Int.natCast_add, Int.natCast_one, sumU_succ]
    generalize cs[n] = c at *
    have h2 : (tops ++ (cs.drop (n + 1)).flatMap partsD).count (n : Int) * lenAt cs n ≤ lenAt cs n := by
      have := Nat.mul_le_mul_right (lenAt cs n) h1
      omega
    rw [sumU_append]
    omega
/-- How often each number is a part or a top. -/
def bump (u : List Int) (i : Int) : List Int := u.set i.toNat (u.getD i.toNat 0 + 1)
def cellStep (u : List Int) (x : KDatum × Nat) : Option (List Int) := if x.1.kind = 5 then (if lowB x.2 x.1 = true then some (bump (bump u x.1.l) x.1.r) else none) else some u
def topStep (u : List Int) (i : Int) : Option (List Int) := if 0 ≤ i ∧ i < u.length then some (bump u i) else none
def seenB (d : KData) : Option (List Int) :=
  match d.cells.zipIdx.foldlM cellStep (List.replicate d.cells.length 0) with
  | some u => d.tops.foldlM topStep u
  | none => none
def wholeB (d : KData) : Bool := match seenB d with
  | some u => u.all fun n => decide (n = 1)
  | none => false
theorem bump_length (u : List Int) (i : Int) : (bump u i).length = u.length := by simp [bump]
theorem bump_get (u : List Int) (i : Int) (h0 : 0 ≤ i) (h1 : i < u.length) (j : Nat) : (bump u i).getD j 0 = u.getD j 0 + if (j : Int) = i then 1 else 0 := by
  unfold bump
  simp only [List.getD_eq_getElem?_getD, List.getElem?_set]
  by_cases h : (j : Int) = i
  · have e : i.toNat = j := by omega
    rw [if_pos e, if_pos h, e, if_pos (by omega), Option.getD_some]
  · rw [if_neg (by omega), if_neg h]
    omega
/-- What the counting yields. -/
theorem cells_seen : ∀ (cs : List KDatum) (k : Nat) (u r : List Int), k + cs.length ≤ u.length → (cs.zipIdx k).foldlM cellStep u = some r →
    (∀ (i : Nat) c, cs[i]? = some c → lowB (k + i) c = true) ∧ r.length = u.length ∧ ∀ j : Nat, r.getD j 0 = u.getD j 0 + ((cs.flatMap partsD).count (j : Int) : Int)
  | [], k, u, r, hk, h => by
    simp only [List.zipIdx_nil, List.foldlM_nil, Option.pure_def, Option.some.injEq] at h
    subst h
    exact ⟨fun i c h => by simp at h, rfl, fun j => by simp⟩
  | c :: cs, k, u, r, hk, h => by
    rw [List.zipIdx_cons, List.foldlM_cons] at h
    rw [List.length_cons] at hk
    unfold cellStep at h
    simp only [Option.bind_eq_bind] at h
    by_cases h5 : c.kind = 5
    · rw [if_pos h5] at h
      by_cases hl : lowB k c = true
      · rw [if_pos hl, Option.bind_some] at h
        have hl2 := hl
        unfold lowB at hl2
        rw [decide_eq_true_iff] at hl2
        obtain ⟨⟨l0, l1⟩, r0, r1⟩ := hl2 h5
        obtain ⟨g1, g2, g3⟩ := cells_seen cs (k + 1) _ r (by rw [bump_length, bump_length]; omega) h
        rw [bump_length, bump_length] at g2
        refine ⟨fun i c' hi => ?_, g2, fun j => ?_⟩
        · cases i with
          | zero =>
            simp at hi
            subst hi
            exact hl
          | succ i =>
            have := g1 i c' (by simpa using hi)
            rw [show k + (i + 1) = k + 1 + i by omega]
            exact this
        · rw [g3 j, bump_get _ _ r0 (by rw [bump_length]; omega), bump_get _ _ l0 (by omega), List.flatMap_cons, List.count_append]
          simp only [partsD, if_pos h5, List.count_cons, List.count_nil, beq_iff_eq]
          by_cases e1 : (j : Int) = c.l
          · by_cases e2 : (j : Int) = c.r
            · rw [if_pos e1, if_pos e2, if_pos e1.symm, if_pos e2.symm]; omega
            · rw [if_pos e1, if_neg e2, if_pos e1.symm, if_neg (c := c.r = (j : Int)) (fun h => e2 h.symm)]; omega
          · by_cases e2 : (j : Int) = c.r
            · rw [if_neg e1, if_pos e2, if_neg (c := c.l = (j : Int)) (fun h => e1 h.symm), if_pos e2.symm]; omega
            · rw [if_neg e1, if_neg e2, if_neg (c := c.l = (j : Int)) (fun h => e1 h.symm), if_neg (c := c.r = (j : Int)) (fun h => e2 h.symm)]; omega
      · rw [if_neg hl] at h
        cases h
    · rw [if_neg h5, Option.bind_some] at h
      obtain ⟨g1, g2, g3⟩ := cells_seen cs (k + 1) _ r (by omega) h
      refine ⟨fun i c' hi => ?_, g2, fun j => ?_⟩
      · cases i with
        | zero =>
          simp at hi
          subst hi
          unfold lowB
          rw [decide_eq_true_iff]
          exact fun h => absurd h h5
        | succ i =>
          have := g1 i c' (by simpa using hi)
          rw [show k + (i + 1) = k + 1 + i by omega]
          exact this
      · rw [g3 j, List.flatMap_cons]
        simp [partsD, h5]
theorem tops_seen : ∀ (ts u r : List Int), ts.foldlM topStep u = some r → (∀ x ∈ ts, 0 ≤ x ∧ x < u.length) ∧ r.length = u.length ∧ ∀ j : Nat, r.getD j 0 = u.getD j 0 + (ts.count (j : Int) : Int)
  | [], u, r, h => by
    simp only [List.foldlM_nil, Option.pure_def, Option.some.injEq] at h
    subst h
    exact ⟨fun x hx => by simp at hx, rfl, fun j => by simp⟩
  | x :: ts, u, r, h => by
    rw [List.foldlM_cons] at h
    unfold topStep at h
    simp only [Option.bind_eq_bind] at h
    by_cases hx : 0 ≤ x ∧ x < u.length
    · rw [if_pos hx, Option.bind_some] at h
      obtain ⟨g1, g2, g3⟩ := tops_seen ts _ r h
      rw [bump_length] at g1 g2
      refine ⟨fun y hy => ?_, g2, fun j => ?_⟩
      · rcases List.mem_cons.1 hy with rfl | hy
        · exact hx
        · exact g1 y hy
      · rw [g3 j, bump_get _ _ hx.1 hx.2, List.count_cons]
        simp only [beq_iff_eq]
        by_cases e : (j : Int) = x
        · rw [if_pos e, if_pos e.symm]; omega
        · rw [if_neg e, if_neg (fun h => e h.symm)]; omega
    · rw [if_neg hx] at h
      cases h
/-- What is so of whole data. -/
structure Whole (d : KData) : Prop where
  low : Low d.cells
  top : ∀ x ∈ d.tops, 0 ≤ x ∧ x < d.cells.length
  once : ∀ j : Nat, j < d.cells.length → (d.tops ++ d.cells.flatMap partsD).count (j : Int) = 1
theorem whole_of {d : KData} (h : wholeB d = true) : Whole d := by
  unfold wholeB seenB at h
  cases h1 : d.cells.zipIdx.foldlM cellStep (List.replicate d.cells.length 0) with
  | none => rw [h1] at h; cases h
  | some u =>
    rw [h1] at h
    simp only at h
    obtain ⟨a1, a2, a3⟩ := cells_seen d.cells 0 _ u (by simp) h1
    cases h2 : d.tops.foldlM topStep u with
    | none => rw [h2] at h; cases h
    | some r =>
      rw [h2] at h
      simp only at h
      obtain ⟨b1, b2, b3⟩ := tops_seen d.tops u r h2
      rw [List.length_replicate] at a2
      rw [a2] at b1 b2
      refine ⟨fun i c hc => by simpa using a1 i c hc, b1, fun j hj => ?_⟩
      have h3 := b3 j
      rw [a3 j] at h3
      have h4 : r.getD j 0 = 1 := by
        rw [List.getD_eq_getElem?_getD, List.getElem?_eq_getElem (by omega), Option.getD_some]
        have := List.all_eq_true.1 h (r[j]'(by omega)) (List.getElem_mem _)
        simpa using this
      have h5 : (List.replicate d.cells.length (0 : Int)).getD j 0 = 0 := by
        rw [List.getD_eq_getElem?_getD, List.getElem?_replicate]
        split <;> rfl
      rw [h4, h5] at h3
      rw [List.count_append]
      omega
theorem whole_tree {d : KData} (h : Whole d) {x : Int} (hx : x ∈ d.tops) : ∃ t, TreeAt d.cells x t := by
  have := h.top x hx
  obtain ⟨t, ht⟩ := tree_ex h.low (x.toNat + 1) x.toNat (by omega) (by omega)
  rw [show ((x.toNat : Nat) : Int) = x by omega] at ht
  exact ⟨t, ht⟩
theorem whole_sum {d : KData} (h : Whole d) : (d.tops.map (lenAt d.cells)).sum ≤ wDs d.cells := by
  have hc : ∀ n : Nat, n < d.cells.length → (d.tops ++ (d.cells.drop (n + 1)).flatMap partsD).count (n : Int) ≤ 1 := fun n hn => by
    have h1 := h.once n hn
    have h2 : d.cells.flatMap partsD = (d.cells.take (n + 1)).flatMap partsD ++ (d.cells.drop (n + 1)).flatMap partsD := by
      rw [← List.flatMap_append, List.take_append_drop]
    rw [h2] at h1
    simp only [List.count_append] at h1 ⊢
    omega
  have h0 : sumU (lenAt d.cells) 0 (d.tops ++ d.cells.flatMap partsD) = 0 := by
    have key : ∀ u : List Int, (∀ x ∈ u, 0 ≤ x) → sumU (lenAt d.cells) 0 u = 0 := by
      intro u
      induction u with
      | nil => intro _; rfl
      | cons x u ih =>
        intro hu
        have := hu x (by simp)
        simp only [sumU]
        rw [if_neg (by omega), ih fun y hy => hu y (by simp [hy])]
    refine key _ fun x hx => ?_
    rcases List.mem_append.1 hx with hx | hx
    · exact (h.top x hx).1
    · obtain ⟨c, hc, hx⟩ := List.mem_flatMap.1 hx
      obtain ⟨i, hi⟩ := List.getElem?_of_mem hc
      have hl := h.low i c hi
      unfold lowB at hl
      rw [decide_eq_true_iff] at hl
      unfold partsD at hx
      split at hx
      · rename_i hk
        have := hl hk
        simp at hx
        rcases hx with rfl | rfl <;> omega
      · cases hx
  have h1 := sum_le h.low hc d.cells.length (Nat.le_refl _)
  rw [h0, List.take_length, List.drop_length, List.flatMap_nil, List.append_nil, sumU_all _ _ _ fun x hx => (h.top x hx).2] at h1
  omega
/-- What whole data are shown as. -/
noncomputable def txtAt (cs : List KDatum) (i : Int) : List UInt8 := by
  classical exact if h : ∃ t, TreeAt cs i t then h.choose.txt false else []
theorem txtAt_of {cs : List KDatum} {i : Int} {t : DT} (h : TreeAt cs i t) : txtAt cs i = t.txt false := by
  have hx : ∃ t, TreeAt cs i t := ⟨t, h⟩
  unfold txtAt
  rw [dif_pos hx, hx.choose_spec.same h]
theorem txtAt_len {cs : List KDatum} {i : Int} {t : DT} (h : TreeAt cs i t) : (txtAt cs i).length = lenAt cs i := by rw [txtAt_of h, lenAt_of h]
noncomputable def topsT (cs : List KDatum) (ts : List Int) : List UInt8 := ts.flatMap fun i => txtAt cs i ++ [10]
noncomputable def showB (d : KData) : List UInt8 := if wholeB d = true then topsT d.cells d.tops else []
theorem topsT_len {d : KData} (h : Whole d) : ∀ ts : List Int, (∀ x ∈ ts, x ∈ d.tops) → (topsT d.cells ts).length = (ts.map (lenAt d.cells)).sum + ts.length
  | [], _ => rfl
  | x :: ts, hx => by
    obtain ⟨t, ht⟩ := whole_tree h (hx x (by simp))
    have ih := topsT_len h ts fun y hy => hx y (by simp [hy])
    unfold topsT at ih ⊢
    rw [List.flatMap_cons, List.length_append, ih, List.length_append, txtAt_len ht, List.map_cons, List.sum_cons]
    simp only [List.length_cons, List.length_nil]
    omega
theorem topsT_le {d : KData} (h : Whole d) : (topsT d.cells d.tops).length ≤ wDs d.cells + d.tops.length := by
  rw [topsT_len h d.tops fun _ h => h]
  have := whole_sum h
  omega
/-- What stands ahead of a top's text is no longer than all. -/
theorem topsT_take {d : KData} (h : Whole d) (i : Nat) : (topsT d.cells (d.tops.take i)).length ≤ (topsT d.cells d.tops).length := by
  conv => rhs; rw [← List.take_append_drop i d.tops]
  unfold topsT
  rw [List.flatMap_append, List.length_append]
  omega
end Go.VS
