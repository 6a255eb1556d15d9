/- What a source needs, as the program and as the reference finds it: plain lists. -/
import Derived.Test.YticecjjfbjnaaaaEngM7
import Derived.Sort.Walk0
namespace Go.VS
open Go
set_option linter.unusedVariables false
set_option linter.unusedSimpArgs false
def sLt (a b : ByteArray) : Bool := Op.bytesLess a.toList b.toList
theorem baList_inj {a b : ByteArray} (h : a.toList = b.toList) : a = b := by
  have := toList_beqE a b
  rw [h] at this
  simpa using this.symm
theorem sLt_iff (a b : ByteArray) : sLt a b = true ↔ a.toList < b.toList := by
  unfold sLt
  rw [Go.Proofs.bytesLess_eq]
  simp
theorem sLt_irr (a : ByteArray) : ¬ sLt a a = true := by rw [sLt_iff]; exact List.lt_irrefl _
theorem sLt_trans {a b c : ByteArray} (h : sLt a b = true) (h' : sLt b c = true) : sLt a c = true := by
  rw [sLt_iff] at *
  exact List.lt_trans h h'
theorem sLt_tot {a b : ByteArray} (h : ¬ sLt a b = true) (hn : a ≠ b) : sLt b a = true := by
  rw [sLt_iff] at *
  have h1 : b.toList ≤ a.toList := List.not_lt.1 h
  rcases List.le_iff_lt_or_eq.1 h1 with h2 | h2
  · exact h2
  · exact absurd (baList_inj h2).symm hn
def insS (s : ByteArray) : List ByteArray → List ByteArray
  | [] => [s]
  | x :: l => if sLt s x = true then s :: x :: l else x :: insS s l
def putS (l : List ByteArray) (s : ByteArray) : List ByteArray := if s ∈ l then l else insS s l
def Sorted (l : List ByteArray) : Prop := l.Pairwise fun a b => sLt a b = true
theorem mem_insS (s y : ByteArray) : ∀ l : List ByteArray, y ∈ insS s l ↔ y = s ∨ y ∈ l
  | [] => by simp [insS]
  | x :: l => by
    unfold insS
    split
    · simp
    · simp only [List.mem_cons, mem_insS s y l]
      constructor
      · rintro (h | h | h)
        · exact .inr (.inl h)
        · exact .inl h
        · exact .inr (.inr h)
      · rintro (h | h | h)
        · exact .inr (.inl h)
        · exact .inl h
        · exact .inr (.inr h)
theorem sorted_insS (s : ByteArray) : ∀ l : List ByteArray, Sorted l → ¬ s ∈ l → Sorted (insS s l)
  | [], _, _ => by simp [insS, Sorted]
  | x :: l, h, hs => by
    obtain ⟨h1, h2⟩ := List.pairwise_cons.1 h
    unfold insS
    split
    · rename_i hx
      refine List.pairwise_cons.2 ⟨fun y hy => ?_, h⟩
      rcases List.mem_cons.1 hy with rfl | hy
      · exact hx
      · exact sLt_trans hx (h1 y hy)
    · rename_i hx
      refine List.pairwise_cons.2 ⟨fun y hy => ?_, sorted_insS s l h2 fun hm => hs (by simp [hm])⟩
      rcases (mem_insS s y l).1 hy with rfl | hy
      · exact sLt_tot hx fun e => hs (by simp [e])
      · exact h1 y hy
theorem mem_putS (l : List ByteArray) (s y : ByteArray) : y ∈ putS l s ↔ y = s ∨ y ∈ l := by
  unfold putS
  split
  · rename_i h
    exact ⟨.inr, fun h' => h'.elim (fun e => e ▸ h) id⟩
  · exact mem_insS s y l
theorem sorted_putS {l : List ByteArray} (s : ByteArray) (h : Sorted l) : Sorted (putS l s) := by
  unfold putS
  split
  · exact h
  · rename_i hs
    exact sorted_insS s l h hs
theorem fold_putS : ∀ (r l : List ByteArray), Sorted l → Sorted (r.foldl putS l) ∧ ∀ y, y ∈ r.foldl putS l ↔ y ∈ r ∨ y ∈ l
  | [], l, h => ⟨h, fun y => by simp⟩
  | s :: r, l, h => by
    obtain ⟨h1, h2⟩ := fold_putS r (putS l s) (sorted_putS s h)
    refine ⟨h1, fun y => ?_⟩
    rw [List.foldl_cons, h2, mem_putS, List.mem_cons]
    constructor
    · rintro (h | h | h)
      · exact .inl (.inr h)
      · exact .inl (.inl h)
      · exact .inr h
    · rintro ((h | h) | h)
      · exact .inr (.inl h)
      · exact .inl h
      · exact .inr (.inr h)
theorem sorted_same : ∀ {l m : List ByteArray}, Sorted l → Sorted m → (∀ y, y ∈ l ↔ y ∈ m) → l = m
  | [], [], _, _, _ => rfl
  | [], y :: m, _, _, h => by have := (h y).2 (by simp); simp at this
  | x :: l, [], _, _, h => by have := (h x).1 (by simp); simp at this
  | x :: l, y :: m, hl, hm, h => by
    obtain ⟨h1, h2⟩ := List.pairwise_cons.1 hl
    obtain ⟨h3, h4⟩ := List.pairwise_cons.1 hm
    have e : x = y := by
      rcases List.mem_cons.1 ((h x).1 (by simp)) with e | hx
      · exact e
      · rcases List.mem_cons.1 ((h y).2 (by simp)) with e | hy
        · exact e.symm
        · exact absurd (sLt_trans (h1 y hy) (h3 x hx)) (sLt_irr x)
    subst e
    rw [sorted_same h2 h4 fun y => ?_]
    constructor
    · intro hy
      rcases List.mem_cons.1 ((h y).1 (by simp [hy])) with e | hy'
      · subst e; exact absurd (h1 y hy) (sLt_irr y)
      · exact hy'
    · intro hy
      rcases List.mem_cons.1 ((h y).2 (by simp [hy])) with e | hy'
      · subst e; exact absurd (h3 y hy) (sLt_irr y)
      · exact hy'
/-- Sorted, as slices.Sort does it. -/
def sortS (l : List ByteArray) : List ByteArray := ((l.map ByteArray.toList).mergeSort fun x y => decide (x ≤ y)).map fun x => ⟨x.toArray⟩
theorem toList_mk (x : List UInt8) : (⟨x.toArray⟩ : ByteArray).toList = x := by rw [Lib.toList_data]
theorem mk_toList (b : ByteArray) : (⟨b.toList.toArray⟩ : ByteArray) = b := baList_inj (toList_mk _)
theorem mem_sortS (l : List ByteArray) (y : ByteArray) : y ∈ sortS l ↔ y ∈ l := by
  unfold sortS
  simp only [List.mem_map, List.mem_mergeSort]
  constructor
  · rintro ⟨x, ⟨b, hb, rfl⟩, rfl⟩
    rwa [mk_toList]
  · intro h
    exact ⟨y.toList, ⟨y, h, rfl⟩, mk_toList y⟩
theorem sorted_sortS {l : List ByteArray} (h : l.Nodup) : Sorted (sortS l) := by
  unfold Sorted sortS
  rw [List.pairwise_map]
  have h1 : ((l.map ByteArray.toList).mergeSort fun x y => decide (x ≤ y)).Pairwise fun x y => decide (x ≤ y) = true := List.pairwise_mergeSort (fun a b c hab hbc => by simp only [decide_eq_true_eq] at *; exact List.le_trans hab hbc) (fun a b => by simp only [Bool.or_eq_true, decide_eq_true_eq]; exact List.le_total a b) _
  have h2 : ((l.map ByteArray.toList).mergeSort fun x y => decide (x ≤ y)).Nodup := by
    refine (List.mergeSort_perm _ _).nodup_iff.2 ?_
    refine List.pairwise_map.2 (h.imp fun hab e => hab (baList_inj e))
  have h3 := h1.and h2
  refine h3.imp fun hab => ?_
  rw [sLt_iff, toList_mk, toList_mk]
  obtain ⟨k1, k2⟩ := hab
  simp only [decide_eq_true_eq] at k1
  rcases List.le_iff_lt_or_eq.1 k1 with k | k
  · exact k
  · exact absurd k k2
theorem sort_eq {l r : List ByteArray} (h : l.Nodup) (hm : ∀ y, y ∈ l ↔ y ∈ r) : sortS l = r.foldl putS [] := by
  obtain ⟨h1, h2⟩ := fold_putS r [] List.Pairwise.nil
  refine sorted_same (sorted_sortS h) h1 fun y => ?_
  rw [mem_sortS, h2, hm]
  simp
theorem nodup_len : ∀ (t U : List ByteArray), t.Nodup → (∀ x ∈ t, x ∈ U) → t.length ≤ U.length
  | [], U, _, _ => by simp
  | x :: t, U, h, hs => by
    obtain ⟨h1, h2⟩ := List.nodup_cons.1 h
    have hx := hs x (by simp)
    have hl := nodup_len t (U.filter fun y => !decide (y = x)) h2 fun y hy => List.mem_filter.2 ⟨hs y (by simp [hy]), by have : ¬ y = x := fun e => h1 (e ▸ hy); simp [this]⟩
    have hlt : (U.filter fun y => !decide (y = x)).length < U.length := List.length_filter_lt_length_iff_exists.2 ⟨x, hx, by simp⟩
    simp only [List.length_cons]
    omega
def addS (l : List ByteArray) (x : ByteArray) : List ByteArray := if x ∈ l then l else l ++ [x]
def addL (l m : List ByteArray) : List ByteArray := m.foldl addS l
theorem mem_addS (l : List ByteArray) (x y : ByteArray) : y ∈ addS l x ↔ y ∈ l ∨ y = x := by
  unfold addS
  split
  · rename_i h
    exact ⟨.inl, fun h' => h'.elim id fun e => e ▸ h⟩
  · simp
theorem mem_addL : ∀ (m l : List ByteArray) (y : ByteArray), y ∈ addL l m ↔ y ∈ l ∨ y ∈ m
  | [], l, y => by simp [addL]
  | x :: m, l, y => by
    have := mem_addL m (addS l x) y
    unfold addL at *
    rw [List.foldl_cons, this, mem_addS, List.mem_cons, or_assoc]
/-- What is put behind is new, no name twice. -/
theorem addL_behind (U : List ByteArray) : ∀ (m l : List ByteArray), (∀ x ∈ m, x ∈ U) → ∃ t, addL l m = l ++ t ∧ t.Nodup ∧ (∀ x ∈ t, x ∈ U) ∧ ∀ x ∈ t, ¬ x ∈ l
  | [], l, _ => ⟨[], by simp [addL], List.nodup_nil, by simp, by simp⟩
  | x :: m, l, h => by
    obtain ⟨t, h1, h2, h3, h4⟩ := addL_behind U m (addS l x) fun y hy => h y (by simp [hy])
    have e : addL l (x :: m) = addL (addS l x) m := rfl
    rw [e, h1]
    unfold addS at *
    by_cases hx : x ∈ l
    · rw [if_pos hx] at *
      exact ⟨t, rfl, h2, h3, h4⟩
    · rw [if_neg hx] at *
      refine ⟨x :: t, by simp, List.nodup_cons.2 ⟨fun hm => h4 x hm (by simp), h2⟩, fun y hy => ?_, fun y hy => ?_⟩
      · rcases List.mem_cons.1 hy with rfl | hy
        · exact h y (by simp)
        · exact h3 y hy
      · rcases List.mem_cons.1 hy with rfl | hy
        · exact hx
        · exact fun hl => h4 y hy (by simp [hl])
/-- All that is reached from a row, from its place i on. -/
def closeN (g : ByteArray → List ByteArray) : Nat → List ByteArray → Nat → List ByteArray
  | 0, row, _ => row
  | n + 1, row, i => if h : i < row.length then closeN g n (addL row (g row[i])) (i + 1) else row
theorem close_run (g : ByteArray → List ByteArray) (U r0 : List ByteArray) (hg : ∀ x, ∀ y ∈ g x, y ∈ U) : ∀ (n : Nat) (row : List ByteArray) (i : Nat), r0.length + U.length ≤ n + i → (∃ t, row = r0 ++ t ∧ t.Nodup ∧ (∀ x ∈ t, x ∈ U) ∧ ∀ x ∈ t, ¬ x ∈ r0) → (∀ j (hj : j < row.length), j < i → ∀ y ∈ g row[j], y ∈ row) →
    (∃ t, closeN g n row i = r0 ++ t ∧ t.Nodup ∧ (∀ x ∈ t, x ∈ U) ∧ ∀ x ∈ t, ¬ x ∈ r0) ∧ (∀ x ∈ row, x ∈ closeN g n row i) ∧ (∀ x ∈ closeN g n row i, ∀ y ∈ g x, y ∈ closeN g n row i) ∧ ∀ C : ByteArray → Prop, (∀ x ∈ row, C x) → (∀ x, C x → ∀ y ∈ g x, C y) → ∀ x ∈ closeN g n row i, C x := by
  intro n
  induction n with
  | zero =>
    intro row i hn ht hi
    refine ⟨ht, fun _ h => h, fun x hx y hy => ?_, fun C h _ => h⟩
    obtain ⟨t, e, t1, t2, t3⟩ := ht
    have hl := nodup_len t U t1 t2
    have hr : row.length ≤ i := by rw [e, List.length_append]; omega
    obtain ⟨j, hj, rfl⟩ := List.getElem_of_mem hx
    exact hi j hj (Nat.lt_of_lt_of_le hj hr) y hy
  | succ n ih =>
    intro row i hn ht hi
    unfold closeN
    split
    · rename_i h
      obtain ⟨t, e, t1, t2, t3⟩ := ht
      obtain ⟨u, e2, u1, u2, u3⟩ := addL_behind U (g row[i]) row (hg row[i])
      have sub : ∀ x ∈ row, x ∈ addL row (g row[i]) := fun x hx => (mem_addL _ _ _).2 (.inl hx)
      obtain ⟨k1, k2, k3, k4⟩ := ih (addL row (g row[i])) (i + 1) (by omega) ⟨t ++ u, by rw [e2, e, List.append_assoc], List.nodup_append.2 ⟨t1, u1, fun a ha b hb hab => u3 b hb (by rw [e]; simp [← hab, ha])⟩, fun x hx => (List.mem_append.1 hx).elim (t2 x) (u2 x), fun x hx => (List.mem_append.1 hx).elim (t3 x) fun hx hr => u3 x hx (by rw [e]; simp [hr])⟩ (fun j hj hji y hy => by
        have hjr : j < row.length := by omega
        have ej : (addL row (g row[i]))[j] = row[j] := by
          have : ∀ (l : List ByteArray) (h : j < l.length), l = row ++ u → l[j] = row[j] := fun l h e => by subst e; exact List.getElem_append_left hjr
          exact this _ hj e2
        rw [ej] at hy
        by_cases hlt : j < i
        · exact sub y (hi j hjr hlt y hy)
        · obtain rfl : j = i := by omega
          exact (mem_addL _ _ _).2 (.inr hy))
      refine ⟨k1, fun x hx => k2 x (sub x hx), k3, fun C h1 h2 => k4 C (fun x hx => ?_) h2⟩
      rcases (mem_addL _ _ _).1 hx with hx | hx
      · exact h1 x hx
      · exact h2 _ (h1 _ (List.getElem_mem h)) x hx
    · rename_i h
      refine ⟨ht, fun _ h => h, fun x hx y hy => ?_, fun C h _ => h⟩
      obtain ⟨j, hj, rfl⟩ := List.getElem_of_mem hx
      exact hi j hj (by omega) y hy
theorem close_all {g : ByteArray → List ByteArray} {U r0 : List ByteArray} (hg : ∀ x, ∀ y ∈ g x, y ∈ U) {n : Nat} (hn : r0.length + U.length ≤ n) : (r0.Nodup → (closeN g n r0 0).Nodup) ∧ (closeN g n r0 0).length ≤ r0.length + U.length ∧ (∀ x ∈ r0, x ∈ closeN g n r0 0) ∧ (∀ x ∈ closeN g n r0 0, ∀ y ∈ g x, y ∈ closeN g n r0 0) ∧ ∀ C : ByteArray → Prop, (∀ x ∈ r0, C x) → (∀ x, C x → ∀ y ∈ g x, C y) → ∀ x ∈ closeN g n r0 0, C x := by
  obtain ⟨⟨t, e, t1, t2, t3⟩, k2, k3, k4⟩ := close_run g U r0 hg n r0 0 (by omega) ⟨[], by simp, List.nodup_nil, by simp, by simp⟩ (fun j hj h => by omega)
  refine ⟨fun h0 => ?_, ?_, k2, k3, k4⟩
  · rw [e]
    exact List.nodup_append.2 ⟨h0, t1, fun a ha b hb hab => t3 b hb (hab ▸ ha)⟩
  · rw [e, List.length_append]
    have := nodup_len t U t1 t2
    omega
theorem nodup_addL : ∀ (m l : List ByteArray), l.Nodup → (addL l m).Nodup := fun m l h => by
  obtain ⟨t, e, t1, _, t3⟩ := addL_behind m m l fun _ h => h
  rw [e]
  exact List.nodup_append.2 ⟨h, t1, fun a ha b hb hab => t3 b hb (hab ▸ ha)⟩
/-- The program's way and the reference's tell the same. -/
theorem needs_eq {g : ByteArray → List ByteArray} {U im : List ByteArray} (hg : ∀ x, ∀ y ∈ g x, y ∈ U) (name : ByteArray) {n m : Nat} (hn : im.length + U.length ≤ n) (hm : im.length + U.length ≤ m) : sortS ((closeN g n (addL [] im) 0).filter fun x => !decide (x = name)) = ((closeN g m im 0).foldl putS []).filter fun x => !decide (x = name) := by
  have hl : (addL [] im).length ≤ im.length := nodup_len _ _ (nodup_addL im [] List.nodup_nil) fun x hx => by simpa using (mem_addL im [] x).1 hx
  obtain ⟨a1, a2, a3, a4, a5⟩ := close_all (r0 := addL [] im) hg (n := n) (by omega)
  obtain ⟨b1, b2, b3, b4, b5⟩ := close_all (r0 := im) hg (n := m) (by omega)
  have nd := a1 (nodup_addL im [] List.nodup_nil)
  have same : ∀ y, y ∈ closeN g n (addL [] im) 0 ↔ y ∈ closeN g m im 0 := fun y => ⟨a5 (· ∈ closeN g m im 0) (fun x hx => b3 x (by simpa using (mem_addL im [] x).1 hx)) (fun x hx y hy => b4 x hx y hy) y, b5 (· ∈ closeN g n (addL [] im) 0) (fun x hx => a3 x ((mem_addL im [] x).2 (.inr hx))) (fun x hx y hy => a4 x hx y hy) y⟩
  obtain ⟨h1, h2⟩ := fold_putS (closeN g m im 0) [] List.Pairwise.nil
  refine sorted_same (sorted_sortS (nd.filter _)) (h1.filter _) fun y => ?_
  rw [mem_sortS, List.mem_filter, List.mem_filter, h2, same]
  simp
end Go.VS
