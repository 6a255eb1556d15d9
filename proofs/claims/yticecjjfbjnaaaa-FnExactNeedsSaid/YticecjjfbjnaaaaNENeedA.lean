/- What a source needs, and what needs it: the plain part. -/
import Derived.Test.YticecjjfbjnaaaaNERowsA
namespace Go.Proofs.Yticecjjfbjnaaaa.NE
open Go Go.VS Go.Lib
set_option maxRecDepth 10000
set_option maxHeartbeats 8000000
set_option linter.unusedSimpArgs false
set_option linter.unusedVariables false
@[simp] theorem freeRR_append : ∀ a b : List (List L), freeRR (a ++ b) = (freeRR a && freeRR b)
  | [], b => by simp [freeRR]
  | r :: a, b => by simp only [List.cons_append, freeRR, freeRR_append a b, Bool.and_assoc]
theorem put1_addS : put1 = addS := rfl
theorem put1_addL (l m : List ByteArray) : m.foldl put1 l = addL l m := rfl
/-- The place of a source of a name; -1 without one. -/
def atB (l : List KSrc) (name : ByteArray) : Int := findB (fun s : KSrc => decide (s.name = name)) l 0
theorem findB_in {α : Type} (p : α → Bool) : ∀ (l : List α) (k : Int), findB p l k = -1 ∨ (k ≤ findB p l k ∧ findB p l k < k + l.length)
  | [], k => .inl rfl
  | x :: l, k => by
    unfold findB
    split
    · exact .inr ⟨Int.le_refl _, by simp; omega⟩
    · rcases findB_in p l (k + 1) with h | h
      · exact .inl h
      · exact .inr (by simp; omega)
theorem atB_in (l : List KSrc) (name : ByteArray) : atB l name = -1 ∨ (0 ≤ atB l name ∧ atB l name < l.length) := by
  have := findB_in (fun s : KSrc => decide (s.name = name)) l 0
  unfold atB
  omega
/-- What the source of a name imports. -/
def gN (l : List KSrc) (x : ByteArray) : List ByteArray := if atB l x < 0 then [] else match l[(atB l x).toNat]? with
  | some s => s.imports
  | none => []
def uN (l : List KSrc) : List ByteArray := (l.map KSrc.imports).flatten
theorem uN_len : ∀ l : List KSrc, (uN l).length ≤ KSrc.us l
  | [] => Nat.zero_le _
  | x :: l => by
    have := uN_len l
    unfold uN at this ⊢
    simp only [List.map_cons, List.flatten_cons, List.length_append, KSrc.us, KSrc.w]
    omega
theorem gN_in (l : List KSrc) (x : ByteArray) : ∀ y ∈ gN l x, y ∈ uN l := by
  intro y hy
  unfold gN at hy
  split at hy
  · cases hy
  · split at hy
    · rename_i s hs
      exact List.mem_flatten.2 ⟨s.imports, List.mem_map.2 ⟨s, List.mem_of_getElem? hs, rfl⟩, hy⟩
    · cases hy
theorem imp_len : ∀ {l : List KSrc} {i : Nat} {s : KSrc}, l[i]? = some s → KSrc.w s ≤ KSrc.us l
  | [], i, s, h => by simp at h
  | a :: l, 0, s, h => by simp at h; subst h; simp only [KSrc.us]; omega
  | a :: l, i + 1, s, h => by have := imp_len (l := l) (i := i) (s := s) (by simpa using h); simp only [KSrc.us]; omega
theorem gN_none {l : List KSrc} {x : ByteArray} (h : atB l x < 0) : gN l x = [] := by unfold gN; rw [if_pos h]
theorem gN_some {l : List KSrc} {x : ByteArray} {s : KSrc} (h : ¬ atB l x < 0) (hs : l[(atB l x).toNat]? = some s) : gN l x = s.imports := by unfold gN; rw [if_neg h, hs]
theorem gN_len (l : List KSrc) (x : ByteArray) : (gN l x).length ≤ KSrc.us l := by
  unfold gN
  split
  · exact Nat.zero_le _
  · split
    · rename_i s hs
      have := imp_len hs
      simp only [KSrc.w] at this
      omega
    · exact Nat.zero_le _
/-- Where the walk that closes a row stands. -/
structure CInv (g : ByteArray → List ByteArray) (U r0 R row : List ByteArray) (i : Nat) : Prop where
  t : ∃ t, row = r0 ++ t ∧ t.Nodup ∧ (∀ x ∈ t, x ∈ U) ∧ ∀ x ∈ t, ¬ x ∈ r0
  le : i ≤ row.length
  eq : closeN g (r0.length + U.length - i) row i = R
variable {g : ByteArray → List ByteArray} {U r0 R row : List ByteArray} {i : Nat}
theorem CInv.start (g : ByteArray → List ByteArray) (U r0 : List ByteArray) : CInv g U r0 (closeN g (r0.length + U.length) r0 0) r0 0 := ⟨⟨[], by simp, List.nodup_nil, by simp, by simp⟩, Nat.zero_le _, by simp⟩
theorem CInv.len (h : CInv g U r0 R row i) : row.length ≤ r0.length + U.length := by
  obtain ⟨t, e, t1, t2, t3⟩ := h.t
  rw [e, List.length_append]
  have := nodup_len t U t1 t2
  omega
theorem CInv.step (hg : ∀ x, ∀ y ∈ g x, y ∈ U) (h : CInv g U r0 R row i) (hi : i < row.length) : CInv g U r0 R (addL row (g row[i])) (i + 1) ∧ ∃ u, addL row (g row[i]) = row ++ u := by
  have hl := h.len
  obtain ⟨t, e, t1, t2, t3⟩ := h.t
  obtain ⟨u, e2, u1, u2, u3⟩ := addL_behind U (g row[i]) row (hg row[i])
  refine ⟨⟨⟨t ++ u, by rw [e2, e, List.append_assoc], List.nodup_append.2 ⟨t1, u1, fun a ha b hb hab => u3 b hb (by rw [e]; simp [← hab, ha])⟩, fun x hx => (List.mem_append.1 hx).elim (t2 x) (u2 x), fun x hx => (List.mem_append.1 hx).elim (t3 x) fun hx hr => u3 x hx (by rw [e]; simp [hr])⟩, by rw [e2]; simp; omega, ?_⟩, u, e2⟩
  have hq := h.eq
  obtain ⟨n, hn⟩ : ∃ n, r0.length + U.length - i = n + 1 := ⟨r0.length + U.length - i - 1, by omega⟩
  rw [hn, closeN, dif_pos hi] at hq
  have : r0.length + U.length - (i + 1) = n := by omega
  rw [this]
  exact hq
theorem CInv.done (h : CInv g U r0 R row i) (hi : ¬ i < row.length) : row = R := by
  have hq := h.eq
  cases hn : r0.length + U.length - i with
  | zero => rw [hn] at hq; exact hq
  | succ n => rw [hn, closeN, dif_neg hi] at hq; exact hq
/-- What a source needs. -/
def needsB (l : List KSrc) (name : ByteArray) : List ByteArray := if atB l name < 0 then [] else ((closeN (gN l) ((gN l name).length + (uN l).length) (gN l name) 0).foldl putS []).filter fun x => !decide (x = name)
def needsI (l : List KSrc) (name : ByteArray) : List ByteArray := if atB l name < 0 then [] else sortS (delS name (closeN (gN l) ((addL [] (gN l name)).length + (uN l).length) (addL [] (gN l name)) 0))
theorem addL_nil_le (m : List ByteArray) : (addL [] m).length ≤ m.length := nodup_len _ _ (nodup_addL m [] List.nodup_nil) fun x hx => by simpa using (mem_addL m [] x).1 hx
theorem closeN_more {g : ByteArray → List ByteArray} {U r0 : List ByteArray} (hg : ∀ x, ∀ y ∈ g x, y ∈ U) : ∀ (n m i : Nat) (row : List ByteArray), (∃ t, row = r0 ++ t ∧ t.Nodup ∧ (∀ x ∈ t, x ∈ U) ∧ ∀ x ∈ t, ¬ x ∈ r0) → r0.length + U.length ≤ n + i → n ≤ m → closeN g m row i = closeN g n row i
  | 0, m, i, row, ht, hn, hm => by
    obtain ⟨t, e, t1, t2, t3⟩ := ht
    have := nodup_len t U t1 t2
    have hl : ¬ i < row.length := by rw [e, List.length_append]; omega
    cases m with
    | zero => rfl
    | succ m => simp only [closeN, dif_neg hl]
  | n + 1, 0, i, row, ht, hn, hm => by omega
  | n + 1, m + 1, i, row, ht, hn, hm => by
    by_cases h : i < row.length
    · simp only [closeN, dif_pos h]
      obtain ⟨t, e, t1, t2, t3⟩ := ht
      obtain ⟨u, e2, u1, u2, u3⟩ := addL_behind U (g row[i]) row (hg row[i])
      exact closeN_more hg n m (i + 1) _ ⟨t ++ u, by rw [e2, e, List.append_assoc], List.nodup_append.2 ⟨t1, u1, fun a ha b hb hab => u3 b hb (by rw [e]; simp [← hab, ha])⟩, fun x hx => (List.mem_append.1 hx).elim (t2 x) (u2 x), fun x hx => (List.mem_append.1 hx).elim (t3 x) fun hx hr => u3 x hx (by rw [e]; simp [hr])⟩ (by omega) (by omega)
    · simp only [closeN, dif_neg h]
theorem needs_same (l : List KSrc) (name : ByteArray) : needsI l name = needsB l name := by
  unfold needsI needsB delS
  by_cases h : atB l name < 0
  · rw [if_pos h, if_pos h]
  · rw [if_neg h, if_neg h]
    have hle := addL_nil_le (gN l name)
    rw [← closeN_more (r0 := addL [] (gN l name)) (gN_in l) _ ((gN l name).length + (uN l).length) 0 (addL [] (gN l name)) ⟨[], by simp, List.nodup_nil, by simp, by simp⟩ (by omega) (by omega)]
    exact needs_eq (gN_in l) name (Nat.le_refl _) (Nat.le_refl _)
theorem insS_length (s : ByteArray) : ∀ l : List ByteArray, (insS s l).length = l.length + 1
  | [] => rfl
  | x :: l => by
    unfold insS
    split
    · simp
    · simp [insS_length s l]
theorem putS_length (l : List ByteArray) (s : ByteArray) : (putS l s).length ≤ l.length + 1 := by
  unfold putS
  split
  · omega
  · rw [insS_length]; omega
theorem putSs_length : ∀ (m l : List ByteArray), (m.foldl putS l).length ≤ l.length + m.length
  | [], l => by simp
  | s :: m, l => by
    have h1 := putSs_length m (putS l s)
    have h2 := putS_length l s
    simp only [List.foldl_cons, List.length_cons]
    omega
theorem needsB_length (l : List KSrc) (name : ByteArray) : (needsB l name).length ≤ 2 * KSrc.us l := by
  unfold needsB
  split
  · exact Nat.zero_le _
  · refine Nat.le_trans (List.length_filter_le _ _) ?_
    have h1 := putSs_length (closeN (gN l) ((gN l name).length + (uN l).length) (gN l name) 0) []
    have h2 := (close_all (r0 := gN l name) (gN_in l) (n := (gN l name).length + (uN l).length) (Nat.le_refl _)).2.1
    have h3 := gN_len l name
    have h4 := uN_len l
    simp only [List.length_nil] at h1
    omega
/-- A text put in its place. -/
def putStep (s : ByteArray) (st : List ByteArray × Bool) (x : ByteArray) : List ByteArray × Bool := if st.2 = false ∧ sLt s x = true then (st.1 ++ [s] ++ [x], true) else (st.1 ++ [x], st.2)
theorem putStep_at (s : ByteArray) (a : List ByteArray) (b : Bool) (x : ByteArray) : putStep s (a, b) x = if b = false ∧ sLt s x = true then (a ++ [s] ++ [x], true) else (a ++ [x], b) := rfl
theorem putStep_fold (s : ByteArray) : ∀ (l a : List ByteArray) (b : Bool), ((l.foldl (putStep s) (a, b)).2 = true → (l.foldl (putStep s) (a, b)).1 = a ++ (if b then l else insS s l)) ∧ ((l.foldl (putStep s) (a, b)).2 = false → b = false ∧ (l.foldl (putStep s) (a, b)).1 ++ [s] = a ++ insS s l)
  | [], a, b => by cases b <;> simp [insS]
  | x :: l, a, b => by
    rw [List.foldl_cons, putStep_at]
    cases b with
    | true =>
      have ih := putStep_fold s l (a ++ [x]) true
      simp at ih ⊢
      exact ih
    | false =>
      by_cases h : sLt s x = true
      · have ih := putStep_fold s l (a ++ [s] ++ [x]) true
        simp [h, insS] at ih ⊢
        exact ⟨ih.1, fun h => by rw [ih.2] at h; cases h⟩
      · have ih := putStep_fold s l (a ++ [x]) false
        simp [h, insS] at ih ⊢
        exact ih
theorem putStep_len (s : ByteArray) : ∀ (l a : List ByteArray) (b : Bool), (l.foldl (putStep s) (a, b)).1.length ≤ a.length + l.length + 1
  | [], a, b => by simp
  | x :: l, a, b => by
    rw [List.foldl_cons, putStep_at]
    cases b with
    | true =>
      have ih := putStep_len s l (a ++ [x]) true
      simp at ih ⊢
      omega
    | false =>
      by_cases h : sLt s x = true
      · have ih := putStep_lenT s l (a ++ [s] ++ [x])
        simp [h] at ih ⊢
        omega
      · have ih := putStep_len s l (a ++ [x]) false
        simp [h] at ih ⊢
        omega
where putStep_lenT (s : ByteArray) : ∀ (l a : List ByteArray), (l.foldl (putStep s) (a, true)).1.length ≤ a.length + l.length
  | [], a => by simp
  | x :: l, a => by
    rw [List.foldl_cons]
    have ih := putStep_lenT s l (a ++ [x])
    rw [putStep_at]
    simp at ih ⊢
    omega
/-- What needs a source. -/
def neededL (l : List KSrc) (name : ByteArray) : List ByteArray := (l.filter fun s => decide (name ∈ needsB l s.name)).map KSrc.name
def neededB (l : List KSrc) (name : ByteArray) : List ByteArray := (neededL l name).foldl putS []
theorem needed_same (l : List KSrc) (name : ByteArray) : sortS (addL [] (neededL l name)) = neededB l name := sort_eq (nodup_addL _ [] List.nodup_nil) fun y => by simpa using mem_addL (neededL l name) [] y
theorem neededB_length (l : List KSrc) (name : ByteArray) : (neededB l name).length ≤ l.length := by
  have h1 := putSs_length (neededL l name) []
  have h2 : (neededL l name).length ≤ l.length := by unfold neededL; rw [List.length_map]; exact List.length_filter_le _ _
  unfold neededB
  simp only [List.length_nil] at h1
  omega
end Go.Proofs.Yticecjjfbjnaaaa.NE
