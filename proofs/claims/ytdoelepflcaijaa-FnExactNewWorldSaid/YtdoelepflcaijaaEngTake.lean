/- Looking at what a slot stands for, and taking it from its place. -/
import Derived.Test.YtdoelepflcaijaaEngRel
namespace Go.VS
open Go Go.RowKit
set_option linter.unusedSimpArgs false
set_option linter.unusedVariables false

variable {arg : Tmp → Value} {W w w' : World} {I I' : Nat → Prop} {O : Tmp → Nat → Prop} {s s' : RS} {vs : Array Value} {S : Nat → Prop} {c : CV} {x : X} {v : Value}

/-- What an operand is in the frame. -/
def XV (vs : Array Value) : X → Value → Prop
  | .t t, v => v = vs.getD t undef
  | .c c, v => ∀ arg w I, RepC arg w I c v (fun _ => False)

theorem RepRow.sub {row : List L} {get : Nat → Option Value} (h : RepRow w I row get S) (o n : Nat) : RepRow w I ((row.drop o).take n) (fun j => get (o + j)) S := by
  obtain ⟨D, h1, h2, h3⟩ := h
  refine ⟨fun j => D (o + j), fun j x hx => h1 _ x hx, fun j j' x hx hx' => by have := h2 _ _ x hx hx'; omega, fun j l hl => ?_⟩
  have hj : j < n := by
    have := (List.getElem?_eq_some_iff.1 hl).1
    rw [List.length_take] at this
    omega
  rw [List.getElem?_take_of_lt hj, List.getElem?_drop] at hl
  exact h3 (o + j) l hl

/-- A row's leaves from o on, n wide, as one value. -/
def Loaded (get : Nat → Option Value) (o n : Nat) (agg : Bool) (v : Value) : Prop :=
  (agg = true → ∃ cs, v = .agg cs ∧ cs.size = n ∧ ∀ j, j < n → cs[j]? = get (o + j)) ∧ (agg = false → n = 1 ∧ get o = some v)

theorem cells_rep {row : List L} {get : Nat → Option Value} {o n : Nat} {agg : Bool} (h : RepRow w I row get S) (hc : cellsOf row o n agg = some c) (hl : Loaded get o n agg v) : RepC arg w I c v S := by
  cases agg with
  | true =>
    simp only [cellsOf, if_true] at hc
    split at hc
    · rename_i hn
      obtain rfl := (Option.some.inj hc).symm
      obtain ⟨cs, rfl, h1, h2⟩ := hl.1 rfl
      refine ⟨cs, rfl, by rw [h1, List.length_take, List.length_drop]; omega, (h.sub o n).world (fun j hj => ?_) fun _ _ => rfl⟩
      rw [List.length_take] at hj
      exact h2 j (by omega)
    · cases hc
  | false =>
    simp only [cellsOf, if_false, Bool.false_eq_true] at hc
    split at hc
    · rename_i l hr
      obtain rfl := (Option.some.inj hc).symm
      obtain ⟨D, h1, h2, h3⟩ := h
      obtain ⟨u, u1, u2, u3⟩ := h3 o l hr
      have := (hl.2 rfl).2
      rw [u1] at this
      obtain rfl := Option.some.inj this
      exact ⟨u2, u3.mono (fun _ h => h) (h1 o)⟩
    · cases hc

theorem cells_row {row : List L} {o n : Nat} {agg : Bool} (hc : cellsOf row o n agg = some c) (h1 : agg = false → n = 1) : c.row = (row.drop o).take n ∧ o + n ≤ row.length := by
  cases agg with
  | true =>
    simp only [cellsOf, if_true] at hc
    split at hc
    · obtain rfl := (Option.some.inj hc).symm
      exact ⟨rfl, by assumption⟩
    · cases hc
  | false =>
    simp only [cellsOf, if_false, Bool.false_eq_true] at hc
    split at hc
    · rename_i l hr
      obtain rfl := (Option.some.inj hc).symm
      have hlt := (List.getElem?_eq_some_iff.1 hr).1
      have h1 := h1 rfl
      subst h1
      refine ⟨?_, by omega⟩
      rw [List.drop_eq_getElem_cons hlt]
      simp only [CV.row, List.take_succ_cons, List.take_zero]
      rw [← (List.getElem?_eq_some_iff.1 hr).2]
    · cases hc

theorem slot_some {e : Env} {r : Tmp} {p : List (Nat × Nat)} {row : List L} (h : slotAt e r p = some row) : ∃ c, e.get r = .v c ∧ rowAt p c.row = some row := by
  unfold slotAt rowOf at h
  split at h
  · rename_i row0 h0
    split at h0
    · rename_i c hc
      exact ⟨c, hc, by rw [Option.some.inj h0]; exact h⟩
    · cases h0
  · cases h

/-- The row at a place, in memory. -/
theorem Rel.slot (h : Rel arg W I O s vs w) {r : Tmp} {p : List (Nat × Nat)} {row : List L} (hs : slotAt s.e r p = some row) :
    ∃ c B' S', s.e.get r = .v c ∧ Follow w (c.base (vs.getD r undef)) c.row p B' row ∧ RepRow w I row (B'.get w) S' ∧ (∀ x, S' x → Under (c.base (vs.getD r undef)) (O r) x) ∧
      (p ≠ [] → ∃ b o cs e, B' = .addr b o ∧ O r b ∧ ¬ S' b ∧ w.heap[b]? = some (.cells cs e (0, 0)) ∧ o + row.length ≤ cs.size) ∧ Pokes w I p (c.base (vs.getD r undef)) c.row (Under (c.base (vs.getD r undef)) (O r)) B' row S' := by
  obtain ⟨c, hc, hp⟩ := slot_some hs
  have hr := h.rep r
  rw [hc] at hr
  obtain ⟨B', S', f1, f2, f3, f4, f5⟩ := follow p (RepC.root hr) hp
  exact ⟨c, B', S', hc, f1, f2, f3, fun hp => by obtain ⟨b, o, cs, e, k1, k2, k3⟩ := f4 hp; exact ⟨b, o, cs, e, k1, k2.1, k3⟩, f5⟩

theorem Roots.unique {r : Tmp} {p : List (Nat × Nat)} {B B' : Base} {row row' : List L} (h : Roots w s.e vs r p B row) (hc : s.e.get r = .v c) (hf : Follow w (c.base (vs.getD r undef)) c.row p B' row') : B = B' ∧ row = row' := by
  obtain ⟨c2, h1, h2⟩ := h
  rw [hc] at h1
  obtain rfl := (AV.v.inj h1).symm
  exact h2.same hf

/-- What an operand stands for lies as it should. -/
theorem Rel.look (h : Rel arg W I O s vs w) (hx : XV vs x v) (hl : s.look (s.val x) = some c) : ∃ t S, RepC arg w I c v S ∧ ∀ b, S b → O t b := by
  cases x with
  | c c0 =>
    simp only [RS.val, RS.look, Option.some.injEq] at hl
    subst hl
    exact ⟨0, fun _ => False, hx arg w I, fun _ h => h.elim⟩
  | t t =>
    simp only [XV] at hx
    subst hx
    simp only [RS.val] at hl
    have hr := h.rep t
    cases hav : s.e.get t with
    | v c0 =>
      rw [hav] at hl hr
      simp only [RS.look, Option.some.injEq] at hl
      subst hl
      exact ⟨t, O t, hr, fun _ h => h⟩
    | ld r p o n agg =>
      rw [hav] at hl hr
      simp only [RS.look] at hl
      split at hl
      · rename_i hcl
        split at hl
        · rename_i row hs
          obtain ⟨B, row', k1, k2⟩ := hr hcl
          obtain ⟨c1, B', S', hc1, f1, f2, f3, _⟩ := h.slot hs
          obtain ⟨rfl, rfl⟩ := k1.unique hc1 f1
          exact ⟨r, S', cells_rep f2 hl k2.2, fun b hb => (f3 b hb).1⟩
        · cases hl
      · cases hl
    | _ => rw [hav] at hl; cases hl

theorem patch_length : ∀ (ls row : List L) (o : Nat), (patch row o ls).length = row.length
  | [], row, o => rfl
  | l :: ls, row, o => by simp only [patch]; rw [patch_length ls]; simp
theorem patch_get : ∀ (ls row : List L) (o j : Nat), o + ls.length ≤ row.length → (patch row o ls)[j]? = if o ≤ j ∧ j < o + ls.length then ls[j - o]? else row[j]?
  | [], row, o, j, _ => by
    simp only [patch, List.length_nil, Nat.add_zero]
    rw [if_neg (by omega)]
  | l :: ls, row, o, j, h => by
    simp only [patch]
    rw [List.length_cons] at h ⊢
    rw [patch_get ls _ _ _ (by rw [List.length_set]; omega)]
    by_cases h1 : o ≤ j ∧ j < o + (ls.length + 1)
    · rw [if_pos h1]
      by_cases h2 : j = o
      · subst h2
        rw [if_neg (by omega), Nat.sub_self, List.getElem?_set_self (by omega)]
        rfl
      · rw [if_pos (by omega), show j - o = (j - (o + 1)) + 1 by omega, List.getElem?_cons_succ]
    · rw [if_neg h1, if_neg (by omega), List.getElem?_set_ne (by omega)]
theorem unownR_length : ∀ r : List L, (unownR r).length = r.length
  | [] => rfl
  | _ :: r => by simp only [unownR, List.length_cons, unownR_length r]
theorem unownR_get : ∀ (r : List L) (j : Nat), (unownR r)[j]? = (r[j]?).map L.unown
  | [], j => by simp [unownR]
  | x :: r, 0 => by simp [unownR]
  | x :: r, j + 1 => by simp [unownR, unownR_get r j]

/-- A row parted: what some of its leaves own, and the rest. -/
theorem RepRow.part {row : List L} {get : Nat → Option Value} (h : RepRow w I row get S) (o n : Nat) (hn : o + n ≤ row.length) :
    ∃ A T : Nat → Prop, (∀ x, A x → S x) ∧ (∀ x, T x → S x) ∧ (∀ x, A x → ¬ T x) ∧ RepRow w I ((row.drop o).take n) (fun j => get (o + j)) A ∧
      RepRow w I (patch row o (unownR ((row.drop o).take n))) get T := by
  obtain ⟨D, h1, h2, h3⟩ := h
  have hlen : ((row.drop o).take n).length = n := by rw [List.length_take, List.length_drop]; omega
  refine ⟨fun x => ∃ j, j < n ∧ D (o + j) x, fun x => ∃ j, ¬ (o ≤ j ∧ j < o + n) ∧ D j x, fun x ⟨j, _, hx⟩ => h1 _ x hx, fun x ⟨j, _, hx⟩ => h1 _ x hx, fun x ⟨j, hj, hx⟩ ⟨j', hj', hx'⟩ => ?_, ?_, ?_⟩
  · have := h2 _ _ x hx hx'
    omega
  · refine ⟨fun j x => j < n ∧ D (o + j) x, fun j x hx => ⟨j, hx⟩, fun j j' x hx hx' => by have := h2 _ _ x hx.2 hx'.2; omega, fun j l hl => ?_⟩
    have hj : j < n := by have := (List.getElem?_eq_some_iff.1 hl).1; omega
    rw [List.getElem?_take_of_lt hj, List.getElem?_drop] at hl
    obtain ⟨u, u1, u2, u3⟩ := h3 _ l hl
    exact ⟨u, u1, u2, u3.mono (fun _ h => h) fun x hx => ⟨hj, hx⟩⟩
  · refine ⟨fun j x => ¬ (o ≤ j ∧ j < o + n) ∧ D j x, fun j x hx => ⟨j, hx⟩, fun j j' x hx hx' => h2 _ _ x hx.2 hx'.2, fun j l hl => ?_⟩
    rw [patch_get _ _ _ _ (by rw [unownR_length, hlen]; exact hn), unownR_length, hlen] at hl
    by_cases hj : o ≤ j ∧ j < o + n
    · rw [if_pos hj, unownR_get, Option.map_eq_some_iff] at hl
      obtain ⟨l0, hl0, rfl⟩ := hl
      rw [List.getElem?_take_of_lt (by omega), List.getElem?_drop, show o + (j - o) = j by omega] at hl0
      obtain ⟨u, u1, u2, u3⟩ := h3 j l0 hl0
      refine ⟨u, u1, u2, ?_⟩
      unfold L.unown
      split
      · exact .bad ..
      · rename_i hno
        exact u3.unowned (by simpa using hno)
    · rw [if_neg hj] at hl
      obtain ⟨u, u1, u2, u3⟩ := h3 j l hl
      exact ⟨u, u1, u2, u3.mono (fun _ h => h) fun x hx => ⟨hj, hx⟩⟩

theorem RepC.withRow {row : List L} {T : Nat → Prop} (h : RepC arg w I c v S) (hl : row.length = c.row.length) (hr : RepRow w I row ((c.base v).get w) T) (hT : ∀ x, T x → S x)
    (hb : ∀ b o, c.base v = .addr b o → ¬ T b) : RepC arg w I (c.withRow row) v (fun x => T x ∨ ∃ o, c.base v = .addr x o) := by
  cases c with
  | leaf l =>
    cases row with
    | nil => simp [CV.row] at hl
    | cons l' r =>
      obtain ⟨D, h1, h2, h3⟩ := hr
      obtain ⟨u, u1, u2, u3⟩ := h3 0 l' rfl
      simp only [CV.base, Base.get] at u1
      obtain rfl := Option.some.inj u1
      exact ⟨u2, u3.mono (fun _ h => h) fun x hx => .inl (h1 0 x hx)⟩
  | agg ls =>
    obtain ⟨cs, rfl, h2, h3⟩ := h
    exact ⟨cs, rfl, h2.trans hl.symm, hr.mono (fun _ h => h) fun x hx => .inl hx⟩
  | box ls =>
    obtain ⟨b, cs, e, rfl, h2, h3, h4, h5⟩ := h
    refine ⟨b, cs, e, rfl, .inr ⟨0, rfl⟩, h3, h4.trans hl.symm, (hr.world (fun j _ => ?_) fun _ _ => rfl).mono (fun _ h => h) fun x hx => ⟨.inl hx, fun he => hb b 0 rfl (he ▸ hx)⟩⟩
    simp only [CV.base, Base.get, World.cell?, h3, Nat.zero_add]
    rfl
  | pbox t ls =>
    obtain ⟨b, cs, e, rfl, h2, h3, h4, h5, h6⟩ := h
    refine ⟨b, cs, e, rfl, .inr ⟨0, rfl⟩, h3, h4.trans hl.symm, (hr.world (fun j _ => ?_) fun _ _ => rfl).mono (fun _ h => h) (fun x hx => ⟨.inl hx, fun he => hb b 0 rfl (he ▸ hx)⟩), h6⟩
    simp only [CV.base, Base.get, World.cell?, h3, Nat.zero_add]
    rfl
  | gone => trivial

end Go.VS
