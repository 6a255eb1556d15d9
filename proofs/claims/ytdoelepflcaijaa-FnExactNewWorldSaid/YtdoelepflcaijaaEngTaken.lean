/- Taking what an operand stands for. -/
import Derived.Test.YtdoelepflcaijaaEngPoke
namespace Go.VS
open Go Go.RowKit
set_option linter.unusedSimpArgs false
set_option linter.unusedVariables false

variable {arg : Tmp → Value} {W w w' : World} {I I' : Nat → Prop} {O : Tmp → Nat → Prop} {s s' : RS} {vs : Array Value} {S : Nat → Prop} {c : CV} {x : X} {v : Value}

/-- A slot is struck: what it owned is nobody's. -/
theorem Rel.strike (h : Rel arg W I O s vs w) (t : Tmp) (av : AV) (hav : av = .bad) : Rel arg W I (fun t' b => if t' = t then False else O t' b) (s.put t av) vs w := by
  subst hav
  refine ⟨h.bel, h.old, h.ilt, fun t' b hb => ?_, fun t' b hb => ?_, fun t1 t2 b h1 h2 => ?_, fun t' => ?_⟩
  · by_cases ht : t' = t
    · simp only [ht, if_true] at hb
    · simp only [ht, if_false] at hb; exact h.olt t' b hb
  · by_cases ht : t' = t
    · simp only [ht, if_true] at hb
    · simp only [ht, if_false] at hb; exact h.notI t' b hb
  · by_cases ht1 : t1 = t
    · simp only [ht1, if_true] at h1
    · by_cases ht2 : t2 = t
      · simp only [ht2, if_true] at h2
      · simp only [ht1, if_false] at h1
        simp only [ht2, if_false] at h2
        exact h.disj t1 t2 b h1 h2
  · have hg : (s.put t .bad).e.get t' = if t' = t then .bad else s.e.get t' := by simp only [RS.put]; exact get_put ..
    rw [hg]
    by_cases ht : t' = t
    · simp only [ht, if_true]; trivial
    · simp only [ht, if_false]
      have hr := h.rep t'
      have hrt : ∀ r p B row, (s.e.get t).isV = true → r ≠ t → Roots w s.e vs r p B row → Roots w (s.put t .bad).e vs r p B row := fun r p B row _ hne ⟨c, h1, h2⟩ => ⟨c, by simp only [RS.put]; rw [get_put, if_neg hne]; exact h1, h2⟩
      have hrt' : ∀ r p B row, ((s.e.get t).isV = true → r ≠ t) → Roots w s.e vs r p B row → Roots w (s.put t .bad).e vs r p B row := fun r p B row hne ⟨c, h1, h2⟩ => by
        have hr : r ≠ t := fun e => hne (by rw [← e, h1]; rfl) e
        exact ⟨c, by simp only [RS.put]; rw [get_put, if_neg hr]; exact h1, h2⟩
      cases hav' : s.e.get t' with
      | ptr r p o =>
        rw [hav'] at hr
        intro hc
        obtain ⟨c1, c2⟩ := cleanP_put hc
        obtain ⟨b, o', row', k1, k2⟩ := hr c1
        exact ⟨b, o', row', hrt' r p _ _ c2 k1, k2⟩
      | ld r p o n agg =>
        rw [hav'] at hr
        intro hc
        obtain ⟨c1, c2⟩ := clean_put hc
        obtain ⟨B, row', k1, k2⟩ := hr c1
        exact ⟨B, row', hrt' r p _ _ c2 k1, k2⟩
      | _ => rw [hav'] at hr; exact hr

/-- What was owned is owned no more by s', or by it alone. -/
def Out (O O' : Tmp → Nat → Prop) (S : Nat → Prop) : Prop := (∀ b, S b → ∃ t, O t b) ∧ (∀ t b, O' t b → O t b) ∧ ∀ t b, O' t b → ¬ S b

theorem poke_rel_out (h : Rel arg W I O s vs w) {r : Tmp} {p : List (Nat × Nat)} {o n : Nat} {row : List L}
    (hs : slotAt s.e r p = some row) (hn : o + n ≤ row.length) (hs' : s.poke r p o (unownR ((row.drop o).take n)) = some s') :
    ∃ c B' S' A O', s.e.get r = .v c ∧ Follow w (c.base (vs.getD r undef)) c.row p B' row ∧ RepRow w I ((row.drop o).take n) (fun j => B'.get w (o + j)) A ∧ (∀ x, A x → O r x) ∧
      Rel arg W I O' (s'.mark r p o n) vs w ∧ Out O O' A ∧ (∀ x, S' x → O r x) ∧ RepRow w I row (B'.get w) S' := by
  obtain ⟨c, B', S', hc, f1, f2, f3, f4, f5⟩ := h.slot hs
  obtain ⟨A, T, a1, a2, a3, a4, a5⟩ := f2.part o n hn
  have hlen : (unownR ((row.drop o).take n)).length = n := by rw [unownR_length, List.length_take, List.length_drop]; omega
  have hrc := h.rep r
  rw [hc] at hrc
  have hblk : ∀ b o', B' = .addr b o' → ∃ cs e, w.heap[b]? = some (.cells cs e (0, 0)) := fun b o' hB => by
    by_cases hp : p = []
    · subst hp; cases f1
      obtain ⟨_, _, cs, e, m, _⟩ := base_owned hrc hB
      exact ⟨cs, e, m⟩
    · obtain ⟨b2, o2, cs, e, k1, _, _, k4, _⟩ := f4 hp
      rw [k1] at hB
      injection hB with h1 h2
      exact ⟨cs, e, h1 ▸ k4⟩
  have hk := h.poke (w' := w) (I' := I) (T := T) (N := fun _ => False) (ls := unownR ((row.drop o).take n)) (o := o) hc f1 f3
    (fun hp b o' hB => by
      obtain ⟨b2, o2, cs, e, k1, k2, k3, _⟩ := f4 hp
      rw [k1] at hB
      injection hB with h1 h2
      subst h1
      refine ⟨k2, k3, fun o3 hb => ?_⟩
      -- the block of a nested slice is not the root's own
      obtain ⟨B3, S3, g1, g2, g3, g4, _⟩ := follow p (RepC.root hrc) f1.rowAt
      obtain ⟨rfl, _⟩ := g1.same f1
      obtain ⟨b5, o5, cs5, e5, m1, m2, _⟩ := g4 hp
      rw [k1] at m1
      injection m1 with m1 _
      subst m1
      exact m2.2 o3 hb)
    f5 hs' (by rw [hlen]; exact hn) a5 (fun x hx => .inl (a2 x hx)) (fun x hx => hx.elim) h.bel (Nat.le_refl _) (fun _ h => h) h.ilt (fun x hx hn => absurd hx hn) (fun _ _ _ => rfl)
    (fun b o' hB => by
      obtain ⟨cs, e, m⟩ := hblk b o' hB
      exact ⟨cs, cs, e, m, m, rfl, fun _ _ => rfl⟩)
    (fun _ _ _ _ _ _ => rfl)
  rw [hlen] at hk
  have hbo : ∀ b o2, c.base (vs.getD r undef) = .addr b o2 → O r b := fun b o2 hb => (base_owned hrc hb).1
  refine ⟨c, B', S', A, _, hc, f1, a4, fun x hx => (f3 x (a1 x hx)).1, hk, ⟨fun b hb => ⟨r, (f3 b (a1 b hb)).1⟩, fun t b hb => ?_, fun t b hb hA => ?_⟩, fun x hx => (f3 x hx).1, f2⟩
  · by_cases ht : t = r
    · simp only [ht, if_true] at hb
      rw [ht]
      rcases hb with (hb | hb) | ⟨o2, hb⟩
      · exact hb.1.1
      · exact hb.elim
      · exact hbo b o2 hb
    · simp only [ht, if_false] at hb; exact hb
  · by_cases ht : t = r
    · simp only [ht, if_true] at hb
      rcases hb with (hb | hb) | ⟨o2, hb⟩
      · exact a3 b hA (hb.2 (a1 b hA))
      · exact hb.elim
      · exact (f3 b (a1 b hA)).2 o2 hb
    · simp only [ht, if_false] at hb
      exact ht (h.disj t r b hb (f3 b (a1 b hA)).1)

theorem unown_self : ∀ {ls : List L}, ownR ls = false → unownR ls = ls
  | [], _ => rfl
  | l :: ls, h => by
    simp only [ownR, Bool.or_eq_false_iff] at h
    simp only [unownR, unown_self h.2]
    unfold L.unown
    rw [if_neg (by simp [h.1])]

/-- What an operand stands for, taken: it lies as it should and is nobody else's. -/
theorem Rel.take (h : Rel arg W I O s vs w) (hx : XV vs x v) (ht : s.take x = some (c, s')) :
    ∃ S O', RepC arg w I c v S ∧ Rel arg W I O' s' vs w ∧ Out O O' S := by
  cases x with
  | c c0 =>
    simp only [RS.take, Option.some.injEq, Prod.mk.injEq] at ht
    obtain ⟨rfl, rfl⟩ := ht
    exact ⟨fun _ => False, O, hx arg w I, h, fun _ h => h.elim, fun _ _ h => h, fun _ _ _ h => h⟩
  | t t =>
    simp only [XV] at hx
    subst hx
    have hr := h.rep t
    simp only [RS.take] at ht
    cases hav : s.e.get t with
    | v c0 =>
      rw [hav] at ht hr
      have key : (if c0.shal then some (c0, s) else some (c0, s.put t .bad)) = some (c, s') → ∃ S O', RepC arg w I c (vs.getD t undef) S ∧ Rel arg W I O' s' vs w ∧ Out O O' S := by
        intro ht
        split at ht
        · rename_i hsh
          simp only [Option.some.injEq, Prod.mk.injEq] at ht
          obtain ⟨rfl, rfl⟩ := ht
          exact ⟨fun _ => False, O, RepC.unowned hr hsh, h, fun _ h => h.elim, fun _ _ h => h, fun _ _ _ h => h⟩
        · simp only [Option.some.injEq, Prod.mk.injEq] at ht
          obtain ⟨rfl, rfl⟩ := ht
          refine ⟨O t, _, hr, h.strike t _ rfl, fun b hb => ⟨t, hb⟩, fun t' b hb => ?_, fun t' b hb hb' => ?_⟩
          · by_cases ht : t' = t
            · simp only [ht, if_true] at hb
            · simp only [ht, if_false] at hb; exact hb
          · by_cases ht : t' = t
            · simp only [ht, if_true] at hb
            · simp only [ht, if_false] at hb; exact ht (h.disj t' t b hb hb')
      cases c0 with
      | pbox => cases ht
      | gone => cases ht
      | _ => exact key ht
    | ld r p o n agg =>
      rw [hav] at ht hr
      simp only at ht
      cases hl : s.look (.ld r p o n agg) with
      | none => rw [hl] at ht; cases ht
      | some c0 =>
        rw [hl] at ht
        simp only at ht
        have hl' := hl
        simp only [RS.look] at hl
        split at hl
        · rename_i hcl
          split at hl
          · rename_i row hs
            obtain ⟨B, row', k1, k0, k2⟩ := hr hcl
            have hload : Loaded (B.get w) o n agg (vs.getD t undef) := k2
            obtain ⟨hrow, hfit⟩ := cells_row hl (fun ha => (k2.2 ha).1)
            split at ht
            · rename_i hsh
              simp only [Option.some.injEq, Prod.mk.injEq] at ht
              obtain ⟨rfl, rfl⟩ := ht
              obtain ⟨t', S, q1, q2⟩ := h.look (x := .t t) (v := vs.getD t undef) rfl (by simp only [RS.val, hav]; exact hl')
              exact ⟨fun _ => False, O, RepC.unowned q1 hsh, h, fun _ h => h.elim, fun _ _ h => h, fun _ _ _ h => h⟩
            · split at ht
              · rename_i s1 hp
                simp only [Option.some.injEq, Prod.mk.injEq] at ht
                obtain ⟨rfl, rfl⟩ := ht
                rw [hrow] at hp
                obtain ⟨c1, B', S', A, O', g1, g2, g3, g4, g5, g6, g7, g8⟩ := poke_rel_out h hs hfit hp
                obtain ⟨rfl, rfl⟩ := k1.unique g1 g2
                refine ⟨A, O', ?_, g5, g6⟩
                -- the value, out of the loaded cells
                cases agg with
                | true =>
                  simp only [cellsOf, if_true] at hl
                  split at hl
                  · obtain rfl := (Option.some.inj hl).symm
                    obtain ⟨cs, hv, h1, h2⟩ := hload.1 rfl
                    refine ⟨cs, hv, by rw [h1, List.length_take, List.length_drop]; omega, g3.world (fun j hj => ?_) fun _ _ => rfl⟩
                    rw [List.length_take] at hj
                    exact h2 j (by omega)
                  · rename_i hnf
                    exact absurd hfit hnf
                | false =>
                  obtain ⟨hn1, hv⟩ := hload.2 rfl
                  simp only [cellsOf, if_false, Bool.false_eq_true] at hl
                  split at hl
                  · rename_i l hrl
                    obtain rfl := (Option.some.inj hl).symm
                    obtain ⟨D, d1, d2, d3⟩ := g3
                    simp only [CV.row] at hrow
                    rw [← hrow] at d3
                    obtain ⟨u, u1, u2, u3⟩ := d3 0 l rfl
                    simp only [Nat.add_zero] at u1
                    rw [u1] at hv
                    obtain rfl := Option.some.inj hv
                    exact ⟨u2, u3.mono (fun _ h => h) (d1 0)⟩
                  · cases hl
              · cases ht
          · cases hl
        · cases hl
    | _ => rw [hav] at ht; cases ht

end Go.VS
