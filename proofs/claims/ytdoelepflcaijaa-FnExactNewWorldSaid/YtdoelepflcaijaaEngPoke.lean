/- A place's leaves changed, in the value and perhaps in memory. -/
import Derived.Test.YtdoelepflcaijaaEngTake
namespace Go.VS
open Go Go.RowKit
set_option linter.unusedSimpArgs false
set_option linter.unusedVariables false

variable {arg : Tmp → Value} {W w w' : World} {I I' : Nat → Prop} {O : Tmp → Nat → Prop} {s s' : RS} {vs : Array Value} {S : Nat → Prop} {c : CV} {x : X} {v : Value}

theorem base_owned (h : RepC arg w I c v S) {b o : Nat} (hb : c.base v = .addr b o) : S b ∧ o = 0 ∧ ∃ cs e, w.heap[b]? = some (.cells cs e (0, 0)) ∧ cs.size = c.row.length := by
  cases c with
  | box row =>
    obtain ⟨b', cs, e, rfl, h2, h3, h4, h5⟩ := h
    simp only [CV.base, Base.addr.injEq] at hb
    obtain ⟨rfl, rfl⟩ := hb
    exact ⟨h2, rfl, cs, e, h3, h4⟩
  | pbox t row =>
    obtain ⟨b', cs, e, rfl, h2, h3, h4, h5, _⟩ := h
    simp only [CV.base, Base.addr.injEq] at hb
    obtain ⟨rfl, rfl⟩ := hb
    exact ⟨h2, rfl, cs, e, h3, h4⟩
  | leaf l => cases hb
  | agg ls => obtain ⟨cs, rfl, _⟩ := h; cases hb
  | gone => cases hb

theorem clean_mark {d : List Dirt} {r r' : Tmp} {q p : List (Nat × Nat)} {o n x k : Nat} (h : clean ((r, q, o, n) :: d) r' p x k = true) : clean d r' p x k = true ∧ (r = r' → n ≠ 0 ∧ meets q o n p x k = false) := by
  simp only [clean, Bool.and_eq_true, Bool.not_eq_true', Bool.and_eq_false_iff, Bool.or_eq_false_iff, beq_eq_false_iff_ne] at h
  refine ⟨h.2, fun he => ?_⟩
  rcases h.1 with h1 | h1
  · exact absurd he h1
  · exact h1
theorem cleanP_mark {d : List Dirt} {r r' : Tmp} {q p : List (Nat × Nat)} {o n : Nat} (h : cleanP ((r, q, o, n) :: d) r' p = true) : cleanP d r' p = true ∧ (r = r' → n ≠ 0 ∧ hits q o n p = false) := by
  simp only [cleanP, Bool.and_eq_true, Bool.not_eq_true', Bool.and_eq_false_iff, Bool.or_eq_false_iff, beq_eq_false_iff_ne] at h
  refine ⟨h.2, fun he => ?_⟩
  rcases h.1 with h1 | h1
  · exact absurd he h1
  · exact h1
theorem meets_hits : ∀ (q p : List (Nat × Nat)) (o n x k : Nat), meets q o n p x k = false → hits q o n p = false
  | [], [], _, _, _, _, _ => rfl
  | [], _ :: _, _, _, _, _, h => h
  | _ :: _, [], _, _, _, _, _ => rfl
  | (a, _) :: q, (b, _) :: p, o, n, x, k, h => by
    simp only [meets, hits, Bool.and_eq_false_iff] at h ⊢
    exact h.imp id (meets_hits q p o n x k)

theorem poke_some {r : Tmp} {p : List (Nat × Nat)} {o : Nat} {ls row : List L} (hc : s.e.get r = .v c) (hp : rowAt p c.row = some row) (h : s.poke r p o ls = some s') : s' = s.set r (.v (c.withRow (setRow p c.row (patch row o ls)))) := by
  simp only [RS.poke, hc, hp, Option.some.injEq] at h
  exact h.symm

theorem row_withRow {row : List L} (hl : row.length = c.row.length) : (c.withRow row).row = row := by
  cases c with
  | leaf l =>
    cases row with
    | nil => simp [CV.row] at hl
    | cons a r =>
      simp only [CV.row, List.length_cons, List.length_nil] at hl
      obtain rfl : r = [] := List.eq_nil_of_length_eq_zero (by omega)
      rfl
  | agg ls => rfl
  | box ls => rfl
  | pbox t ls => rfl
  | gone => exact (List.eq_nil_of_length_eq_zero hl).symm

/-- The leaves at a place have changed. -/
theorem Rel.poke (h : Rel arg W I O s vs w) {r : Tmp} {p : List (Nat × Nat)} {o : Nat} {ls row : List L} {B' : Base} {S' T N : Nat → Prop}
    (hc : s.e.get r = .v c) (hf : Follow w (c.base (vs.getD r undef)) c.row p B' row) (hS' : ∀ x, S' x → Under (c.base (vs.getD r undef)) (O r) x)
    (hBb : p ≠ [] → ∀ b o', B' = .addr b o' → O r b ∧ ¬ S' b ∧ ∀ o2, c.base (vs.getD r undef) ≠ .addr b o2)
    (hpk : Pokes w I p (c.base (vs.getD r undef)) c.row (Under (c.base (vs.getD r undef)) (O r)) B' row S') (hs' : s.poke r p o ls = some s') (hn : o + ls.length ≤ row.length)
    (hnew : RepRow w' I' (patch row o ls) (B'.get w') T) (hT : ∀ x, T x → S' x ∨ N x) (hN : ∀ x, N x → x < w'.heap.size ∧ ¬ I' x ∧ ∀ t, ¬ O t x)
    (hbel : Below W.heap.size W w') (hsz : w.heap.size ≤ w'.heap.size) (hI : ∀ x, I x → I' x) (hI' : ∀ x, I' x → x < w'.heap.size)
    (hIO : ∀ x, I' x → ¬ I x → (∀ t, ¬ O t x) ∨ (O r x ∧ S' x ∧ ¬ T x))
    (hw : ∀ x, (∀ o', B' ≠ .addr x o') → x < w.heap.size → w'.heap[x]? = w.heap[x]?)
    (hblk : ∀ b o', B' = .addr b o' → ∃ cs cs' e, w.heap[b]? = some (.cells cs e (0, 0)) ∧ w'.heap[b]? = some (.cells cs' e (0, 0)) ∧ cs'.size = cs.size ∧ ∀ k, ¬ (o' + o ≤ k ∧ k < o' + o + ls.length) → cs'[k]? = cs[k]?)
    (hpb : p = [] → ∀ t row0, c = .pbox t row0 → ∀ x, x < w.heap.size → w'.heap[x]? = w.heap[x]?) :
    Rel arg W I' (fun t x => if t = r then ((Under (c.base (vs.getD r undef)) (O r) x ∧ (S' x → T x)) ∨ N x) ∨ ∃ o2, c.base (vs.getD r undef) = .addr x o2 else O t x) (s'.mark r p o ls.length) vs w' := by
  have hrc := h.rep r
  rw [hc] at hrc
  have hrc : RepC arg w I c (vs.getD r undef) (O r) := hrc
  have hroot := RepC.root hrc
  have hrow := hf.rowAt
  obtain rfl := poke_some hc hrow hs'
  -- the root's own block
  have hbase : ∀ b o2, c.base (vs.getD r undef) = .addr b o2 → O r b := fun b o2 hb => (base_owned hrc hb).1
  -- the changed block is the root's
  have hB'O : ∀ b o', B' = .addr b o' → O r b := fun b o' hB => by
    by_cases hp : p = []
    · subst hp; cases hf; exact hbase b o' hB
    · exact (hBb hp b o' hB).1
  have hBw : p ≠ [] → ∀ j, (c.base (vs.getD r undef)).get w' j = (c.base (vs.getD r undef)).get w j := fun hp j => by
    cases hb : c.base (vs.getD r undef) with
    | vals cs => rfl
    | addr b o2 =>
      refine World.cell?_of_block (w := w) (w' := w') (a := ⟨b, o2 + j, none⟩) (hw b (fun o' hB => ?_) (h.olt r b (hbase b o2 hb)))
      exact (hBb hp b o' hB).2.2 o2 hb
  have hIw : ∀ x, I x → w'.heap[x]? = w.heap[x]? := fun x hx => hw x (fun o' hB => h.notI r x (hB'O x o' hB) hx) (h.ilt x hx)
  have hlen : (patch row o ls).length = row.length := patch_length ls row o
  have hnewrow := hpk w' I' N T (patch row o ls) hlen hnew hT (fun x hx hu => (hN x hx).2.2 r hu.1) hI hIw
    (fun x hx hns hne => by
      by_cases hp : p = []
      · subst hp
        cases hf
        exact hw x (fun o' hB => hx.2 o' hB) (h.olt r x hx.1)
      · exact hw x (fun o' hB => hne x o' hB hp rfl) (h.olt r x hx.1))
    (fun hp b o' hB => by
      obtain ⟨cs, cs', e, k1, k2, k3, k4⟩ := hblk b o' hB
      exact ⟨cs, cs', e, k1, k2, k3, fun k hk => k4 k (by omega)⟩) hBw
  have hsetlen : (setRow p c.row (patch row o ls)).length = c.row.length := by
    by_cases hp : p = []
    · subst hp; cases hf; exact hlen
    · exact setRow_length p _ _ hp
  refine ⟨hbel, fun b hb => hI b (h.old b hb), hI', fun t b hb => ?_, fun t b hb => ?_, fun t t' b hb hb' => ?_, fun t => ?_⟩
  · by_cases ht : t = r
    · simp only [ht, if_true] at hb
      rcases hb with (hb | hb) | ⟨o2, hb⟩
      · exact Nat.lt_of_lt_of_le (h.olt r b hb.1.1) hsz
      · exact (hN b hb).1
      · exact Nat.lt_of_lt_of_le (h.olt r b (hbase b o2 hb)) hsz
    · simp only [ht, if_false] at hb; exact Nat.lt_of_lt_of_le (h.olt t b hb) hsz
  · intro hi
    by_cases hib : I b
    · by_cases ht : t = r
      · simp only [ht, if_true] at hb
        rcases hb with (hb | hb) | ⟨o2, hb⟩
        · exact h.notI r b hb.1.1 hib
        · exact (hN b hb).2.1 hi
        · exact h.notI r b (hbase b o2 hb) hib
      · simp only [ht, if_false] at hb; exact h.notI t b hb hib
    · rcases hIO b hi hib with hno | ⟨hor, hs, hnt⟩
      · by_cases ht : t = r
        · simp only [ht, if_true] at hb
          rcases hb with (hb | hb) | ⟨o2, hb⟩
          · exact hno r hb.1.1
          · exact (hN b hb).2.1 hi
          · exact hno r (hbase b o2 hb)
        · simp only [ht, if_false] at hb; exact hno t hb
      · by_cases ht : t = r
        · simp only [ht, if_true] at hb
          rcases hb with (hb | hb) | ⟨o2, hb⟩
          · exact hnt (hb.2 hs)
          · exact (hN b hb).2.1 hi
          · exact (hS' b hs).2 o2 hb
        · simp only [ht, if_false] at hb; exact ht (h.disj t r b hb hor)
  · by_cases ht : t = r <;> by_cases ht' : t' = r
    · rw [ht, ht']
    · simp only [ht, if_true] at hb
      simp only [ht', if_false] at hb'
      rcases hb with (hb | hb) | ⟨o2, hb⟩
      · exact absurd (h.disj r t' b hb.1.1 hb').symm ht'
      · exact absurd hb' ((hN b hb).2.2 t')
      · exact absurd (h.disj r t' b (hbase b o2 hb) hb').symm ht'
    · simp only [ht', if_true] at hb'
      simp only [ht, if_false] at hb
      rcases hb' with (hb' | hb') | ⟨o2, hb'⟩
      · exact absurd (h.disj r t b hb'.1.1 hb).symm ht
      · exact absurd hb ((hN b hb').2.2 t)
      · exact absurd (h.disj r t b (hbase b o2 hb') hb).symm ht
    · simp only [ht, if_false] at hb
      simp only [ht', if_false] at hb'
      exact h.disj t t' b hb hb'
  · have hg : ((s.set r (.v (c.withRow (setRow p c.row (patch row o ls))))).mark r p o ls.length).e.get t = if t = r then .v (c.withRow (setRow p c.row (patch row o ls))) else s.e.get t := by simp only [RS.set, RS.mark]; exact get_put ..
    -- roots seen from a slot that is not hit
    have hroots : ∀ r2 p2 B2 row2, Roots w s.e vs r2 p2 B2 row2 → (r = r2 → hits p o ls.length p2 = false) →
        ∃ row2', Roots w' (s.e.put r (.v (c.withRow (setRow p c.row (patch row o ls))))) vs r2 p2 B2 row2' ∧ row2'.length = row2.length ∧ ∀ x k, (r = r2 → meets p o ls.length p2 x k = false) → x + k ≤ row2.length → ∀ j, x ≤ j → j < x + k → B2.get w' j = B2.get w j := by
      intro r2 p2 B2 row2 ⟨c2, g1, g2⟩ hh
      by_cases hr : r2 = r
      · subst hr
        rw [hc] at g1
        obtain rfl := AV.v.inj g1
        obtain ⟨row2', k1, k2, k3⟩ := follow_poke (w' := w') (o := o) (n := ls.length) (new := patch row o ls) p p2 hroot hf g2 (hh rfl) hlen (fun j hj => by rw [patch_get ls row o j hn, if_neg hj])
          (fun j hj hjp => by
            by_cases hp : p = []
            · subst hp
              cases hf
              cases hb : c.base (vs.getD r2 undef) with
              | vals cs => rfl
              | addr b o2 =>
                obtain ⟨cs, cs', e, m1, m2, m3, m4⟩ := hblk b o2 hb
                simp only [Base.get]
                rw [cell_of m1, cell_of m2]
                exact m4 _ (by have := hjp rfl; omega)
            · exact hBw hp j)
          (fun b o' hp hB => by
            obtain ⟨cs, cs', e, m1, m2, m3, m4⟩ := hblk b o' hB
            exact ⟨cs, cs', e, m1, m2, m4⟩) (fun _ => hn)
          (fun x hx hne => by
            by_cases hp : p = []
            · subst hp
              cases hf
              exact hw x (fun o' hB => hx.2 o' hB) (h.olt r2 x hx.1)
            · exact hw x (fun o' hB => hne hp o' hB) (h.olt r2 x hx.1))
        refine ⟨row2', ⟨_, by rw [get_put, if_pos rfl], ?_⟩, k2, fun x k hm => k3 x k (hm rfl)⟩
        rw [base_withRow, row_withRow hsetlen]
        exact k1
      · have hr2 := h.rep r2
        rw [g1] at hr2
        have hne : ∀ x, O r2 x → w'.heap[x]? = w.heap[x]? := fun x hx => hw x (fun o' hB => hr (h.disj r2 r x hx (hB'O x o' hB))) (h.olt r2 x hx)
        obtain ⟨k1, k2⟩ := g2.world (w' := w') (RepC.root hr2) (fun x hx => hne x hx.1) (fun j _ => by
          cases hb : c2.base (vs.getD r2 undef) with
          | vals cs => rfl
          | addr b o2 => exact World.cell?_of_block (w := w) (w' := w') (a := ⟨b, o2 + j, none⟩) (hne b (base_owned hr2 hb).1))
        exact ⟨row2, ⟨c2, by rw [get_put, if_neg hr]; exact g1, k1⟩, rfl, fun x k _ hx j _ h2 => k2 j (by omega)⟩
    rw [hg]
    by_cases ht : t = r
    · subst ht
      simp only [if_true]
      have hsz' : ∀ b o2, c.base (vs.getD t undef) = .addr b o2 → ∃ cs e, w'.heap[b]? = some (.cells cs e (0, 0)) ∧ cs.size = c.row.length := fun b o2 hb => by
        obtain ⟨_, _, cs, e, m1, m2⟩ := base_owned hrc hb
        by_cases hp : p = []
        · subst hp
          cases hf
          obtain ⟨cs1, cs', e', n1, n2, n3, _⟩ := hblk b o2 hb
          rw [m1] at n1
          simp only [Option.some.injEq, Obj.cells.injEq] at n1
          obtain ⟨rfl, rfl, _⟩ := n1
          exact ⟨cs', e, n2, n3.trans m2⟩
        · exact ⟨cs, e, (hw b (fun o' hB => (hBb hp b o' hB).2.2 o2 hb) (h.olt t b (hbase b o2 hb))).trans m1, m2⟩
      have hnb : ∀ b o2, c.base (vs.getD t undef) = .addr b o2 → ¬ ((Under (c.base (vs.getD t undef)) (O t) b ∧ (S' b → T b)) ∨ N b) := fun b o2 hb hx => by
        rcases hx with hx | hx
        · exact hx.1.2 o2 hb
        · exact (hN b hx).2.2 t (hbase b o2 hb)
      show RepC arg w' I' (c.withRow _) (vs.getD t undef) _
      cases c with
      | leaf l =>
        obtain ⟨D, h1, h2, h3⟩ := hnewrow
        cases hrw : setRow p (CV.leaf l).row (patch row o ls) with
        | nil => rw [hrw] at hsetlen; simp [CV.row] at hsetlen
        | cons l' r' =>
          rw [hrw] at h3
          obtain ⟨u, u1, u2, u3⟩ := h3 0 l' rfl
          simp only [CV.base, Base.get] at u1
          obtain rfl := Option.some.inj u1
          exact ⟨u2, u3.mono (fun _ h => h) fun x hx => .inl (h1 0 x hx)⟩
      | agg ls0 =>
        obtain ⟨cs, hv, h2, h3⟩ := hrc
        refine ⟨cs, hv, h2.trans hsetlen.symm, ?_⟩
        refine RepRow.mono ?_ (fun _ h => h) (fun x hx => .inl hx)
        rw [hv] at hnewrow
        rw [hv]
        exact hnewrow
      | box ls0 =>
        obtain ⟨b, cs, e, hv, h2, h3, h4, h5⟩ := hrc
        have hb : (CV.box ls0).base (vs.getD t undef) = .addr b 0 := by rw [hv]; rfl
        obtain ⟨cs', e', m1, m2⟩ := hsz' b 0 hb
        refine ⟨b, cs', e', hv, .inr ⟨0, hb⟩, m1, m2.trans hsetlen.symm, (hnewrow.world (fun j _ => ?_) fun _ _ => rfl).mono (fun _ h => h) fun x hx => ⟨.inl hx, fun he => hnb b 0 hb (he ▸ hx)⟩⟩
        rw [hb]
        simp only [Base.get, Nat.zero_add]
        exact (cell_of m1 j).symm
      | pbox t0 ls0 =>
        obtain ⟨b, cs, e, hv, h2, h3, h4, h5, h6⟩ := hrc
        have hb : (CV.pbox t0 ls0).base (vs.getD t undef) = .addr b 0 := by rw [hv]; rfl
        have hbw : w'.heap[b]? = some (.cells cs e (0, 0)) := by
          by_cases hp : p = []
          · exact (hpb hp t0 ls0 rfl b (h.olt t b h2)).trans h3
          · exact (hw b (fun o' hB => (hBb hp b o' hB).2.2 0 hb) (h.olt t b h2)).trans h3
        refine ⟨b, cs, e, hv, .inr ⟨0, hb⟩, hbw, h4.trans hsetlen.symm, (hnewrow.world (fun j _ => ?_) fun _ _ => rfl).mono (fun _ h => h) (fun x hx => ⟨.inl hx, fun he => hnb b 0 hb (he ▸ hx)⟩), h6⟩
        rw [hb]
        simp only [Base.get, Nat.zero_add]
        exact (cell_of hbw j).symm
      | gone => trivial
    · simp only [ht, if_false]
      have hr := h.rep t
      have hblk' : ∀ b, O t b ∨ I b → w'.heap[b]? = w.heap[b]? := fun b hb => hb.elim (fun hb => hw b (fun o' hB => ht (h.disj t r b hb (hB'O b o' hB))) (h.olt t b hb)) (hIw b)
      cases hav' : s.e.get t with
      | bad => trivial
      | un => rw [hav'] at hr; exact hr
      | v c => rw [hav'] at hr; exact RepC.mono (RepC.world hr hblk') hI (fun _ h => h)
      | tup cs =>
        rw [hav'] at hr
        obtain ⟨us, h1, h2, D, d1, d2, d3⟩ := hr
        refine ⟨us, h1, h2, D, d1, d2, fun j c hc => ?_⟩
        obtain ⟨u, u1, u2⟩ := d3 j c hc
        exact ⟨u, u1, (u2.world fun b hb => hblk' b (hb.imp (d1 j b) id)).mono hI fun _ h => h⟩
      | iptr row o =>
        rw [hav'] at hr
        obtain ⟨b, o', h1, h2, h3⟩ := hr
        exact ⟨b, o', hI b h1, h2, (h3.world (fun j _ => World.cell?_of_block (w := w) (w' := w') (a := ⟨b, o' + j, none⟩) (hblk' b (.inr h1))) fun x hx => hblk' x (.inr (hx.resolve_left id))).mono hI fun _ h => h⟩
      | ptr r2 p2 o2 =>
        rw [hav'] at hr
        intro hcl
        obtain ⟨c1, c2⟩ := cleanP_mark hcl
        obtain ⟨b, o', row', k1, k2⟩ := hr c1
        obtain ⟨row2', q1, _, _⟩ := hroots r2 p2 _ _ k1 (fun he => (c2 he).2)
        exact ⟨b, o', row2', q1, k2⟩
      | ld r2 p2 o2 n2 agg =>
        rw [hav'] at hr
        intro hcl
        obtain ⟨c1, c2⟩ := clean_mark hcl
        obtain ⟨B, row', k1, k0, k2, k3⟩ := hr c1
        obtain ⟨row2', q1, q2, q3⟩ := hroots r2 p2 _ _ k1 (fun he => meets_hits _ _ _ _ _ _ (c2 he).2)
        have hsame := q3 o2 n2 (fun he => (c2 he).2) k0
        refine ⟨B, row2', q1, by omega, fun ha => ?_, fun ha => ?_⟩
        · obtain ⟨cs, m1, m2, m3⟩ := k2 ha
          exact ⟨cs, m1, m2, fun j hj => (m3 j hj).trans (hsame (o2 + j) (by omega) (by omega)).symm⟩
        · obtain ⟨m1, m2⟩ := k3 ha
          exact ⟨m1, (hsame o2 (by omega) (by omega)).trans m2⟩

end Go.VS
