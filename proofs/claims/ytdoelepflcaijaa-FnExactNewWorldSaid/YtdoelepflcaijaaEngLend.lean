/- A call whose argument is lent without being a box: taken, and laid back. -/
import Derived.Test.YtdoelepflcaijaaEngCalled
namespace Go.VS
open Go Go.RowKit
set_option linter.unusedSimpArgs false
set_option linter.unusedVariables false

variable {P : Program} {arg : Tmp → Value} {W w w' w0 : World} {I I' I0 : Nat → Prop} {O O' O0 : Tmp → Nat → Prop} {s s' s0 s3 : RS} {vs : Array Value} {S S' : Nat → Prop} {c : CV} {x : X} {v : Value} {G : Sigs} {F : Fns}

/-- A slot's hold is changed, the frame is not. -/
theorem Rel.put_same {vs : Array Value} {t : Tmp} {av : AV} {S : Nat → Prop} (h : Rel arg W I O s vs w) (ht : t < vs.size) (hS : ∀ b, S b → b < w.heap.size ∧ ¬ I b ∧ ∀ t', t' ≠ t → ¬ O t' b) (hav : RepA arg w I s vs av (vs.getD t undef) S) (hnp : ∀ r p o, av ≠ .ptr r p o) :
    Rel arg W I (fun t' => if t' = t then S else O t') (s.put t av) vs w := by
  have := h.step ht (Below.refl _ _) hS hav (fun r p o e => absurd e (hnp r p o))
  have he : vs.setIfInBounds t (vs.getD t undef) = vs := by
    refine Array.ext (by simp) fun i h1 h2 => ?_
    rw [Array.getElem_setIfInBounds]
    split
    · rename_i e; subst e; simp [Array.getD, ht]
    · rfl
  rw [he] at this
  exact this

theorem Follow.sameB : ∀ {p : List (Nat × Nat)} {B B1 B2 : Base} {row row' r1 r2 : List L}, Follow w B row p B1 r1 → Follow w B row' p B2 r2 → pathSz p row = pathSz p row' → B1 = B2
  | [], B, B1, B2, row, row', r1, r2, h1, h2, hz => by cases h1; cases h2; rfl
  | (c, i) :: p, B, B1, B2, row, row', r1, r2, h1, h2, hz => by
    cases h1 with
    | step _ _ _ _ _ _ _ sz rows r b len cap e1 e2 e3 e4 =>
      cases h2 with
      | step _ _ _ _ _ _ _ sz' rows' r' b' len' cap' k1 k2 k3 k4 =>
        simp only [pathSz, e1, e2, k1, k2, List.cons.injEq] at hz
        obtain ⟨rfl, hz⟩ := hz
        rw [e3] at k3
        simp only [Option.some.injEq, Value.slice.injEq, Addr.mk.injEq] at k3
        obtain ⟨⟨rfl, _⟩, _⟩ := k3
        exact Follow.sameB e4 k4 hz

theorem relay_sound {ms : List Tmp} {t : Tmp} (h0 : Rel arg W I0 O0 s0 vs w0) (h : Rel arg W I O s vs w) (hv : v = vs.getD t undef) {c1 : CV} (hl : s0.look (s0.e.get t) = some c1) (hfl : c1.flat = true) (hsh : c1.shal = false)
    (hsame : ∀ r, r ∉ ms → (∀ b, O r b → w.heap[b]? = w0.heap[b]?) ∧ ∀ c2, s.e.get r = .v c2 → ∃ c0, s0.e.get r = .v c0 ∧ ∀ v, c2.base v = c0.base v)
    (hc : RepC arg w I c v S') (hS : ∀ b, S' b → b < w.heap.size ∧ ¬ I b ∧ ∀ t, ¬ O t b) (hr : s0.relay s ms t c (s0.e.get t) = some s3) :
    ∃ O3, Rel arg W I O3 s3 vs w ∧ ∀ t b, O3 t b → (∃ t', O t' b) ∨ S' b := by
  have hrep0 := h0.rep t
  cases hav : s0.e.get t with
  | v c0 =>
    rw [hav] at hr hl hrep0
    simp only [RS.relay] at hr
    obtain ⟨hf, rfl⟩ := (show c.flat = true ∧ s.put t (.v c) = s3 by
      split at hr
      · rename_i hf; exact ⟨hf, Option.some.inj hr⟩
      · cases hr)
    simp only [RS.look, Option.some.injEq] at hl
    subst hl
    have ht : t < vs.size := by
      rcases Nat.lt_or_ge t vs.size with h' | h'
      · exact h'
      · exfalso
        have hu : vs.getD t undef = undef := by simp [Array.getD, Nat.not_lt.2 h']
        rw [hu] at hrep0
        replace hrep0 : RepC arg w0 I0 c0 undef (O0 t) := hrep0
        cases c0 with
        | leaf l =>
          cases l with
          | sl o sz rows => have := hrep0.2; cases this
          | _ => cases hsh
        | agg ls => obtain ⟨cs, h1, _⟩ := hrep0; cases h1
        | box row => obtain ⟨b, cs, e, h1, _⟩ := hrep0; cases h1
        | pbox t0 row => obtain ⟨b, cs, e, h1, _⟩ := hrep0; cases h1
        | gone => cases hfl
    have hp := h.put_same (av := .v c) (S := S') ht (fun b hb => ⟨(hS b hb).1, (hS b hb).2.1, fun t' _ => (hS b hb).2.2 t'⟩) (by rw [← hv]; exact hc) (fun _ _ _ h => by cases h)
    refine ⟨_, hp, fun t1 b hb => ?_⟩
    by_cases h1 : t1 = t
    · simp only [h1, if_true] at hb; exact .inr hb
    · simp only [h1, if_false] at hb; exact .inl ⟨t1, hb⟩
  | ld r p o n agg =>
    rw [hav] at hr hl hrep0
    simp only [RS.look] at hl
    split at hl
    case isFalse => cases hl
    rename_i hcl
    obtain ⟨B, row', ⟨c0, e0, f0⟩, k2, k3, k4⟩ := hrep0 hcl
    simp only [RS.relay] at hr
    split at hr
    · rename_i row r0 r2 hrow hr0 hr2
      split at hr
      · rename_i hcond
        obtain ⟨hf, hn, hon, hms, hsz⟩ := hcond
        have hrm : r ∉ ms := fun hm => by rw [List.contains_iff_mem.2 hm] at hms; cases hms
        split at hr
        · rename_i s1 hpk
          obtain rfl := Option.some.inj hr
          obtain ⟨c2, B2, S2, hc2, f1, f2, f3, f4, f5⟩ := h.slot hrow
          obtain ⟨hs1, hs2⟩ := hsame r hrm
          obtain ⟨c0', e0', hbase⟩ := hs2 c2 hc2
          rw [e0] at e0'
          obtain rfl := AV.v.inj e0'
          have hrc := h.rep r
          rw [hc2] at hrc
          replace hrc : RepC arg w I c2 (vs.getD r undef) (O r) := hrc
          have hBw : ∀ j, (c2.base (vs.getD r undef)).get w0 j = (c2.base (vs.getD r undef)).get w j := by
            intro j
            cases hb : c2.base (vs.getD r undef) with
            | vals cs => rfl
            | addr b o2 => exact (World.cell?_of_block (w := w0) (w' := w) (a := ⟨b, o2 + j, none⟩) (hs1 b (base_owned hrc hb).1)).symm
          obtain ⟨g1, g2⟩ := f1.world (w' := w0) (RepC.root hrc) (fun x hx => (hs1 x hx.1).symm) fun j _ => hBw j
          have hrr : pathSz p c0.row = pathSz p c2.row := by
            simp only [rowOf, e0, Option.some.injEq] at hr0
            simp only [rowOf, hc2, Option.some.injEq] at hr2
            rw [hr0, hr2]; exact hsz
          obtain rfl : B = B2 := by
            rw [hbase] at g1
            exact f0.sameB g1 hrr
          obtain ⟨q1, q2⟩ := flat_cells hc hf
          have hcell : ∀ j, j < n → v.cells[j]? = B.get w (o + j) := by
            intro j hj
            cases agg with
            | true =>
              obtain ⟨cs, u1, u2, u3⟩ := k3 rfl
              rw [hv, u1]
              exact (u3 j hj).trans (g2 (o + j) (by omega))
            | false =>
              obtain ⟨u1, u2⟩ := k4 rfl
              obtain rfl : j = 0 := by omega
              have hg := g2 o (by omega)
              rw [u2] at hg
              obtain ⟨D, d1, d2, d3⟩ := f2
              obtain ⟨v2, v3, v4, _⟩ := d3 o _ (List.getElem?_eq_getElem (show o < row.length by omega))
              rw [← hg] at v3
              obtain rfl := Option.some.inj v3
              rw [hv, Nat.add_zero, ← hg]
              generalize vs.getD t undef = u at v4
              cases u <;> first | rfl | cases v4
          have hnew := f2.patch (off := o) (get' := B.get w) q2 (by omega) (fun x hx hs => (hS x hx).2.2 r (f3 x hs).1) fun j hj => by
            split
            · rename_i hjo
              rw [hcell (j - o) (by omega), show o + (j - o) = j by omega]
            · rfl
          have hblk : ∀ b o', B = .addr b o' → ∃ cs e, w.heap[b]? = some (.cells cs e (0, 0)) := fun b o' hB => by
            by_cases hp : p = []
            · subst hp; cases f1
              obtain ⟨_, _, cs, e, m, _⟩ := base_owned hrc hB
              exact ⟨cs, e, m⟩
            · obtain ⟨b2, o2, cs, e, k1, _, _, k4, _⟩ := f4 hp
              rw [k1] at hB
              injection hB with h1 h2
              exact ⟨cs, e, h1 ▸ k4⟩
          have hk := h.poke (w' := w) (I' := I) (N := S') (ls := c.row) (o := o) hc2 f1 f3
            (fun hp b o' hB => by
              obtain ⟨b2, o2, cs, e, k1, k2, k3, _⟩ := f4 hp
              rw [k1] at hB
              injection hB with h1 h2
              subst h1
              refine ⟨k2, k3, fun o3 hb => ?_⟩
              obtain ⟨B3, S3, g1, g2, g3, g4, _⟩ := follow p (RepC.root hrc) f1.rowAt
              obtain ⟨rfl, _⟩ := g1.same f1
              obtain ⟨b5, o5, cs5, e5, m1, m2, _⟩ := g4 hp
              rw [k1] at m1
              injection m1 with m1 _
              subst m1
              exact m2.2 o3 hb)
            f5 hpk (by omega) hnew (fun x hx => hx) (fun x hx => hS x hx) h.bel (Nat.le_refl _) (fun _ h => h) h.ilt (fun x hx hn => absurd hx hn) (fun _ _ _ => rfl)
            (fun b o' hB => by
              obtain ⟨cs, e, m⟩ := hblk b o' hB
              exact ⟨cs, cs, e, m, m, rfl, fun _ _ => rfl⟩)
            (fun _ _ _ _ _ _ => rfl)
          rw [hn] at hk
          refine ⟨_, hk, fun t1 b hb => ?_⟩
          by_cases h1 : t1 = r
          · simp only [h1, if_true] at hb
            rcases hb with (hb | hb) | ⟨o2, hb⟩
            · exact .inl ⟨r, hb.1.1⟩
            · exact .inr hb
            · exact .inl ⟨r, (base_owned hrc hb).1⟩
          · simp only [h1, if_false] at hb; exact .inl ⟨t1, hb⟩
        · cases hr
      · cases hr
    · cases hr
  | _ => rw [hav] at hr; cases hr

theorem lendAt_spec : ∀ {ms : List Mode} {xs : List X} {k j : Nat} {t : Tmp}, s.lendAt ms xs k = some (j, t) → ∃ i, j = k + i ∧ xs[i]? = some (.t t) ∧ ms[i]? = some .M ∧ ∃ c, s.look (s.e.get t) = some c ∧ c.flat = true ∧ c.shal = false
  | [], xs, k, j, t, h => by simp [RS.lendAt] at h
  | m :: ms, [], k, j, t, h => by cases m <;> simp [RS.lendAt] at h
  | m :: ms, x :: xs, k, j, t, h => by
    have next : s.lendAt ms xs (k + 1) = some (j, t) → ∃ i, j = k + i ∧ (x :: xs)[i]? = some (.t t) ∧ (m :: ms)[i]? = some .M ∧ ∃ c, s.look (s.e.get t) = some c ∧ c.flat = true ∧ c.shal = false := by
      intro h'
      obtain ⟨i, e1, e2, e3, e4⟩ := lendAt_spec h'
      exact ⟨i + 1, by omega, by simpa using e2, by simpa using e3, e4⟩
    cases m with
    | M =>
      cases x with
      | t t0 =>
        simp only [RS.lendAt] at h
        split at h
        · rename_i c hc
          split at h
          · rename_i hcond
            simp only [Option.some.injEq, Prod.mk.injEq] at h
            obtain ⟨rfl, rfl⟩ := h
            exact ⟨0, rfl, rfl, rfl, c, hc, hcond⟩
          · exact next h
        · exact next h
      | c c0 => simp only [RS.lendAt] at h; exact next h
    | _ => simp only [RS.lendAt] at h; exact next h

theorem call_sound {f : FuncId} {xs : List X} {us : Array Value} {res : List CV} {s2 : RS} {Q : Ending → World → Prop} (h : Rel arg W I O s vs w) (hK : Knows P W G F) (hx : ∀ (j : Nat) x, xs[j]? = some x → XV vs x (us.getD j undef)) (hul : us.size = xs.length)
    (hc : s.call G F f xs = some (res, s2)) (hQ : ∀ v w' I2 O2 R, Rel arg W I2 O2 s2 vs w' → RepR arg w' I2 res v R → ExtR w I O w' I2 O2 R → Q (.returned v) w') : Calls P f us w Q := by
  unfold RS.call at hc
  split at hc
  · rename_i g hg
    split at hc
    · split at hc
      · rename_i res' outs as s2' hcore
        simp only [Option.some.injEq, Prod.mk.injEq] at hc
        obtain ⟨rfl, rfl⟩ := hc
        exact core_sound h hK hg hx hul hcore fun v w' I2 O2 R A' hr hres he _ => hQ v w' I2 O2 R hr hres he
      · cases hc
    · rename_i j t hlend
      obtain ⟨i, e1, e2, e3, c1, e4, e5, e6⟩ := lendAt_spec hlend
      obtain rfl : i = j := by omega
      split at hc
      · rename_i res' outs as s2' hcore
        split at hc
        · rename_i c hout
          split at hc
          · rename_i s3 hrel
            simp only [Option.some.injEq, Prod.mk.injEq] at hc
            obtain ⟨rfl, rfl⟩ := hc
            refine core_sound h hK hg hx hul hcore fun v w' I2 O2 R A' hr hres he hX => ?_
            have hmo : (g.modes.set i .O)[i]? = some .O := by
              have : i < g.modes.length := (List.getElem?_eq_some_iff.1 e3).1
              simp [this]
            obtain ⟨O3, q1, q2⟩ := relay_sound (c1 := c1) h hr (hx i _ e2) e4 e5 e6 hX.same (hX.outs i c hout) (fun b hb => ⟨(hX.alt i b hb).1, (hX.alt i b hb).2.1, fun t' => hX.adis i hmo t' b hb⟩) hrel
            refine hQ v w' I2 O3 R q1 hres ⟨he.imm, he.size, he.kept, fun b hb => ?_, fun b hb => ⟨(he.rlt b hb).1, (he.rlt b hb).2.1, fun t' ht => ?_⟩⟩
            · rcases hb with ⟨t', hb⟩ | hb
              · rcases q2 t' b hb with h' | h'
                · exact he.got b (.inl h')
                · exact hX.agot i b h'
              · exact he.got b (.inr hb)
            · rcases q2 t' b ht with ⟨t2, h'⟩ | h'
              · exact (he.rlt b hb).2.2 t2 h'
              · exact (hX.alt i b h').2.2 hb
          · cases hc
        · cases hc
      · cases hc
  · cases hc

end Go.VS
