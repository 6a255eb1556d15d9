/- The slots and the model's frame: how they belong together. -/
import Derived.Test.YtdoelepflcaijaaEngRep
namespace Go.VS
open Go Go.RowKit
set_option linter.unusedSimpArgs false
set_option linter.unusedVariables false

theorem get_put : ∀ (e : Env) (t : Tmp) (v : AV) (t' : Tmp), (Env.put e t v).get t' = if t' = t then v else e.get t'
  | [], t, v, t' => by
    simp only [Env.put, Env.get]
    by_cases h : t' = t
    · subst h; simp
    · rw [if_neg h, if_neg (fun e => h e.symm)]
  | (k, x) :: e, t, v, t' => by
    simp only [Env.put]
    by_cases h1 : t = k
    · subst h1
      rw [if_pos rfl]
      simp only [Env.get]
      by_cases h : t' = t
      · subst h; simp
      · rw [if_neg h, if_neg (fun e => h e.symm), if_neg (fun e => h e.symm)]
    · rw [if_neg h1]
      split
      · simp only [Env.get]
        by_cases h : t' = t
        · subst h; simp
        · rw [if_neg h, if_neg (fun e => h e.symm)]
      · simp only [Env.get]
        rw [get_put e t v t']
        by_cases h : k = t'
        · subst h; rw [if_pos rfl, if_neg (fun e => h1 e.symm)]; simp
        · rw [if_neg h, if_neg h]
theorem get_del : ∀ (e : Env) (ts : List Tmp) (t : Tmp), (Env.del e ts).get t = if ts.contains t then .bad else e.get t
  | [], ts, t => by simp [Env.del, Env.get]
  | (k, x) :: e, ts, t => by
    simp only [Env.del]
    by_cases h : ts.contains k
    · rw [if_pos h, get_del e ts t]
      simp only [Env.get]
      by_cases hk : k = t
      · subst hk; rw [if_pos h, if_pos h]
      · rw [if_neg hk]
    · rw [if_neg h]
      simp only [Env.get]
      by_cases hk : k = t
      · subst hk; rw [if_pos rfl, if_neg h, if_pos rfl]
      · rw [if_neg hk, if_neg hk, get_del e ts t]

/-- From root r along a path: where the row at its end lies. -/
def Roots (w : World) (e : Env) (vs : Array Value) (r : Tmp) (p : List (Nat × Nat)) (B : Base) (row : List L) : Prop :=
  ∃ c, e.get r = .v c ∧ Follow w (c.base (vs.getD r undef)) c.row p B row

/-- Several values at once. -/
def RepT (arg : Tmp → Value) (w : World) (I : Nat → Prop) (cs : List CV) (v : Value) (S : Nat → Prop) : Prop :=
  ∃ us, v = .tuple us ∧ us.size = cs.length ∧ ∃ D : Nat → Nat → Prop, (∀ j x, D j x → S x) ∧ (∀ j j' x, D j x → D j' x → j = j') ∧ ∀ (j : Nat) c, cs[j]? = some c → ∃ u, us[j]? = some u ∧ RepC arg w I c u (D j)

/-- What a slot's hold says of the slot's value. -/
def RepA (arg : Tmp → Value) (w : World) (I : Nat → Prop) (s : RS) (vs : Array Value) (av : AV) (v : Value) (S : Nat → Prop) : Prop :=
  match av with
  | .bad => True
  | .un => v = undef
  | .v c => RepC arg w I c v S
  | .tup cs => RepT arg w I cs v S
  | .ptr r p o => cleanP s.d r p = true → ∃ b o' row', Roots w s.e vs r p (.addr b o') row' ∧ v = .pointer (some ⟨b, o' + o, none⟩)
  | .iptr row o => ∃ b o', I b ∧ v = .pointer (some ⟨b, o' + o, none⟩) ∧ RepRow w I row ((Base.addr b o').get w) (fun _ => False)
  | .ld r p o n agg => clean s.d r p o n = true → ∃ B row', Roots w s.e vs r p B row' ∧ o + n ≤ row'.length ∧
      (agg = true → ∃ cs, v = .agg cs ∧ cs.size = n ∧ ∀ j, j < n → cs[j]? = B.get w (o + j)) ∧ (agg = false → n = 1 ∧ B.get w o = some v)

/-- The evaluator's slots s stand for the frame's slots vs in world w: I are the immutable blocks, O t are those that slot t owns. -/
structure Rel (arg : Tmp → Value) (W : World) (I : Nat → Prop) (O : Tmp → Nat → Prop) (s : RS) (vs : Array Value) (w : World) : Prop where
  bel : Below W.heap.size W w
  old : ∀ b, b < W.heap.size → I b
  ilt : ∀ b, I b → b < w.heap.size
  olt : ∀ t b, O t b → b < w.heap.size
  notI : ∀ t b, O t b → ¬ I b
  disj : ∀ t t' b, O t b → O t' b → t = t'
  rep : ∀ t, RepA arg w I s vs (s.e.get t) (vs.getD t undef) (O t)

theorem Follow.grow {w w' : World} {B B' : Base} {row row' : List L} {p : List (Nat × Nat)} (h : Follow w B row p B' row') (hw : Below w.heap.size w w') : Follow w' B row p B' row' := by
  induction h with
  | nil => exact .nil ..
  | step B row c i p B' row' sz rows r b len cap h1 h2 h3 h4 ih =>
    refine .step _ _ _ _ _ _ _ sz rows r b len cap h1 h2 ?_ ih
    cases B with
    | addr b' o' => exact (hw.cell (p := ⟨b', o' + c, none⟩) (World.block_lt_of_cell? w _ h3)).trans h3
    | vals cs => exact h3

theorem cleanP_put {s : RS} {d : Tmp} {av : AV} {r : Tmp} {p : List (Nat × Nat)} (h : cleanP (s.put d av).d r p = true) : cleanP s.d r p = true ∧ ((s.e.get d).isV = true → r ≠ d) := by
  simp only [RS.put] at h
  split at h
  · simp only [cleanP, Bool.and_eq_true] at h
    refine ⟨h.2, fun _ he => ?_⟩
    subst he
    simp at h
  · exact ⟨h, fun hh => by rename_i hn; exact absurd hh hn⟩
theorem clean_put {s : RS} {d : Tmp} {av : AV} {r : Tmp} {p : List (Nat × Nat)} {x k : Nat} (h : clean (s.put d av).d r p x k = true) : clean s.d r p x k = true ∧ ((s.e.get d).isV = true → r ≠ d) := by
  simp only [RS.put] at h
  split at h
  · simp only [clean, Bool.and_eq_true] at h
    refine ⟨h.2, fun _ he => ?_⟩
    subst he
    simp at h
  · exact ⟨h, fun hh => by rename_i hn; exact absurd hh hn⟩

theorem getD_set {vs : Array Value} {d t : Tmp} {v : Value} (hd : d < vs.size) : (vs.setIfInBounds d v).getD t undef = if t = d then v else vs.getD t undef := by
  simp only [Array.getD_eq_getD_getElem?, Array.getElem?_setIfInBounds]
  by_cases h : t = d
  · subst h; simp [hd]
  · rw [if_neg (fun e => h e.symm), if_neg h]

theorem Roots.put {w w' : World} {s : RS} {vs : Array Value} {d r : Tmp} {p : List (Nat × Nat)} {B : Base} {row : List L} {av : AV} {v : Value} (h : Roots w s.e vs r p B row) (hw : Below w.heap.size w w') (hd : d < vs.size)
    (hn : (s.e.get d).isV = true → r ≠ d) : Roots w' (s.put d av).e (vs.setIfInBounds d v) r p B row := by
  obtain ⟨c, h1, h2⟩ := h
  have hr : r ≠ d := fun e => hn (by rw [← e, h1]; rfl) e
  refine ⟨c, ?_, ?_⟩
  · simp only [RS.put]; rw [get_put, if_neg hr]; exact h1
  · rw [getD_set hd, if_neg hr]; exact h2.grow hw
theorem base_get_below {w w' : World} {B : Base} {j : Nat} {v : Value} (hw : Below w.heap.size w w') (h : B.get w j = some v) : B.get w' j = some v := by
  cases B with
  | addr b o => exact (hw.cell (p := ⟨b, o + j, none⟩) (World.block_lt_of_cell? w _ h)).trans h
  | vals cs => exact h

/-- A slot is written; the world may have got new blocks. -/
theorem Rel.step {arg : Tmp → Value} {W w w' : World} {I : Nat → Prop} {O : Tmp → Nat → Prop} {s : RS} {vs : Array Value} {d : Tmp} {av : AV} {v : Value} {S : Nat → Prop}
    (h : Rel arg W I O s vs w) (hd : d < vs.size) (hw : Below w.heap.size w w') (hS : ∀ b, S b → b < w'.heap.size ∧ ¬ I b ∧ ∀ t, t ≠ d → ¬ O t b)
    (hav : RepA arg w' I s vs av v S)
    (hfr : ∀ r p o, av = .ptr r p o → cleanP s.d r p = true → ∃ c, s.e.get r = .v c) :
    Rel arg W I (fun t => if t = d then S else O t) (s.put d av) (vs.setIfInBounds d v) w' := by
  have hold : ∀ b, b < w.heap.size → w'.heap[b]? = w.heap[b]? := hw.block
  refine ⟨h.bel.trans (hw.mono h.bel.size), h.old, fun b hb => Nat.lt_of_lt_of_le (h.ilt b hb) hw.size, fun t b hb => ?_, fun t b hb => ?_, fun t t' b hb hb' => ?_, fun t => ?_⟩
  · by_cases ht : t = d
    · simp only [ht, if_true] at hb; exact (hS b hb).1
    · simp only [ht, if_false] at hb; exact Nat.lt_of_lt_of_le (h.olt t b hb) hw.size
  · by_cases ht : t = d
    · simp only [ht, if_true] at hb; exact (hS b hb).2.1
    · simp only [ht, if_false] at hb; exact h.notI t b hb
  · by_cases ht : t = d <;> by_cases ht' : t' = d
    · rw [ht, ht']
    · simp only [ht, if_true] at hb
      simp only [ht', if_false] at hb'
      exact absurd hb' ((hS b hb).2.2 t' ht')
    · simp only [ht', if_true] at hb'
      simp only [ht, if_false] at hb
      exact absurd hb ((hS b hb').2.2 t ht)
    · simp only [ht, if_false] at hb
      simp only [ht', if_false] at hb'
      exact h.disj t t' b hb hb'
  · have hg : (s.put d av).e.get t = if t = d then av else s.e.get t := by simp only [RS.put]; exact get_put ..
    rw [hg, getD_set hd]
    by_cases ht : t = d
    · simp only [ht, if_true]
      cases av with
      | ptr r p o =>
        intro hc
        obtain ⟨c1, c2⟩ := cleanP_put hc
        obtain ⟨b, o', row', k1, k2⟩ := hav c1
        have hb : Below w'.heap.size w' w' := Below.refl _ _
        obtain ⟨c, e1, e2⟩ := k1
        exact ⟨b, o', row', Roots.put (s := s) (vs := vs) ⟨c, e1, e2⟩ hb hd c2, k2⟩
      | ld r p o n agg =>
        intro hc
        obtain ⟨c1, c2⟩ := clean_put hc
        obtain ⟨B, row', k1, k0, k2, k3⟩ := hav c1
        exact ⟨B, row', Roots.put k1 (Below.refl _ _) hd c2, k0, k2, k3⟩
      | _ => exact hav
    · simp only [ht, if_false]
      have hr := h.rep t
      have hblk : ∀ b, O t b ∨ I b → w'.heap[b]? = w.heap[b]? := fun b hb => hold b (hb.elim (h.olt t b) (h.ilt b))
      cases hav' : s.e.get t with
      | bad => trivial
      | un => rw [hav'] at hr; exact hr
      | v c => rw [hav'] at hr; exact RepC.world hr hblk
      | tup cs =>
        rw [hav'] at hr
        obtain ⟨us, h1, h2, D, d1, d2, d3⟩ := hr
        refine ⟨us, h1, h2, D, d1, d2, fun j c hc => ?_⟩
        obtain ⟨u, u1, u2⟩ := d3 j c hc
        exact ⟨u, u1, u2.world fun b hb => hblk b (hb.imp (d1 j b) id)⟩
      | iptr row o =>
        rw [hav'] at hr
        obtain ⟨b, o', h1, h2, h3⟩ := hr
        exact ⟨b, o', h1, h2, h3.world (fun j _ => World.cell?_of_block (w := w) (w' := w') (a := ⟨b, o' + j, none⟩) (hblk b (.inr h1))) fun x hx => hblk x (.inr (hx.resolve_left id))⟩
      | ptr r p o =>
        rw [hav'] at hr
        intro hc
        obtain ⟨c1, c2⟩ := cleanP_put hc
        obtain ⟨b, o', row', k1, k2⟩ := hr c1
        exact ⟨b, o', row', k1.put hw hd c2, k2⟩
      | ld r p o n agg =>
        rw [hav'] at hr
        intro hc
        obtain ⟨c1, c2⟩ := clean_put hc
        obtain ⟨B, row', k1, k0, k2, k3⟩ := hr c1
        refine ⟨B, row', k1.put hw hd c2, k0, fun ha => ?_, fun ha => ?_⟩
        · obtain ⟨cs, q1, q2, q3⟩ := k2 ha
          refine ⟨cs, q1, q2, fun j hj => ?_⟩
          have hs : ∃ u, cs[j]? = some u := ⟨cs[j]'(by omega), Array.getElem?_eq_getElem _⟩
          obtain ⟨u, hu⟩ := hs
          rw [hu]
          exact (base_get_below hw ((q3 j hj).symm.trans hu)).symm
        · exact ⟨(k3 ha).1, base_get_below hw (k3 ha).2⟩

end Go.VS
