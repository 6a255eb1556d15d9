/- Roots out of reach, and the arguments of a call. -/
import Derived.Test.YtdoelepflcaijaaEngApp
namespace Go.VS
open Go Go.RowKit
set_option linter.unusedSimpArgs false
set_option linter.unusedVariables false

variable {P : Program} {arg : Tmp → Value} {W w w' : World} {I I' : Nat → Prop} {O O' : Tmp → Nat → Prop} {s s' : RS} {vs : Array Value} {S S' : Nat → Prop} {c : CV} {x : X} {v : Value}

theorem clean_hide (d : List Dirt) (r : Tmp) (p : List (Nat × Nat)) (x k : Nat) : ∀ rs : List Tmp, clean (rs.map (fun r => (r, [], 0, 0)) ++ d) r p x k = (!rs.contains r && clean d r p x k)
  | [] => by simp
  | t :: rs => by
    simp only [List.map_cons, List.cons_append, clean, clean_hide d r p x k rs, List.contains_cons]
    by_cases h : t = r
    · subst h; simp
    · have h1 : (t == r) = false := by simpa using h
      have h2 : (r == t) = false := by simpa using fun e => h e.symm
      rw [h1, h2]; simp
theorem cleanP_hide (d : List Dirt) (r : Tmp) (p : List (Nat × Nat)) : ∀ rs : List Tmp, cleanP (rs.map (fun r => (r, [], 0, 0)) ++ d) r p = (!rs.contains r && cleanP d r p)
  | [] => by simp
  | t :: rs => by
    simp only [List.map_cons, List.cons_append, cleanP, cleanP_hide d r p rs, List.contains_cons]
    by_cases h : t = r
    · subst h; simp
    · have h1 : (t == r) = false := by simpa using h
      have h2 : (r == t) = false := by simpa using fun e => h e.symm
      rw [h1, h2]; simp
theorem clean_append (d : List Dirt) (r : Tmp) (p : List (Nat × Nat)) (x k : Nat) : ∀ pre : List Dirt, clean (pre ++ d) r p x k = (clean pre r p x k && clean d r p x k)
  | [] => by simp [clean]
  | (r', q, o, n) :: pre => by simp only [List.cons_append, clean, clean_append d r p x k pre, Bool.and_assoc]
theorem cleanP_append (d : List Dirt) (r : Tmp) (p : List (Nat × Nat)) : ∀ pre : List Dirt, cleanP (pre ++ d) r p = (cleanP pre r p && cleanP d r p)
  | [] => by simp [cleanP]
  | (r', q, o, n) :: pre => by simp only [List.cons_append, cleanP, cleanP_append d r p pre, Bool.and_assoc]

theorem RepT.mono {cs : List CV} (h : RepT arg w I cs v S) (hI : ∀ b, I b → I' b) (hS : ∀ b, S b → S' b) : RepT arg w I' cs v S' := by
  obtain ⟨us, h1, h2, D, d1, d2, d3⟩ := h
  refine ⟨us, h1, h2, D, fun j x hx => hS x (d1 j x hx), d2, fun j c hc => ?_⟩
  obtain ⟨u, u1, u2⟩ := d3 j c hc
  exact ⟨u, u1, u2.mono hI fun _ h => h⟩
theorem RepT.world {cs : List CV} (h : RepT arg w I cs v S) (hw : ∀ b, S b ∨ I b → w'.heap[b]? = w.heap[b]?) : RepT arg w' I cs v S := by
  obtain ⟨us, h1, h2, D, d1, d2, d3⟩ := h
  refine ⟨us, h1, h2, D, d1, d2, fun j c hc => ?_⟩
  obtain ⟨u, u1, u2⟩ := d3 j c hc
  exact ⟨u, u1, u2.world fun b hb => hw b (hb.imp (d1 j b) id)⟩

theorem Rel.hide (h : Rel arg W I O s vs w) (rs : List Tmp) : Rel arg W I (fun t b => rs.contains t = false ∧ O t b) (s.hide rs) vs w := by
  refine ⟨h.bel, h.old, h.ilt, fun t b hb => h.olt t b hb.2, fun t b hb => h.notI t b hb.2, fun t t' b hb hb' => h.disj t t' b hb.2 hb'.2, fun t => ?_⟩
  have hg : (s.hide rs).e.get t = if rs.contains t then .bad else s.e.get t := get_del ..
  rw [hg]
  by_cases ht : rs.contains t = true
  · rw [if_pos ht]; trivial
  · rw [if_neg ht]
    have ht' : rs.contains t = false := by simpa using ht
    have hr := h.rep t
    have hroot : ∀ {r p B row}, (!rs.contains r) = true → Roots w s.e vs r p B row → Roots w (s.hide rs).e vs r p B row := by
      intro r p B row hc ⟨c, h1, h2⟩
      refine ⟨c, ?_, h2⟩
      have : (s.hide rs).e.get r = if rs.contains r then .bad else s.e.get r := get_del ..
      rw [this, if_neg (by simpa using hc)]
      exact h1
    cases hav : s.e.get t with
    | bad => trivial
    | un => rw [hav] at hr; exact hr
    | v c => rw [hav] at hr; exact RepC.mono hr (fun _ h => h) fun b hb => ⟨ht', hb⟩
    | tup cs => rw [hav] at hr; exact RepT.mono hr (fun _ h => h) fun b hb => ⟨ht', hb⟩
    | iptr row o => rw [hav] at hr; exact hr
    | ptr r p o =>
      rw [hav] at hr
      intro hc
      rw [RS.hide, cleanP_hide, Bool.and_eq_true] at hc
      obtain ⟨b, o', row', k1, k2⟩ := hr hc.2
      exact ⟨b, o', row', hroot hc.1 k1, k2⟩
    | ld r p o n agg =>
      rw [hav] at hr
      intro hc
      rw [RS.hide, clean_hide, Bool.and_eq_true] at hc
      obtain ⟨B, row', k1, k2⟩ := hr hc.2
      exact ⟨B, row', hroot hc.1 k1, k2⟩

/-- What is taken turns nothing but values. -/
def Worn (s s' : RS) : Prop := (∃ pre, s'.d = pre ++ s.d) ∧ ∀ t, s'.e.get t = s.e.get t ∨ s'.e.get t = .bad ∨ ∃ c0 c', s.e.get t = .v c0 ∧ s'.e.get t = .v c' ∧ ∀ v, c'.base v = c0.base v
theorem Worn.refl : Worn s s := ⟨⟨[], rfl⟩, fun _ => .inl rfl⟩
theorem Worn.trans {s'' : RS} (h : Worn s s') (k : Worn s' s'') : Worn s s'' := by
  obtain ⟨⟨p1, h1⟩, h2⟩ := h
  obtain ⟨⟨p2, k1⟩, k2⟩ := k
  refine ⟨⟨p2 ++ p1, by rw [k1, h1, List.append_assoc]⟩, fun t => ?_⟩
  rcases k2 t with h' | h' | ⟨c0, c', h', h'', hb⟩
  · rw [h']; exact h2 t
  · exact .inr (.inl h')
  · rcases h2 t with g | g | ⟨c1, c1', g, g', gb⟩
    · exact .inr (.inr ⟨c0, c', g ▸ h', h'', hb⟩)
    · rw [g] at h'; cases h'
    · rw [g'] at h'
      obtain rfl := (AV.v.inj h').symm
      exact .inr (.inr ⟨c1, c', g, h'', fun v => (hb v).trans (gb v)⟩)
theorem take_worn (ht : s.take x = some (c, s')) : Worn s s' := by
  unfold RS.take at ht
  have hb : ∀ t, Worn s (s.put t .bad) := fun t => by
    refine ⟨?_, fun t' => ?_⟩
    · simp only [RS.put]
      split
      · exact ⟨[_], rfl⟩
      · exact ⟨[], rfl⟩
    · simp only [RS.put, get_put]
      by_cases h : t' = t
      · rw [if_pos h]; exact .inr (.inl rfl)
      · rw [if_neg h]; exact .inl rfl
  split at ht
  · simp only [Option.some.injEq, Prod.mk.injEq] at ht
    obtain ⟨rfl, rfl⟩ := ht
    exact .refl
  · split at ht
    · cases ht
    · cases ht
    · split at ht <;> simp only [Option.some.injEq, Prod.mk.injEq] at ht <;> obtain ⟨rfl, rfl⟩ := ht
      · exact .refl
      · exact hb _
    · rename_i r p o n agg hav
      split at ht
      · split at ht
        · simp only [Option.some.injEq, Prod.mk.injEq] at ht
          obtain ⟨rfl, rfl⟩ := ht
          exact .refl
        · split at ht
          · rename_i s1 hs1
            simp only [Option.some.injEq, Prod.mk.injEq] at ht
            obtain ⟨rfl, rfl⟩ := ht
            unfold RS.poke at hs1
            split at hs1
            · rename_i c0 hc0
              split at hs1
              · obtain rfl := (Option.some.inj hs1).symm
                refine ⟨⟨[(r, p, o, n)], rfl⟩, fun t' => ?_⟩
                simp only [RS.mark, RS.set, get_put]
                by_cases h : t' = r
                · rw [if_pos h, h]; exact .inr (.inr ⟨c0, _, hc0, rfl, fun v => base_withRow ..⟩)
                · rw [if_neg h]; exact .inl rfl
              · cases hs1
            · cases hs1
          · cases ht
      · cases ht
    · cases ht

/-- The arguments that are given away. -/
structure Given (arg : Tmp → Value) (w : World) (I : Nat → Prop) (O O' : Tmp → Nat → Prop) (us : Nat → Value) (as : List Arg) (cs : List CV) (A : Nat → Nat → Prop) : Prop where
  own : ∀ j b, A j b → ∃ t, O t b
  left : ∀ t b, O' t b → O t b
  gone : ∀ t b, O' t b → ∀ j, ¬ A j b
  dis : ∀ j j' b, A j b → A j' b → j = j'
  len : cs.length = as.length
  o : ∀ j, as[j]? = some .o → ∃ c, cs[j]? = some c ∧ c.flat = true ∧ RepC arg w I c (us j) (A j)
  no : ∀ j b, A j b → as[j]? = some .o
  v : ∀ (j : Nat) c r, as[j]? = some (.v c r) → cs[j]? = some c
  m : ∀ (j : Nat) c r p o, as[j]? = some (.m c r p o) → cs[j]? = some c

theorem given_sound : ∀ (as : List Arg) (xs : List X) (s s' : RS) (O : Tmp → Nat → Prop) (us : Nat → Value) (cs : List CV), Rel arg W I O s vs w → s.given as xs = some (cs, s') → (∀ (j : Nat) x, xs[j]? = some x → XV vs x (us j)) →
    ∃ O' A, Rel arg W I O' s' vs w ∧ Given arg w I O O' us as cs A ∧ Worn s s' ∧ xs.length = as.length
  | [], [], s, s', O, us, cs, h, hg, hx => by
    simp only [RS.given, Option.some.injEq, Prod.mk.injEq] at hg
    obtain ⟨rfl, rfl⟩ := hg
    exact ⟨O, fun _ _ => False, h, ⟨fun _ _ h => h.elim, fun _ _ h => h, fun _ _ _ _ h => h, fun _ _ _ h => h.elim, rfl, fun j h => by simp at h, fun _ _ h => h.elim, fun j c r h => by simp at h, fun j c r p o h => by simp at h⟩, .refl, rfl⟩
  | [], _ :: _, s, s', O, us, cs, h, hg, hx => by simp [RS.given] at hg
  | .v .. :: _, [], s, s', O, us, cs, h, hg, hx => by simp [RS.given] at hg
  | .m .. :: _, [], s, s', O, us, cs, h, hg, hx => by simp [RS.given] at hg
  | .o :: _, [], s, s', O, us, cs, h, hg, hx => by simp [RS.given] at hg
  | .v c r :: as, x :: xs, s, s', O, us, cs, h, hg, hx => by
    simp only [RS.given] at hg
    split at hg
    · rename_i cs1 s1 h1
      simp only [Option.some.injEq, Prod.mk.injEq] at hg
      obtain ⟨rfl, rfl⟩ := hg
      obtain ⟨O', A, k1, k2, k3, k4⟩ := given_sound as xs s s1 O (fun j => us (j + 1)) cs1 h h1 fun j x hj => hx (j + 1) x (by simpa using hj)
      refine ⟨O', fun j b => match j with | 0 => False | j + 1 => A j b, k1, ⟨fun j b hb => ?_, k2.left, fun t b hb j hj => ?_, fun j j' b hb hb' => ?_, by simp [k2.len], fun j hj => ?_, fun j b hb => ?_, fun j c' r' hj => ?_, fun j c' r' p' o' hj => ?_⟩, k3, by simp [k4]⟩
      · cases j with
        | zero => exact hb.elim
        | succ j => exact k2.own j b hb
      · cases j with
        | zero => exact hj.elim
        | succ j => exact k2.gone t b hb j hj
      · cases j with
        | zero => exact hb.elim
        | succ j => cases j' with
          | zero => exact hb'.elim
          | succ j' => rw [k2.dis j j' b hb hb']
      · cases j with
        | zero => simp at hj
        | succ j => simpa using k2.o j (by simpa using hj)
      · cases j with
        | zero => exact hb.elim
        | succ j => simpa using k2.no j b hb
      · cases j with
        | zero => simp at hj; simp [hj.1]
        | succ j => simpa using k2.v j c' r' (by simpa using hj)
      · cases j with
        | zero => simp at hj
        | succ j => simpa using k2.m j c' r' p' o' (by simpa using hj)
    · cases hg
  | .m c r p o :: as, x :: xs, s, s', O, us, cs, h, hg, hx => by
    simp only [RS.given] at hg
    split at hg
    · rename_i cs1 s1 h1
      simp only [Option.some.injEq, Prod.mk.injEq] at hg
      obtain ⟨rfl, rfl⟩ := hg
      obtain ⟨O', A, k1, k2, k3, k4⟩ := given_sound as xs s s1 O (fun j => us (j + 1)) cs1 h h1 fun j x hj => hx (j + 1) x (by simpa using hj)
      refine ⟨O', fun j b => match j with | 0 => False | j + 1 => A j b, k1, ⟨fun j b hb => ?_, k2.left, fun t b hb j hj => ?_, fun j j' b hb hb' => ?_, by simp [k2.len], fun j hj => ?_, fun j b hb => ?_, fun j c' r' hj => ?_, fun j c' r' p' o' hj => ?_⟩, k3, by simp [k4]⟩
      · cases j with
        | zero => exact hb.elim
        | succ j => exact k2.own j b hb
      · cases j with
        | zero => exact hj.elim
        | succ j => exact k2.gone t b hb j hj
      · cases j with
        | zero => exact hb.elim
        | succ j => cases j' with
          | zero => exact hb'.elim
          | succ j' => rw [k2.dis j j' b hb hb']
      · cases j with
        | zero => simp at hj
        | succ j => simpa using k2.o j (by simpa using hj)
      · cases j with
        | zero => exact hb.elim
        | succ j => simpa using k2.no j b hb
      · cases j with
        | zero => simp at hj
        | succ j => simpa using k2.v j c' r' (by simpa using hj)
      · cases j with
        | zero => simp at hj; simp [hj.1]
        | succ j => simpa using k2.m j c' r' p' o' (by simpa using hj)
    · cases hg
  | .o :: as, x :: xs, s, s', O, us, cs, h, hg, hx => by
    simp only [RS.given] at hg
    split at hg
    · rename_i c s0 ht
      split at hg
      · rename_i hfl
        split at hg
        · rename_i cs1 s1 h1
          simp only [Option.some.injEq, Prod.mk.injEq] at hg
          obtain ⟨rfl, rfl⟩ := hg
          obtain ⟨S, O1, t1, t2, t3⟩ := h.take (hx 0 x rfl) ht
          obtain ⟨O', A, k1, k2, k3, k4⟩ := given_sound as xs s0 s1 O1 (fun j => us (j + 1)) cs1 t2 h1 fun j x hj => hx (j + 1) x (by simpa using hj)
          refine ⟨O', fun j b => match j with | 0 => S b | j + 1 => A j b, k1, ⟨fun j b hb => ?_, fun t b hb => t3.2.1 t b (k2.left t b hb), fun t b hb j hj => ?_, fun j j' b hb hb' => ?_, by simp [k2.len], fun j hj => ?_, fun j b hb => ?_, fun j c' r' hj => ?_, fun j c' r' p' o' hj => ?_⟩,
            (take_worn ht).trans k3, by simp [k4]⟩
          · cases j with
            | zero => exact t3.1 b hb
            | succ j => obtain ⟨t, h'⟩ := k2.own j b hb; exact ⟨t, t3.2.1 t b h'⟩
          · cases j with
            | zero => exact t3.2.2 t b (k2.left t b hb) hj
            | succ j => exact k2.gone t b hb j hj
          · have hno : ∀ j, S b → ¬ A j b := fun j hS hA => by obtain ⟨t, h'⟩ := k2.own j b hA; exact t3.2.2 t b h' hS
            cases j with
            | zero => cases j' with
              | zero => rfl
              | succ j' => exact absurd hb' (hno j' hb)
            | succ j => cases j' with
              | zero => exact absurd hb (hno j hb')
              | succ j' => rw [k2.dis j j' b hb hb']
          · cases j with
            | zero => exact ⟨c, by simp, hfl, t1⟩
            | succ j => simpa using k2.o j (by simpa using hj)
          · cases j with
            | zero => simp
            | succ j => simpa using k2.no j b hb
          · cases j with
            | zero => simp at hj
            | succ j => simpa using k2.v j c' r' (by simpa using hj)
          · cases j with
            | zero => simp at hj
            | succ j => simpa using k2.m j c' r' p' o' (by simpa using hj)
        · cases hg
      · cases hg
    · cases hg

end Go.VS
