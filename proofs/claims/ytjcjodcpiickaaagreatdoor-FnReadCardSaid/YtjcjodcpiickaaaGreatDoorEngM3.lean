/- Roots out of reach, and the arguments of a call. -/
import Derived.Test.YtjcjodcpiickaaaGreatDoorEngM2
import Derived.Tactics
namespace Go.VS
open Go Go.RowKit
set_option linter.unusedSimpArgs false
set_option linter.unusedVariables false

variable {P : Program} {arg : Tmp → Value} {W w w' : World} {I I' : Nat → Prop} {O O' : Tmp → Nat → Prop} {s s' : RS} {vs : Array Value} {S S' : Nat → Prop} {c : CV} {x : X} {v : Value}

theorem clean_hide (d : List Dirt) (r : Tmp) (p : List (Nat × Nat)) (x k : Nat) : ∀ rs : List Tmp, clean (rs.map (fun r => (r, [], 0, 0)) ++ d) r p x k = (!rs.contains r && clean d r p x k)
 | [] => by simp
 | t :: rs => by
  simp only [List.map_cons, List.cons_append, clean, clean_hide d r p x k rs, List.contains_cons]
  by_cases h : t = r
  ·subst h; simp
  ·have h1 : (t == r) = false := by simpa using h
   have h2 : (r == t) = false := by simpa using fun e => h e.symm
   rw [h1, h2]; simp
theorem cleanP_hide (d : List Dirt) (r : Tmp) (p : List (Nat × Nat)) : ∀ rs : List Tmp, cleanP (rs.map (fun r => (r, [], 0, 0)) ++ d) r p = (!rs.contains r && cleanP d r p)
 | [] => by simp
 | t :: rs => by
  simp only [List.map_cons, List.cons_append, cleanP, cleanP_hide d r p rs, List.contains_cons]
  by_cases h : t = r
  ·subst h; simp
  ·have h1 : (t == r) = false := by simpa using h
   have h2 : (r == t) = false := by simpa using fun e => h e.symm
   rw [h1, h2]; simp
theorem clean_append (d : List Dirt) (r : Tmp) (p : List (Nat × Nat)) (x k : Nat) : ∀ pre : List Dirt, clean (pre ++ d) r p x k = (clean pre r p x k && clean d r p x k)
 | [] => by simp [clean]
 | (r', q, o, n) :: pre => by simp only [List.cons_append, clean, clean_append d r p x k pre, Bool.and_assoc]
theorem cleanP_append (d : List Dirt) (r : Tmp) (p : List (Nat × Nat)) : ∀ pre : List Dirt, cleanP (pre ++ d) r p = (cleanP pre r p && cleanP d r p)
 | [] => by simp [cleanP]
 | (r', q, o, n) :: pre => by simp only [List.cons_append, cleanP, cleanP_append d r p pre, Bool.and_assoc]

theorem RepT.mono {cs : List CV} (h : RepT arg w I cs v S) (hI : ∀ b, I b → I' b) (hS : ∀ b, S b → S' b) : RepT arg w I' cs v S' := by
 obtain ⟨us, h1, h2, D, d1, d2, d3⟩ := h
 refine ⟨us, h1, h2, D, fun j x hx => hS x (d1 j x hx), d2, fun j c hc => ?_⟩
 obtain ⟨u, u1, u2⟩ := d3 j c hc
 exact ⟨u, u1, u2.mono hI fun _ h => h⟩
theorem RepT.world {cs : List CV} (h : RepT arg w I cs v S) (hw : ∀ b, S b ∨ I b → w'.heap[b]? = w.heap[b]?) : RepT arg w' I cs v S := by
 obtain ⟨us, h1, h2, D, d1, d2, d3⟩ := h
 refine ⟨us, h1, h2, D, d1, d2, fun j c hc => ?_⟩
 obtain ⟨u, u1, u2⟩ := d3 j c hc
 exact ⟨u, u1, u2.world fun b hb => hw b (hb.imp (d1 j b) id)⟩

theorem Rel.hide (h : Rel arg W I O s vs w) (rs : List Tmp) : Rel arg W I (fun t b => rs.contains t = false ∧ O t b) (s.hide rs) vs w := by
 refine ⟨h.bel, h.old, h.ilt, fun t b hb => h.olt t b hb.2, fun t b hb => h.notI t b hb.2, fun t t' b hb hb' => h.disj t t' b hb.2 hb'.2, fun t => ?_⟩
 have hg : (s.hide rs).e.get t = if rs.contains t then .bad else s.e.get t := get_del ..
 rw [hg]
 by_cases ht : rs.contains t = true
 ·rw [if_pos ht]; trivial
 ·rw [if_neg ht]
  have ht' : rs.contains t = false := by simpa using ht
  have hr := h.rep t
  have hroot : ∀ {r p B row}, (!rs.contains r) = true → Roots w s.e vs r p B row → Roots w (s.hide rs).e vs r p B row := by
   intro r p B row hc ⟨c, h1, h2⟩
   refine ⟨c, ?_, h2⟩
   have : (s.hide rs).e.get r = if rs.contains r then .bad else s.e.get r := get_del ..
   rw [this, if_neg (by simpa using hc)]
   exact h1
  cases hav : s.e.get t with
  | bad => trivial
  | un => rw [hav] at hr; exact hr
  | v c => rw [hav] at hr; exact RepC.mono hr (fun _ h => h) fun b hb => ⟨ht', hb⟩
  | tup cs => rw [hav] at hr; exact RepT.mono hr (fun _ h => h) fun b hb => ⟨ht', hb⟩
  | iptr row o => rw [hav] at hr; exact hr
  | ptr r p o =>
   rw [hav] at hr
   intro hc
   rw [RS.hide, cleanP_hide, Bool.and_eq_true] at hc
   obtain ⟨b, o', row', k1, k2⟩ := hr hc.2
   exact ⟨b, o', row', hroot hc.1 k1, k2⟩
  | ld r p o n agg =>
   rw [hav] at hr
   intro hc
   rw [RS.hide, clean_hide, Bool.and_eq_true] at hc
   obtain ⟨B, row', k1, k2⟩ := hr hc.2
   exact ⟨B, row', hroot hc.1 k1, k2⟩

/-- What is taken turns nothing but values. -/
def Worn (s s' : RS) : Prop := (∃ pre, s'.d = pre ++ s.d) ∧ ∀ t, s'.e.get t = s.e.get t ∨ s'.e.get t = .bad ∨ ∃ c0 c', s.e.get t = .v c0 ∧ s'.e.get t = .v c' ∧ ∀ v, c'.base v = c0.base v
theorem Worn.refl : Worn s s := ⟨⟨[], rfl⟩, fun _ => .inl rfl⟩
theorem Worn.trans {s'' : RS} (h : Worn s s') (k : Worn s' s'') : Worn s s'' := by
 obtain ⟨⟨p1, h1⟩, h2⟩ := h
 obtain ⟨⟨p2, k1⟩, k2⟩ := k
 refine ⟨⟨p2 ++ p1, by rw [k1, h1, List.append_assoc]⟩, fun t => ?_⟩
 rcases k2 t with h' | h' | ⟨c0, c', h', h'', hb⟩
 ·rw [h']; exact h2 t
 ·exact .inr (.inl h')
 ·rcases h2 t with g | g | ⟨c1, c1', g, g', gb⟩
  ·exact .inr (.inr ⟨c0, c', g ▸ h', h'', hb⟩)
  ·rw [g] at h'; cases h'
  ·rw [g'] at h'
   obtain rfl := (AV.v.inj h').symm
   exact .inr (.inr ⟨c1, c', g, h'', fun v => (hb v).trans (gb v)⟩)
theorem take_worn (ht : s.take x = some (c, s')) : Worn s s' := by
 unfold RS.take at ht
 have hb : ∀ t, Worn s (s.put t .bad) := fun t => by
  refine ⟨?_, fun t' => ?_⟩
  ·simp only [RS.put]
   split
   ·exact ⟨[_], rfl⟩
   ·exact ⟨[], rfl⟩
  ·simp only [RS.put, get_put]
   by_cases h : t' = t
   ·rw [if_pos h]; exact .inr (.inl rfl)
   ·rw [if_neg h]; exact .inl rfl
 split at ht
 ·simp only [Option.some.injEq, Prod.mk.injEq] at ht
  obtain ⟨rfl, rfl⟩ := ht
  exact .refl
 ·split at ht
  ·cases ht
  ·cases ht
  ·split at ht <;> simp only [Option.some.injEq, Prod.mk.injEq] at ht <;> obtain ⟨rfl, rfl⟩ := ht
   ·exact .refl
   ·exact hb _
  ·rename_i r p o n agg hav
   split at ht
   ·split at ht
    ·simp only [Option.some.injEq, Prod.mk.injEq] at ht
     obtain ⟨rfl, rfl⟩ := ht
     exact .refl
    ·split at ht
     ·rename_i s1 hs1
      simp only [Option.some.injEq, Prod.mk.injEq] at ht
      obtain ⟨rfl, rfl⟩ := ht
      unfold RS.poke at hs1
      split at hs1
      ·rename_i c0 hc0
       split at hs1
       ·obtain rfl := (Option.some.inj hs1).symm
        refine ⟨⟨[(r, p, o, n)], rfl⟩, fun t' => ?_⟩
        simp only [RS.mark, RS.set, get_put]
        by_cases h : t' = r
        ·rw [if_pos h, h]; exact .inr (.inr ⟨c0, _, hc0, rfl, fun v => base_withRow ..⟩)
        ·rw [if_neg h]; exact .inl rfl
       ·cases hs1
      ·cases hs1
     ·cases ht
   ·cases ht
  ·cases ht

/-- The arguments that are given away. -/
structure Given (arg : Tmp → Value) (w : World) (I : Nat → Prop) (O O' : Tmp → Nat → Prop) (us : Nat → Value) (as : List Arg) (cs : List CV) (A : Nat → Nat → Prop) : Prop where
 own : ∀ j b, A j b → ∃ t, O t b
 left : ∀ t b, O' t b → O t b
 gone : ∀ t b, O' t b → ∀ j, ¬ A j b
 dis : ∀ j j' b, A j b → A j' b → j = j'
 len : cs.length = as.length
 o : ∀ j, as[j]? = some .o → ∃ c, cs[j]? = some c ∧ c.flat = true ∧ RepC arg w I c (us j) (A j)
 no : ∀ j b, A j b → as[j]? = some .o
 v : ∀ (j : Nat) c r, as[j]? = some (.v c r) → cs[j]? = some c
 m : ∀ (j : Nat) c r p o, as[j]? = some (.m c r p o) → cs[j]? = some c

theorem given_sound : ∀ (as : List Arg) (xs : List X) (s s' : RS) (O : Tmp → Nat → Prop) (us : Nat → Value) (cs : List CV), Rel arg W I O s vs w → s.given as xs = some (cs, s') → (∀ (j : Nat) x, xs[j]? = some x → XV vs x (us j)) →
  ∃ O' A, Rel arg W I O' s' vs w ∧ Given arg w I O O' us as cs A ∧ Worn s s' ∧ xs.length = as.length
 | [], [], s, s', O, us, cs, h, hg, hx => by
  simp only [RS.given, Option.some.injEq, Prod.mk.injEq] at hg
  obtain ⟨rfl, rfl⟩ := hg
  exact ⟨O, fun _ _ => False, h, ⟨fun _ _ h => h.elim, fun _ _ h => h, fun _ _ _ _ h => h, fun _ _ _ h => h.elim, rfl, fun j h => by simp at h, fun _ _ h => h.elim, fun j c r h => by simp at h, fun j c r p o h => by simp at h⟩, .refl, rfl⟩
 | [], _ :: _, s, s', O, us, cs, h, hg, hx => by simp [RS.given] at hg
 | .v .. :: _, [], s, s', O, us, cs, h, hg, hx => by simp [RS.given] at hg
 | .m .. :: _, [], s, s', O, us, cs, h, hg, hx => by simp [RS.given] at hg
 | .o :: _, [], s, s', O, us, cs, h, hg, hx => by simp [RS.given] at hg
 | .v c r :: as, x :: xs, s, s', O, us, cs, h, hg, hx => by
  simp only [RS.given] at hg
  split at hg
  ·rename_i cs1 s1 h1
   simp only [Option.some.injEq, Prod.mk.injEq] at hg
   obtain ⟨rfl, rfl⟩ := hg
   obtain ⟨O', A, k1, k2, k3, k4⟩ := given_sound as xs s s1 O (fun j => us (j + 1)) cs1 h h1 fun j x hj => hx (j + 1) x (by simpa using hj)
   refine ⟨O', fun j b => match j with | 0 => False | j + 1 => A j b, k1, ⟨fun j b hb => ?_, k2.left, fun t b hb j hj => ?_, fun j j' b hb hb' => ?_, by simp [k2.len], fun j hj => ?_, fun j b hb => ?_, fun j c' r' hj => ?_, fun j c' r' p' o' hj => ?_⟩, k3, by simp [k4]⟩
   ·cases j with
    | zero => exact hb.elim
    | succ j => exact k2.own j b hb
   ·cases j with
    | zero => exact hj.elim
    | succ j => exact k2.gone t b hb j hj
   ·cases j with
    | zero => exact hb.elim
    | succ j => cases j' with
     | zero => exact hb'.elim
     | succ j' => rw [k2.dis j j' b hb hb']
   ·cases j with
    | zero => simp at hj
    | succ j => simpa using k2.o j (by simpa using hj)
   ·cases j with
    | zero => exact hb.elim
    | succ j => simpa using k2.no j b hb
   ·cases j with
    | zero => simp at hj; simp [hj.1]
    | succ j => simpa using k2.v j c' r' (by simpa using hj)
   ·cases j with
    | zero => simp at hj
    | succ j => simpa using k2.m j c' r' p' o' (by simpa using hj)
  ·cases hg
 | .m c r p o :: as, x :: xs, s, s', O, us, cs, h, hg, hx => by
  simp only [RS.given] at hg
  split at hg
  ·rename_i cs1 s1 h1
   simp only [Option.some.injEq, Prod.mk.injEq] at hg
   obtain ⟨rfl, rfl⟩ := hg
   obtain ⟨O', A, k1, k2, k3, k4⟩ := given_sound as xs s s1 O (fun j => us (j + 1)) cs1 h h1 fun j x hj => hx (j + 1) x (by simpa using hj)
   refine ⟨O', fun j b => match j with | 0 => False | j + 1 => A j b, k1, ⟨fun j b hb => ?_, k2.left, fun t b hb j hj => ?_, fun j j' b hb hb' => ?_, by simp [k2.len], fun j hj => ?_, fun j b hb => ?_, fun j c' r' hj => ?_, fun j c' r' p' o' hj => ?_⟩, k3, by simp [k4]⟩
   ·cases j with
    | zero => exact hb.elim
    | succ j => exact k2.own j b hb
   ·cases j with
    | zero => exact hj.elim
    | succ j => exact k2.gone t b hb j hj
   ·cases j with
    | zero => exact hb.elim
    | succ j => cases j' with
     | zero => exact hb'.elim
     | succ j' => rw [k2.dis j j' b hb hb']
   ·cases j with
    | zero => simp at hj
    | succ j => simpa using k2.o j (by simpa using hj)
   ·cases j with
    | zero => exact hb.elim
    | succ j => simpa using k2.no j b hb
   ·cases j with
    | zero => simp at hj
    | succ j => simpa using k2.v j c' r' (by simpa using hj)
   ·cases j with
    | zero => simp at hj; simp [hj.1]
    | succ j => simpa using k2.m j c' r' p' o' (by simpa using hj)
  ·cases hg
 | .o :: as, x :: xs, s, s', O, us, cs, h, hg, hx => by
  simp only [RS.given] at hg
  split at hg
  ·rename_i c s0 ht
   split at hg
   ·rename_i hfl
    split at hg
    ·rename_i cs1 s1 h1
     simp only [Option.some.injEq, Prod.mk.injEq] at hg
     obtain ⟨rfl, rfl⟩ := hg
     obtain ⟨S, O1, t1, t2, t3⟩ := h.take (hx 0 x rfl) ht
     obtain ⟨O', A, k1, k2, k3, k4⟩ := given_sound as xs s0 s1 O1 (fun j => us (j + 1)) cs1 t2 h1 fun j x hj => hx (j + 1) x (by simpa using hj)
     refine ⟨O', fun j b => match j with | 0 => S b | j + 1 => A j b, k1, ⟨fun j b hb => ?_, fun t b hb => t3.2.1 t b (k2.left t b hb), fun t b hb j hj => ?_, fun j j' b hb hb' => ?_, by simp [k2.len], fun j hj => ?_, fun j b hb => ?_, fun j c' r' hj => ?_, fun j c' r' p' o' hj => ?_⟩,
      (take_worn ht).trans k3, by simp [k4]⟩
     ·cases j with
      | zero => exact t3.1 b hb
      | succ j => obtain ⟨t, h'⟩ := k2.own j b hb; exact ⟨t, t3.2.1 t b h'⟩
     ·cases j with
      | zero => exact t3.2.2 t b (k2.left t b hb) hj
      | succ j => exact k2.gone t b hb j hj
     ·have hno : ∀ j, S b → ¬ A j b := fun j hS hA => by obtain ⟨t, h'⟩ := k2.own j b hA; exact t3.2.2 t b h' hS
      cases j with
      | zero => cases j' with
       | zero => rfl
       | succ j' => exact absurd hb' (hno j' hb)
      | succ j => cases j' with
       | zero => exact absurd hb (hno j hb')
       | succ j' => rw [k2.dis j j' b hb hb']
     ·cases j with
      | zero => exact ⟨c, by simp, hfl, t1⟩
      | succ j => simpa using k2.o j (by simpa using hj)
     ·cases j with
      | zero => simp
      | succ j => simpa using k2.no j b hb
     ·cases j with
      | zero => simp at hj
      | succ j => simpa using k2.v j c' r' (by simpa using hj)
     ·cases j with
      | zero => simp at hj
      | succ j => simpa using k2.m j c' r' p' o' (by simpa using hj)
    ·cases hg
   ·cases hg
  ·cases hg

end Go.VS

/- Calls: what a function's answer means in the model, and that a call turns the slots as the evaluator says. -/
namespace Go.VS
open Go Go.RowKit
set_option linter.unusedSimpArgs false
set_option linter.unusedVariables false

variable {P : Program} {arg : Tmp → Value} {W w w' : World} {I I' : Nat → Prop} {O O' : Tmp → Nat → Prop} {s s' : RS} {vs : Array Value} {S S' : Nat → Prop} {c : CV} {x : X} {v : Value} {G : Sigs} {F : Fns}

/-- Results: one, or a tuple of several. -/
def RepR (arg : Tmp → Value) (w : World) (I : Nat → Prop) (res : List CV) (v : Value) (S : Nat → Prop) : Prop :=
 match res with
 | [c] => RepC arg w I c v S
 | cs => RepT arg w I cs v S

/-- What holds behind a call whose argument j owned the blocks A j. -/
structure After (W w : World) (I : Nat → Prop) (A : Nat → Nat → Prop) (us : Array Value) (res outs : List CV) (v : Value) (w' : World) (I' : Nat → Prop) (R : Nat → Prop) (A' : Nat → Nat → Prop) : Prop where
 bel : Below W.heap.size W w'
 imm : ∀ b, I b → I' b
 ilt : ∀ b, I' b → b < w'.heap.size
 size : w.heap.size ≤ w'.heap.size
 kept : ∀ b, b < w.heap.size → (∀ j, ¬ A j b) → w'.heap[b]? = w.heap[b]?
 got : ∀ b, R b ∨ (∃ j, A' j b) ∨ I' b → (∃ j, A j b) ∨ I b ∨ w.heap.size ≤ b
 rlt : ∀ b, R b → b < w'.heap.size ∧ ¬ I' b ∧ ∀ j, ¬ A' j b
 alt : ∀ j b, A' j b → b < w'.heap.size ∧ ¬ I' b
 adis : ∀ j j' b, A' j b → A' j' b → j = j'
 res : ∀ arg, RepR arg w' I' res v R
 outs : ∀ (j : Nat) c, outs[j]? = some c → ∀ arg, RepC arg w' I' c (us.getD j undef) (A' j)

/-- Function f answers these arguments with these results; 'outs': what became of the arguments lent to it. -/
def Answers (P : Program) (W : World) (f : FuncId) (cs res outs : List CV) : Prop :=
 ∀ (w : World) (I : Nat → Prop) (A : Nat → Nat → Prop) (us : Array Value) (Q : Ending → World → Prop),
  Below W.heap.size W w → (∀ b, b < W.heap.size → I b) → (∀ b, I b → b < w.heap.size) → us.size = cs.length → (∀ j b, A j b → b < w.heap.size ∧ ¬ I b) → (∀ j j' b, A j b → A j' b → j = j') →
  (∀ (j : Nat) c, cs[j]? = some c → ∀ arg, RepC arg w I c (us.getD j undef) (A j)) →
  (∀ v w' I' R A', After W w I A us res outs v w' I' R A' → Q (.returned v) w') → Calls P f us w Q

/-- A function that the program has itself. -/
def Callable (P : Program) (f : FuncId) : Prop := ∃ fn, P.funcs[f]? = some fn ∧ fn.body.isSome = true ∧ fn.name ≠ "runtime.NumGoroutine"
def callB (P : Program) (f : FuncId) : Bool := match P.funcs[f]? with
 | some fn => fn.body.isSome && decide (fn.name ≠ "runtime.NumGoroutine")
 | none => false
theorem callB_ok {P : Program} {f : FuncId} (h : callB P f = true) : Callable P f := by
 unfold callB at h
 split at h
 ·rename_i fn hf
  rw [Bool.and_eq_true, decide_eq_true_eq] at h
  exact ⟨fn, hf, h.1, h.2⟩
 ·cases h
/-- What the callees answer is so. -/
def Knows (P : Program) (W : World) (G : Sigs) (F : Fns) : Prop :=
 ∀ f g cs res outs, G f = some g → F f cs = some (res, outs) → Answers P W f cs res outs ∧ (g.own = true → res.all CV.free = true ∧ outs.all CV.free = true) ∧ Callable P f

/-- What is all its own does not lean on what is immutable. -/
theorem freeR_get : ∀ {r : List L} {j : Nat} {l : L}, freeR r = true → r[j]? = some l → l.free = true
 | [], _, _, _, h => by simp at h
 | x :: r, 0, l, ho, h => by
  simp only [freeR, Bool.and_eq_true] at ho
  simp at h
  exact h ▸ ho.1
 | x :: r, j + 1, l, ho, h => by
  simp only [freeR, Bool.and_eq_true] at ho
  simp at h
  exact freeR_get ho.2 h
theorem freeRR_get : ∀ {r : List (List L)} {j : Nat} {l : List L}, freeRR r = true → r[j]? = some l → freeR l = true
 | [], _, _, _, h => by simp at h
 | x :: r, 0, l, ho, h => by
  simp only [freeRR, Bool.and_eq_true] at ho
  simp at h
  exact h ▸ ho.1
 | x :: r, j + 1, l, ho, h => by
  simp only [freeRR, Bool.and_eq_true] at ho
  simp at h
  exact freeRR_get ho.2 h
theorem RepL.free {l : L} (h : RepL w I l v S) (hf : l.free = true) : RepL w I' l v S := by
 induction h with
 | bad v S => exact .bad ..
 | self t v S => exact .self ..
 | bts e l v S h1 h2 => exact .bts _ _ _ _ h1 h2
 | int => exact .int ..
 | bool => exact .bool ..
 | str => exact .str ..
 | fn f vs S h => exact .fn _ _ _ h
 | clo f vals S b cs e h1 h2 h3 h4 => exact .clo f vals _ b cs e h1 h2 h3 h4
 | nil o sz S a cap h => exact .nil _ _ _ _ _ h
 | own sz rows S b cap cs e cv D h1 hlen hcap hb hcs hsz hcv hD hdis hrep ih =>
  refine .own sz rows S b cap cs e cv D h1 hlen hcap hb hcs hsz hcv hD hdis fun i j r l hr hl => ih i j r l hr hl ?_
  simp only [L.free, Bool.and_eq_true] at hf
  exact freeR_get (freeRR_get hf.2 hr) hl
 | imm => simp [L.free] at hf
theorem RepRow.free {row : List L} {get : Nat → Option Value} (h : RepRow w I row get S) (hf : freeR row = true) : RepRow w I' row get S := by
 obtain ⟨D, h1, h2, h3⟩ := h
 refine ⟨D, h1, h2, fun j l hl => ?_⟩
 obtain ⟨v, a, b, c⟩ := h3 j l hl
 exact ⟨v, a, b, c.free (freeR_get hf hl)⟩
theorem RepC.free (h : RepC arg w I c v S) (hf : c.free = true) : RepC arg w I' c v S := by
 cases c with
 | leaf l => exact ⟨h.1, h.2.free hf⟩
 | agg ls => obtain ⟨cs, h1, h2, h3⟩ := h; exact ⟨cs, h1, h2, h3.free hf⟩
 | box row => obtain ⟨b, cs, e, h1, h2, h3, h4, h5, h6⟩ := h; exact ⟨b, cs, e, h1, h2, h3, h4, h5.free hf, h6⟩
 | pbox t row => cases hf
 | gone => trivial
theorem RepT.free {cs : List CV} (h : RepT arg w I cs v S) (hf : cs.all CV.free = true) : RepT arg w I' cs v S := by
 obtain ⟨us, h1, h2, D, d1, d2, d3⟩ := h
 refine ⟨us, h1, h2, D, d1, d2, fun j c hc => ?_⟩
 obtain ⟨u, u1, u2⟩ := d3 j c hc
 exact ⟨u, u1, u2.free (List.all_eq_true.1 hf c (List.mem_of_getElem? hc))⟩
theorem RepR.free {cs : List CV} (h : RepR arg w I cs v S) (hf : cs.all CV.free = true) : RepR arg w I' cs v S := by
 match cs, h, hf with
 | [], h, hf => exact RepT.free h hf
 | [c], h, hf => exact RepC.free h (by simpa using hf)
 | _ :: _ :: _, h, hf => exact RepT.free h hf

/-- Arguments that are seen, or lent. -/
def Seen (arg : Tmp → Value) (w : World) (I : Nat → Prop) (O : Tmp → Nat → Prop) (s : RS) (vs : Array Value) (u : Value) : Arg → Prop
 | .v c r => c.flat = true ∧ RepC arg w (fun b => I b ∨ ∃ t, r = some t ∧ O t b) c u (fun _ => False) ∧ ∀ t, r = some t → ∃ c0, s.e.get t = .v c0
 | .m c r p o => ∃ c0, s.e.get r = .v c0 ∧ ((∃ row, c0 = .box row ∧ c = .box row ∧ u = vs.getD r undef) ∨ c.flat = true)
 | .o => True

theorem flat_freeze {c : CV} (h : c.flat = true) : c.freeze.flat = true := by cases c <;> first | rfl | cases h
theorem argV_sound {u : Value} {a : Arg} (h : Rel arg W I O s vs w) (hx : XV vs x u) (ha : s.argV x = some a) : (∃ c r, a = .v c r) ∧ Seen arg w I O s vs u a := by
 cases x with
 | c c0 =>
  simp only [RS.argV] at ha
  split at ha
  ·rename_i hf
   obtain rfl := (Option.some.inj ha).symm
   exact ⟨⟨_, _, rfl⟩, flat_freeze hf, (hx arg w I).freeze (fun _ h => h.elim) fun b hb => .inl hb, fun t h => by cases h⟩
  ·cases ha
 | t t =>
  have hlk := fun c hl => h.look (x := .t t) (c := c) hx hl
  simp only [XV] at hx
  subst hx
  simp only [RS.argV] at ha
  split at ha
  ·rename_i c0 hl
   split at ha
   ·rename_i hf
    split at ha
    ·rename_i hsh
     obtain rfl := (Option.some.inj ha).symm
     obtain ⟨t1, S, k1, k2⟩ := hlk c0 hl
     exact ⟨⟨_, _, rfl⟩, flat_freeze hf, (k1.unowned (S' := fun _ => False) hsh).freeze (fun _ h => h.elim) fun b hb => .inl hb, fun t h => by cases h⟩
    ·have hr := h.rep t
     split at ha
     ·rename_i c1 hav
      obtain rfl := (Option.some.inj ha).symm
      rw [hav] at hr hl
      simp only [RS.look, Option.some.injEq] at hl
      subst hl
      exact ⟨⟨_, _, rfl⟩, flat_freeze hf, RepC.freeze hr (fun b hb => .inr ⟨t, rfl, hb⟩) fun b hb => .inl hb, fun t' h => by cases h; exact ⟨_, hav⟩⟩
     ·rename_i r p o n agg hav
      obtain rfl := (Option.some.inj ha).symm
      rw [hav] at hr hl
      simp only [RS.look] at hl
      split at hl
      ·rename_i hcl
       split at hl
       ·rename_i row hs
        obtain ⟨B, row', k1, k2⟩ := hr hcl
        obtain ⟨c1, B', S', hc1, f1, f2, f3, _⟩ := h.slot hs
        obtain ⟨rfl, rfl⟩ := k1.unique hc1 f1
        exact ⟨⟨_, _, rfl⟩, flat_freeze hf, (cells_rep (arg := arg) f2 hl k2.2).freeze (fun b hb => .inr ⟨r, rfl, (f3 b hb).1⟩) fun b hb => .inl hb, fun t' h => by cases h; exact ⟨_, hc1⟩⟩
       ·cases hl
      ·cases hl
     ·cases ha
   ·cases ha
  ·cases ha
theorem argM_sound {u : Value} {a : Arg} (h : Rel arg W I O s vs w) (hx : XV vs x u) (ha : s.argM x = some a) : Seen arg w I O s vs u a := by
 refine (?_ : True ∧ _).2
 cases x with
 | c c0 => cases ha
 | t t =>
  have hargV := fun ha => (argV_sound (a := a) h hx ha).2
  simp only [XV] at hx
  subst hx
  simp only [RS.argM] at ha
  split at ha
  ·exact ⟨trivial, hargV ha⟩
  split at ha
  ·rename_i row hav
   obtain rfl := (Option.some.inj ha).symm
   exact ⟨trivial, _, hav, .inl ⟨row, rfl, rfl, rfl⟩⟩
  ·rename_i l hav
   obtain rfl := (Option.some.inj ha).symm
   exact ⟨trivial, _, hav, .inr rfl⟩
  ·rename_i ls hav
   obtain rfl := (Option.some.inj ha).symm
   exact ⟨trivial, _, hav, .inr rfl⟩
  ·rename_i r hav
   split at ha
   ·rename_i hcl
    split at ha
    ·rename_i row hrt
     obtain rfl := (Option.some.inj ha).symm
     refine ⟨trivial, _, hrt, .inl ⟨row, rfl, rfl, ?_⟩⟩
     have hr := h.rep t
     rw [hav] at hr
     obtain ⟨b, o', row', ⟨c1, e1, e2⟩, k2⟩ := hr hcl
     rw [hrt] at e1
     obtain rfl := (AV.v.inj e1).symm
     have hq := h.rep r
     rw [hrt] at hq
     obtain ⟨b2, cs, e, hv2, _⟩ := hq
     rw [hv2] at e2
     generalize hB : CV.base (.box row) (.pointer (some ⟨b2, 0, none⟩)) = B0 at e2
     cases e2
     simp only [CV.base, Base.addr.injEq] at hB
     obtain ⟨rfl, rfl⟩ := hB
     rw [k2, hv2]
    ·cases ha
   ·cases ha
  ·rename_i r p o n agg hav
   split at ha
   ·rename_i c hl
    obtain rfl := (Option.some.inj ha).symm
    simp only [RS.look] at hl
    split at hl
    ·split at hl
     ·rename_i row hs
      obtain ⟨c1, _, _, hc1, _⟩ := h.slot hs
      refine ⟨trivial, c1, hc1, .inr ?_⟩
      unfold cellsOf at hl
      split at hl
      ·split at hl
       ·obtain rfl := (Option.some.inj hl).symm; rfl
       ·cases hl
      ·split at hl
       ·obtain rfl := (Option.some.inj hl).symm; rfl
       ·cases hl
     ·cases hl
    ·cases hl
   ·cases ha
  ·cases ha

theorem seen_sound : ∀ (ms : List Mode) (xs : List X) (as : List Arg) (us : Nat → Value), Rel arg W I O s vs w → s.seen ms xs = some as → (∀ (j : Nat) x, xs[j]? = some x → XV vs x (us j)) → ∀ (j : Nat) a, as[j]? = some a → Seen arg w I O s vs (us j) a
 | [], [], as, us, h, hs, hx, j, a, hj => by
  simp only [RS.seen, Option.some.injEq] at hs
  subst hs
  simp at hj
 | [], _ :: _, as, us, h, hs, hx, j, a, hj => by simp [RS.seen] at hs
 | _ :: _, [], as, us, h, hs, hx, j, a, hj => by simp [RS.seen] at hs
 | m :: ms, x :: xs, as, us, h, hs, hx, j, a, hj => by
  simp only [RS.seen] at hs
  split at hs
  ·rename_i a1 as1 h1 h2
   obtain rfl := (Option.some.inj hs).symm
   cases j with
   | succ j => exact seen_sound ms xs as1 (fun j => us (j + 1)) h h2 (fun j x hj => hx (j + 1) x (by simpa using hj)) j a (by simpa using hj)
   | zero =>
    simp at hj
    subst hj
    cases m with
    | V => exact (argV_sound h (hx 0 x rfl) h1).2
    | M => exact argM_sound h (hx 0 x rfl) h1
    | O => simp at h1; subst h1; trivial
  ·cases hs

end Go.VS

/- Behind a call: the slots stand for the frame again. -/
namespace Go.VS
open Go Go.RowKit
set_option linter.unusedSimpArgs false
set_option linter.unusedVariables false

variable {P : Program} {arg : Tmp → Value} {W w w' : World} {I I' : Nat → Prop} {O O' : Tmp → Nat → Prop} {s s' : RS} {vs : Array Value} {S S' : Nat → Prop} {c : CV} {x : X} {v : Value} {G : Sigs} {F : Fns}

theorem rootsV_mem : ∀ {as : List Arg} {r : Tmp}, r ∈ rootsV as → ∃ (j : Nat) (c : CV), as[j]? = some (.v c (some r))
 | [], r, h => by simp [rootsV] at h
 | .v c none :: as, r, h => by obtain ⟨j, c', hj⟩ := rootsV_mem (as := as) h; exact ⟨j + 1, c', by simpa using hj⟩
 | .v c (some r') :: as, r, h => by
  simp only [rootsV, List.mem_cons] at h
  rcases h with rfl | h
  ·exact ⟨0, c, rfl⟩
  ·obtain ⟨j, c', hj⟩ := rootsV_mem (as := as) h; exact ⟨j + 1, c', by simpa using hj⟩
 | .m .. :: as, r, h => by obtain ⟨j, c', hj⟩ := rootsV_mem (as := as) h; exact ⟨j + 1, c', by simpa using hj⟩
 | .o :: as, r, h => by obtain ⟨j, c', hj⟩ := rootsV_mem (as := as) h; exact ⟨j + 1, c', by simpa using hj⟩
theorem mem_rootsV : ∀ {as : List Arg} {j : Nat} {c : CV} {r : Tmp}, as[j]? = some (.v c (some r)) → r ∈ rootsV as
 | [], j, c, r, h => by simp at h
 | a :: as, 0, c, r, h => by simp at h; subst h; simp [rootsV]
 | a :: as, j + 1, c, r, h => by
  have := mem_rootsV (as := as) (j := j) (by simpa using h)
  cases a with
  | v c r' => cases r' <;> simp [rootsV, this]
  | _ => exact this
theorem rootsM_mem : ∀ {as : List Arg} {r : Tmp}, r ∈ rootsM as → ∃ (j : Nat) (c : CV) (p : List (Nat × Nat)) (o : Nat), as[j]? = some (.m c r p o)
 | [], r, h => by simp [rootsM] at h
 | .m c r' p o :: as, r, h => by
  simp only [rootsM, List.mem_cons] at h
  rcases h with rfl | h
  ·exact ⟨0, c, p, o, rfl⟩
  ·obtain ⟨j, c', p', o', hj⟩ := rootsM_mem (as := as) h; exact ⟨j + 1, c', p', o', by simpa using hj⟩
 | .v .. :: as, r, h => by obtain ⟨j, c', p', o', hj⟩ := rootsM_mem (as := as) h; exact ⟨j + 1, c', p', o', by simpa using hj⟩
 | .o :: as, r, h => by obtain ⟨j, c', p', o', hj⟩ := rootsM_mem (as := as) h; exact ⟨j + 1, c', p', o', by simpa using hj⟩
theorem mem_rootsM : ∀ {as : List Arg} {j : Nat} {c : CV} {r : Tmp} {p : List (Nat × Nat)} {o : Nat}, as[j]? = some (.m c r p o) → r ∈ rootsM as
 | [], j, c, r, p, o, h => by simp at h
 | a :: as, 0, c, r, p, o, h => by simp at h; subst h; simp [rootsM]
 | a :: as, j + 1, c, r, p, o, h => by
  have := mem_rootsM (as := as) (j := j) (by simpa using h)
  cases a with
  | m c r' => simp [rootsM, this]
  | _ => exact this
theorem rootsM_inj : ∀ {as : List Arg} {j j' : Nat} {c c' : CV} {r : Tmp} {p p' : List (Nat × Nat)} {o o' : Nat}, nodup (rootsM as) = true → as[j]? = some (.m c r p o) → as[j']? = some (.m c' r p' o') → j = j'
 | [], j, j', c, c', r, p, p', o, o', hn, h, h' => by simp at h
 | a :: as, 0, 0, c, c', r, p, p', o, o', hn, h, h' => rfl
 | a :: as, 0, j' + 1, c, c', r, p, p', o, o', hn, h, h' => by
  simp at h; subst h
  simp only [rootsM, nodup, Bool.and_eq_true, Bool.not_eq_true', List.contains_eq_mem, decide_eq_false_iff_not] at hn
  exact absurd (mem_rootsM (as := as) (j := j') (by simpa using h')) hn.1
 | a :: as, j + 1, 0, c, c', r, p, p', o, o', hn, h, h' => by
  simp at h'; subst h'
  simp only [rootsM, nodup, Bool.and_eq_true, Bool.not_eq_true', List.contains_eq_mem, decide_eq_false_iff_not] at hn
  exact absurd (mem_rootsM (as := as) (j := j) (by simpa using h)) hn.1
 | a :: as, j + 1, j' + 1, c, c', r, p, p', o, o', hn, h, h' => by
  have hn' : nodup (rootsM as) = true := by
   cases a with
   | m => simp only [rootsM, nodup, Bool.and_eq_true] at hn; exact hn.2
   | _ => exact hn
  rw [rootsM_inj (as := as) (j := j) (j' := j') hn' (by simpa using h) (by simpa using h')]

theorem lent_box {cr c c' cr' : CV} {p : List (Nat × Nat)} {o n : Nat} (h : lent cr p o c c' = some (cr', n)) : ∃ row row', c = .box row ∧ c' = .box row' ∧ row'.length = row.length ∧ cr' = .box row' ∧ n = row.length + 1 := by
 unfold lent at h
 split at h
 ·split at h
  ·rename_i row row' hl
   simp only [Option.some.injEq, Prod.mk.injEq] at h
   exact ⟨row, row', rfl, rfl, hl, h.1.symm, h.2.symm⟩
  ·cases h
 ·cases h

theorem back_spec {s0 : RS} : ∀ (as : List Arg) (outs : List CV) (s s2 : RS), s0.back s as outs = some s2 → nodup (rootsM as) = true → (∀ r ∈ rootsM as, r ∉ rootsV as) →
  (∀ r ∈ rootsV as, s2.e.get r = s0.e.get r) ∧ (∀ t, t ∉ rootsM as → t ∉ rootsV as → s2.e.get t = s.e.get t) ∧
  ∃ mm : List Dirt, s2.d = mm ++ s.d ∧ (∀ e ∈ mm, e.1 ∈ rootsM as) ∧ ∀ (j : Nat) c r p o, as[j]? = some (.m c r p o) → ∃ row row', c = .box row ∧ outs[j]? = some (.box row') ∧ row'.length = row.length ∧ s2.e.get r = .v (.box row') ∧ (r, [], 0, row.length + 1) ∈ mm
 | [], [], s, s2, hb, hn, hd => by
  simp only [RS.back, Option.some.injEq] at hb
  subst hb
  exact ⟨fun r h => by simp [rootsV] at h, fun _ _ _ => rfl, [], rfl, fun e h => by simp at h, fun j c r p o h => by simp at h⟩
 | [], _ :: _, s, s2, hb, hn, hd => by simp [RS.back] at hb
 | .v _ none :: _, [], s, s2, hb, hn, hd => by simp [RS.back] at hb
 | .v _ (some _) :: _, [], s, s2, hb, hn, hd => by simp [RS.back] at hb
 | .m .. :: _, [], s, s2, hb, hn, hd => by simp [RS.back] at hb
 | .o :: _, [], s, s2, hb, hn, hd => by simp [RS.back] at hb
 | .v c none :: as, c1 :: outs, s, s2, hb, hn, hd => by
  obtain ⟨h1, h2, mm, h3, h4, h5⟩ := back_spec as outs s s2 hb hn hd
  refine ⟨h1, h2, mm, h3, h4, fun j c r p o hj => ?_⟩
  cases j with
  | zero => simp at hj
  | succ j => simpa using h5 j c r p o (by simpa using hj)
 | .o :: as, c1 :: outs, s, s2, hb, hn, hd => by
  obtain ⟨h1, h2, mm, h3, h4, h5⟩ := back_spec as outs s s2 hb hn hd
  refine ⟨h1, h2, mm, h3, h4, fun j c r p o hj => ?_⟩
  cases j with
  | zero => simp at hj
  | succ j => simpa using h5 j c r p o (by simpa using hj)
 | .v c (some r0) :: as, c1 :: outs, s, s2, hb, hn, hd => by
  obtain ⟨h1, h2, mm, h3, h4, h5⟩ := back_spec as outs _ s2 hb hn fun r hr h => hd r hr (by simp [rootsV, h])
  refine ⟨fun r hr => ?_, fun t ht ht' => ?_, mm, h3, h4, fun j c r p o hj => ?_⟩
  ·by_cases hin : r ∈ rootsV as
   ·exact h1 r hin
   ·simp only [rootsV, List.mem_cons] at hr
    obtain rfl := hr.resolve_right hin
    rw [h2 r (fun hm => hd r hm (by simp [rootsV])) hin]
    simp only [RS.set, get_put, if_pos]
  ·simp only [rootsV, List.mem_cons, not_or] at ht'
   rw [h2 t ht ht'.2]
   simp only [RS.set, get_put, if_neg ht'.1]
  ·cases j with
   | zero => simp at hj
   | succ j => simpa using h5 j c r p o (by simpa using hj)
 | .m c r0 p0 o0 :: as, c1 :: outs, s, s2, hb, hn, hd => by
  simp only [RS.back] at hb
  split at hb
  ·rename_i cr hcr
   split at hb
   ·rename_i cr' n hl
    obtain ⟨row, row', rfl, rfl, hlen, rfl, rfl⟩ := lent_box hl
    simp only [rootsM, nodup, Bool.and_eq_true, Bool.not_eq_true', List.contains_eq_mem, decide_eq_false_iff_not] at hn
    obtain ⟨h1, h2, mm, h3, h4, h5⟩ := back_spec as outs _ s2 hb hn.2 fun r hr h => hd r (by simp [rootsM, hr]) h
    refine ⟨h1, fun t ht ht' => ?_, mm ++ [(r0, [], 0, row.length + 1)], by rw [h3]; simp [RS.mark, RS.set], fun e he => ?_, fun j c r p o hj => ?_⟩
    ·simp only [rootsM, List.mem_cons, not_or] at ht
     rw [h2 t ht.2 ht']
     simp only [RS.mark, RS.set, get_put, if_neg ht.1]
    ·simp only [List.mem_append, List.mem_singleton] at he
     rcases he with he | rfl
     ·simp [rootsM, h4 e he]
     ·simp [rootsM]
    ·cases j with
     | zero =>
      simp only [List.getElem?_cons_zero, Option.some.injEq, Arg.m.injEq] at hj
      obtain ⟨rfl, rfl, rfl, rfl⟩ := hj
      refine ⟨row, row', rfl, rfl, hlen, ?_, by simp⟩
      rw [h2 r0 hn.1 (hd r0 (by simp [rootsM]))]
      simp only [RS.mark, RS.set, get_put, if_pos]
     | succ j =>
      obtain ⟨row1, row1', k1, k2, k3, k4, k5⟩ := h5 j c r p o (by simpa using hj)
      exact ⟨row1, row1', k1, by simpa using k2, k3, k4, by simp [k5]⟩
   ·cases hb
  ·cases hb

theorem clean_mem {d : List Dirt} {r : Tmp} {p q : List (Nat × Nat)} {x k o n : Nat} (h : clean d r p x k = true) (hm : (r, q, o, n) ∈ d) : n ≠ 0 ∧ meets q o n p x k = false := by
 induction d with
 | nil => simp at hm
 | cons e d ih =>
  rcases List.mem_cons.1 hm with he | hm
  ·subst he
   exact (clean_mark h).2 rfl
  ·exact ih (by obtain ⟨r', q', o', n'⟩ := e; exact (clean_mark h).1) hm
theorem cleanP_mem {d : List Dirt} {r : Tmp} {p q : List (Nat × Nat)} {o n : Nat} (h : cleanP d r p = true) (hm : (r, q, o, n) ∈ d) : n ≠ 0 ∧ hits q o n p = false := by
 induction d with
 | nil => simp at hm
 | cons e d ih =>
  rcases List.mem_cons.1 hm with he | hm
  ·subst he
   exact (cleanP_mark h).2 rfl
  ·exact ih (by obtain ⟨r', q', o', n'⟩ := e; exact (cleanP_mark h).1) hm

/-- A root that nobody has touched, in a later world: its places are where they were. -/
theorem Rel.roots_world (h : Rel arg W I O s vs w) {r : Tmp} {p : List (Nat × Nat)} {B : Base} {row : List L} {e' : Env} (hr : Roots w s.e vs r p B row) (he : e'.get r = s.e.get r) (hw : ∀ b, O r b → w'.heap[b]? = w.heap[b]?) :
  Roots w' e' vs r p B row ∧ ∀ j, j < row.length → B.get w' j = B.get w j := by
 obtain ⟨c, h1, h2⟩ := hr
 have hc := h.rep r
 rw [h1] at hc
 have hB : ∀ j, (c.base (vs.getD r undef)).get w' j = (c.base (vs.getD r undef)).get w j := by
  intro j
  cases hb : c.base (vs.getD r undef) with
  | vals cs => rfl
  | addr b o2 => exact World.cell?_of_block (w := w) (w' := w') (a := ⟨b, o2 + j, none⟩) (hw b (base_owned hc hb).1)
 obtain ⟨q1, q2⟩ := h2.world (RepC.root hc) (fun x hx => hw x hx.1) (fun j _ => hB j)
 exact ⟨⟨c, by rw [he, h1], q1⟩, q2⟩

end Go.VS

/- A call turns the slots as the evaluator says. -/
namespace Go.VS
open Go Go.RowKit
set_option linter.unusedSimpArgs false
set_option linter.unusedVariables false

variable {P : Program} {arg : Tmp → Value} {W w w' : World} {I I' : Nat → Prop} {O O' : Tmp → Nat → Prop} {s s' : RS} {vs : Array Value} {S S' : Nat → Prop} {c : CV} {x : X} {v : Value} {G : Sigs} {F : Fns}

/-- From one world to a later one, beside a value that owns R. -/
structure ExtR (w : World) (I : Nat → Prop) (O : Tmp → Nat → Prop) (w' : World) (I' : Nat → Prop) (O' : Tmp → Nat → Prop) (R : Nat → Prop) : Prop where
 imm : ∀ b, I b → I' b
 size : w.heap.size ≤ w'.heap.size
 kept : ∀ b, b < w.heap.size → (∀ t, ¬ O t b) → w'.heap[b]? = w.heap[b]?
 got : ∀ b, (∃ t, O' t b) ∨ R b ∨ I' b → (∃ t, O t b) ∨ I b ∨ w.heap.size ≤ b
 rlt : ∀ b, R b → b < w'.heap.size ∧ ¬ I' b ∧ ∀ t, ¬ O' t b

/-- What is known beside a call's results: of the arguments given away, of the roots not lent. -/
structure CoreX (arg : Tmp → Value) (w : World) (I : Nat → Prop) (O : Tmp → Nat → Prop) (s s2 : RS) (modes : List Mode) (as : List Arg) (us : Array Value) (outs : List CV) (w' : World) (I2 : Nat → Prop) (O2 : Tmp → Nat → Prop) (R : Nat → Prop) (A' : Nat → Nat → Prop) : Prop where
 outs : ∀ (j : Nat) c, outs[j]? = some c → RepC arg w' I2 c (us.getD j undef) (A' j)
 alt : ∀ j b, A' j b → b < w'.heap.size ∧ ¬ I2 b ∧ ¬ R b
 adis : ∀ j, modes[j]? = some .O → ∀ t b, A' j b → ¬ O2 t b
 agot : ∀ j b, A' j b → (∃ t, O t b) ∨ I b ∨ w.heap.size ≤ b
 same : ∀ r, r ∉ rootsM as → (∀ b, O2 r b → w'.heap[b]? = w.heap[b]?) ∧ ∀ c2, s2.e.get r = .v c2 → ∃ c0, s.e.get r = .v c0 ∧ ∀ v, c2.base v = c0.base v

theorem seen_modeO {s : RS} : ∀ {ms : List Mode} {xs : List X} {as : List Arg} {j : Nat}, s.seen ms xs = some as → ms[j]? = some .O → as[j]? = some .o
 | [], xs, as, j, h, hj => by simp at hj
 | m :: ms, [], as, j, h, hj => by simp [RS.seen] at h
 | m :: ms, x :: xs, as, j, h, hj => by
  simp only [RS.seen] at h
  split at h
  ·rename_i a as' h1 h2
   obtain rfl := (Option.some.inj h).symm
   cases j with
   | zero => simp at hj; subst hj; simp at h1; simp [h1]
   | succ j => simp at hj; simpa using seen_modeO h2 hj
  ·cases h

theorem core_sound {f : FuncId} {g : Sig} {modes : List Mode} {as : List Arg} {xs : List X} {us : Array Value} {res outs : List CV} {s2 : RS} {Q : Ending → World → Prop} (h : Rel arg W I O s vs w) (hK : Knows P W G F) (hg : G f = some g) (hx : ∀ (j : Nat) x, xs[j]? = some x → XV vs x (us.getD j undef)) (hul : us.size = xs.length)
  (hc : s.core F f g.own modes xs = some (res, outs, as, s2)) (hQ : ∀ v w' I2 O2 R A', Rel arg W I2 O2 s2 vs w' → RepR arg w' I2 res v R → ExtR w I O w' I2 O2 R → CoreX arg w I O s s2 modes as us outs w' I2 O2 R A' → Q (.returned v) w') : Calls P f us w Q := by
 unfold RS.core at hc
 split at hc
 ·rename_i as has
  split at hc
  ·rename_i hcond
   obtain ⟨hnd, hap, hown⟩ := hcond
   have hMV : ∀ r ∈ rootsM as, r ∉ rootsV as := by
    intro r hr
    have := List.all_eq_true.1 hap r hr
    simpa using this
   split at hc
   ·rename_i cs s1 hgiv
    split at hc
    ·rename_i res' outs hF
     split at hc
     ·rename_i s2' hback
      simp only [Option.some.injEq, Prod.mk.injEq] at hc
      obtain ⟨rfl, rfl, rfl, rfl⟩ := hc
      have hseen := seen_sound _ _ as (fun j => us.getD j undef) h has hx
      have hH := h.hide (rootsM as ++ rootsV as)
      obtain ⟨O1, A, hr1, hgv, hworn, hxl⟩ := given_sound as xs _ s1 _ (fun j => us.getD j undef) cs hH hgiv hx
      obtain ⟨hans, hfree, _⟩ := hK f g cs res' outs hg hF
      obtain ⟨⟨pre, hpre⟩, hwt⟩ := hworn
      have hpre' : s1.d.take (s1.d.length - ((rootsM as).length + (rootsV as).length + s.d.length)) = pre := by
       have : s1.d.length - ((rootsM as).length + (rootsV as).length + s.d.length) = pre.length := by
        rw [hpre]; simp only [RS.hide, List.length_append, List.length_map]; omega
       rw [this, hpre, List.take_left]
      rw [hpre'] at hback
      obtain ⟨bV, bO, mm, bd, bm, bM⟩ := back_spec as outs _ s2' hback hnd hMV
      have hO1 : ∀ t b, O1 t b → t ∉ rootsM as ∧ t ∉ rootsV as ∧ O t b := by
       intro t b hb
       have h1 := hgv.left t b hb
       have h2 : t ∉ rootsM as ++ rootsV as := by simpa using h1.1
       exact ⟨fun hm => h2 (List.mem_append_left _ hm), fun hm => h2 (List.mem_append_right _ hm), h1.2⟩
      have hA : ∀ j b, A j b → ∃ t, t ∉ rootsM as ∧ t ∉ rootsV as ∧ O t b := by
       intro j b hb
       obtain ⟨t, h1⟩ := hgv.own j b hb
       have h2 : t ∉ rootsM as ++ rootsV as := by simpa using h1.1
       exact ⟨t, fun hm => h2 (List.mem_append_left _ hm), fun hm => h2 (List.mem_append_right _ hm), h1.2⟩
      -- what the callee may take for immutable; what the arguments own
      let Ic : Nat → Prop := fun b => I b ∨ ∃ r ∈ rootsV as, O r b
      let Ac : Nat → Nat → Prop := fun j b => A j b ∨ ∃ c r p o, as[j]? = some (.m c r p o) ∧ O r b
      have hAcO : ∀ j b, Ac j b → ∃ t, t ∉ rootsV as ∧ O t b := by
       rintro j b (hb | ⟨c, r, p, o, hj, hb⟩)
       ·obtain ⟨t, h1, h2, h3⟩ := hA j b hb; exact ⟨t, h2, h3⟩
       ·exact ⟨r, hMV r (mem_rootsM hj), hb⟩
      have hAcI : ∀ j b, Ac j b → ¬ Ic b := by
       rintro j b hb (hi | ⟨r, hr, hi⟩)
       ·obtain ⟨t, _, h3⟩ := hAcO j b hb; exact h.notI t b h3 hi
       ·obtain ⟨t, h2, h3⟩ := hAcO j b hb
        have := h.disj t r b h3 hi
        exact h2 (this ▸ hr)
      refine hans w Ic Ac us Q h.bel (fun b hb => .inl (h.old b hb)) ?_ ?_ ?_ ?_ ?_ ?_
      ·rintro b (hb | ⟨r, _, hb⟩)
       ·exact h.ilt b hb
       ·exact h.olt r b hb
      ·rw [hul, hxl, hgv.len]
      ·intro j b hb
       obtain ⟨t, _, h3⟩ := hAcO j b hb
       exact ⟨h.olt t b h3, hAcI j b hb⟩
      ·rintro j j' b (hb | ⟨c, r, p, o, hj, hb⟩) (hb' | ⟨c', r', p', o', hj', hb'⟩)
       ·exact hgv.dis j j' b hb hb'
       ·obtain ⟨t, h1, h2, h3⟩ := hA j b hb
        exact absurd (mem_rootsM hj') (h.disj t r' b h3 hb' ▸ h1)
       ·obtain ⟨t, h1, h2, h3⟩ := hA j' b hb'
        exact absurd (mem_rootsM hj) (h.disj t r b h3 hb ▸ h1)
       ·obtain rfl := h.disj r r' b hb hb'
        exact rootsM_inj hnd hj hj'
      ·intro j c hj arg'
       have hjl : j < as.length := by rw [← hgv.len]; exact (List.getElem?_eq_some_iff.1 hj).1
       have hany : ∀ {arg'} {c : CV} {I S} {v : Value}, (∀ t row, c ≠ .pbox t row) → RepC arg w I c v S → RepC arg' w I c v S := by
        intro arg' c I S v hne hh
        cases c with
        | pbox t row => exact absurd rfl (hne t row)
        | _ => exact hh
       cases ha : as[j]'hjl with
       | v c0 r =>
        have ha' : as[j]? = some (.v c0 r) := by rw [List.getElem?_eq_getElem hjl, ha]
        have := hgv.v j c0 r ha'
        rw [hj] at this
        obtain rfl := Option.some.inj this
        obtain ⟨k1, k2, k3⟩ := hseen j _ ha'
        refine (hany (fun t row he => by rw [he] at k1; cases k1) k2).mono (fun b hb => ?_) fun b hb => hb.elim
        rcases hb with hb | ⟨t, rfl, hb⟩
        ·exact .inl hb
        ·exact .inr ⟨t, mem_rootsV ha', hb⟩
       | m c0 r p o =>
        have ha' : as[j]? = some (.m c0 r p o) := by rw [List.getElem?_eq_getElem hjl, ha]
        have := hgv.m j c0 r p o ha'
        rw [hj] at this
        obtain rfl := Option.some.inj this
        obtain ⟨row, row', rfl, _⟩ := bM j _ r p o ha'
        obtain ⟨c1, k1, k2⟩ := hseen j _ ha'
        rcases k2 with ⟨row2, rfl, e2, e3⟩ | hf
        ·have hr := h.rep r
         rw [k1] at hr
         replace hr : RepC arg w I (.box row2) (vs.getD r undef) (O r) := hr
         rw [e3, e2]
         exact (hany (fun t row he => by cases he) hr).mono (fun b hb => .inl hb) fun b hb => .inr ⟨_, r, p, o, ha', hb⟩
        ·cases hf
       | o =>
        have ha' : as[j]? = some .o := by rw [List.getElem?_eq_getElem hjl, ha]
        obtain ⟨c0, k1, k2, k3⟩ := hgv.o j ha'
        rw [hj] at k1
        obtain rfl := Option.some.inj k1
        exact (hany (fun t row he => by rw [he] at k2; cases k2) k3).mono (fun b hb => .inl hb) fun b hb => .inl hb
      ·intro v w' I' R A' ha
       -- what was not lent or given is as it was
       have hwV : ∀ t b, t ∈ rootsV as → O t b → w'.heap[b]? = w.heap[b]? := fun t b ht hb =>
        ha.kept b (h.olt t b hb) fun j hj => by
         obtain ⟨t', h1, h2⟩ := hAcO j b hj
         exact h1 (h.disj t t' b hb h2 ▸ ht)
       have hwI : ∀ b, I b → w'.heap[b]? = w.heap[b]? := fun b hb =>
        ha.kept b (h.ilt b hb) fun j hj => hAcI j b hj (.inl hb)
       have hO1Ac : ∀ t b, O1 t b → ∀ j, ¬ Ac j b := by
        rintro t b hb j (hj | ⟨c, r, p, o, hj, hj'⟩)
        ·exact hgv.gone t b hb j hj
        ·obtain ⟨h1, h2, h3⟩ := hO1 t b hb
         exact h1 (h.disj t r b h3 hj' ▸ mem_rootsM hj)
       have hO1Ic : ∀ t b, O1 t b → ¬ Ic b := by
        rintro t b hb (hi | ⟨r, hr, hi⟩)
        ·exact h.notI t b (hO1 t b hb).2.2 hi
        ·obtain ⟨h1, h2, h3⟩ := hO1 t b hb
         exact h2 (h.disj t r b h3 hi ▸ hr)
       have hw1 : ∀ t b, O1 t b → w'.heap[b]? = w.heap[b]? := fun t b hb => ha.kept b (hr1.olt t b hb) (hO1Ac t b hb)
       have hO1R : ∀ t b, O1 t b → ¬ (R b ∨ (∃ j, A' j b) ∨ I' b) := by
        intro t b hb hg'
        rcases ha.got b hg' with ⟨j, hj⟩ | hi | hi
        ·exact hO1Ac t b hb j hj
        ·exact hO1Ic t b hb hi
        ·have := hr1.olt t b hb; omega
       let I2 : Nat → Prop := fun b => if g.own = true then I b else I' b
       let O2 : Tmp → Nat → Prop := fun t b => (t ∈ rootsV as ∧ O t b) ∨ (∃ j c p o, as[j]? = some (.m c t p o) ∧ A' j b) ∨ O1 t b
       have hII2 : ∀ b, I b → I2 b := by
        intro b hb
        show if g.own = true then I b else I' b
        split
        ·exact hb
        ·exact ha.imm b (.inl hb)
       have hI2 : ∀ b, I2 b → I' b := by
        intro b hb
        replace hb : if g.own = true then I b else I' b := hb
        split at hb
        ·exact ha.imm b (.inl hb)
        ·exact hb
       have hVI' : ∀ t b, t ∈ rootsV as → O t b → I' b := fun t b ht hb => ha.imm b (.inr ⟨t, ht, hb⟩)
       have hres : RepR arg w' I2 res' v R := by
        have := ha.res arg
        by_cases ho : g.own = true
        ·exact this.free (hfree ho).1
        ·have e : I2 = I' := by funext b; show (if g.own = true then I b else I' b) = I' b; rw [if_neg ho]
         rw [e]; exact this
       have houts : ∀ (j : Nat) c, outs[j]? = some c → RepC arg w' I2 c (us.getD j undef) (A' j) := by
        intro j c hj
        have := ha.outs j c hj arg
        by_cases ho : g.own = true
        ·exact this.free (List.all_eq_true.1 (hfree ho).2 c (List.mem_of_getElem? hj))
        ·have e : I2 = I' := by funext b; show (if g.own = true then I b else I' b) = I' b; rw [if_neg ho]
         rw [e]; exact this
       have hO2 : ∀ t b, O2 t b → b < w'.heap.size ∧ ¬ I2 b ∧ ¬ R b := by
        rintro t b (⟨ht, hb⟩ | ⟨j, c, p, o, hj, hb⟩ | hb)
        ·refine ⟨Nat.lt_of_lt_of_le (h.olt t b hb) ha.size, fun hi => ?_, fun hr => (ha.rlt b hr).2.1 (hVI' t b ht hb)⟩
         rcases hown with ho | ho
         ·replace hi : if g.own = true then I b else I' b := hi
          rw [if_pos ho] at hi
          exact h.notI t b hb hi
         ·rw [ho] at ht; simp at ht
        ·exact ⟨(ha.alt j b hb).1, fun hi => (ha.alt j b hb).2 (hI2 b hi), fun hr => (ha.rlt b hr).2.2 j hb⟩
        ·exact ⟨Nat.lt_of_lt_of_le (hr1.olt t b hb) ha.size, fun hi => hO1R t b hb (.inr (.inr (hI2 b hi))), fun hr => hO1R t b hb (.inl hr)⟩
       have hclean1 : ∀ r p x k, r ∉ rootsM as → r ∉ rootsV as → clean s2'.d r p x k = true → clean s1.d r p x k = true := by
        intro r p x k h1 h2 hcl
        rw [bd, clean_append, clean_append, Bool.and_eq_true, Bool.and_eq_true] at hcl
        rw [hpre, clean_append, RS.hide, clean_hide, hcl.2.1, hcl.2.2]
        simp [h1, h2]
       have hcleanP1 : ∀ r p, r ∉ rootsM as → r ∉ rootsV as → cleanP s2'.d r p = true → cleanP s1.d r p = true := by
        intro r p h1 h2 hcl
        rw [bd, cleanP_append, cleanP_append, Bool.and_eq_true, Bool.and_eq_true] at hcl
        rw [hpre, cleanP_append, RS.hide, cleanP_hide, hcl.2.1, hcl.2.2]
        simp [h1, h2]
       have hsame : ∀ t, (∀ c, s1.e.get t ≠ .v c) → s1.e.get t ≠ .bad → s.e.get t = s1.e.get t := by
        intro t h1 h2
        have hh : (s.hide (rootsM as ++ rootsV as)).e.get t = if (rootsM as ++ rootsV as).contains t then .bad else s.e.get t := get_del ..
        rcases hwt t with k | k | ⟨_, c', _, k, _⟩
        ·rw [hh] at k
         split at k
         ·exact absurd k h2
         ·exact k.symm
        ·exact absurd k h2
        ·exact absurd k (h1 c')
       refine hQ v w' I2 O2 R A' ⟨ha.bel, fun b hb => hII2 b (h.old b hb), fun b hb => ha.ilt b (hI2 b hb), fun t b hb => (hO2 t b hb).1, fun t b hb => (hO2 t b hb).2.1, ?_, fun t => ?_⟩ hres ⟨hII2, ha.size, fun b hb hno => ?_, fun b hb => ?_, fun b hb => ⟨(ha.rlt b hb).1, fun hi => (ha.rlt b hb).2.1 (hI2 b hi), fun t ht => (hO2 t b ht).2.2 hb⟩⟩
        ⟨houts, fun j b hb => ⟨(ha.alt j b hb).1, fun hi => (ha.alt j b hb).2 (hI2 b hi), fun hr => (ha.rlt b hr).2.2 j hb⟩, fun j hmj t b hb ho => ?_, fun j b hb => ?_, fun r hrm => ⟨fun b hb => ?_, fun c2 hc2 => ?_⟩⟩
       ·rintro t t' b (⟨ht, hb⟩ | ⟨j, c, p, o, hj, hb⟩ | hb) (⟨ht', hb'⟩ | ⟨j', c', p', o', hj', hb'⟩ | hb')
        ·exact h.disj t t' b hb hb'
        ·exact absurd (hVI' t b ht hb) (ha.alt j' b hb').2
        ·exact h.disj t t' b hb (hO1 t' b hb').2.2
        ·exact absurd (hVI' t' b ht' hb') (ha.alt j b hb).2
        ·obtain rfl := ha.adis j j' b hb hb'
         rw [hj] at hj'
         simp only [Option.some.injEq, Arg.m.injEq] at hj'
         exact hj'.2.1
        ·exact absurd (.inr (.inl ⟨j, hb⟩)) (hO1R t' b hb')
        ·exact h.disj t t' b (hO1 t b hb).2.2 hb'
        ·exact absurd (.inr (.inl ⟨j', hb'⟩)) (hO1R t b hb)
        ·exact hr1.disj t t' b hb hb'
       ·-- slot t
        by_cases htM : t ∈ rootsM as
        ·obtain ⟨j, c, p, o, hj⟩ := rootsM_mem htM
         obtain ⟨row, row', rfl, k1, k2, k3, k4⟩ := bM j c t p o hj
         rw [k3]
         obtain ⟨c1, q1, q2⟩ := hseen j _ hj
         rcases q2 with ⟨row2, rfl, e2, e3⟩ | hf
         ·have := houts j _ k1
          rw [e3] at this
          exact RepC.mono this (fun _ h => h) fun b hb => .inr (.inl ⟨j, _, p, o, hj, hb⟩)
         ·cases hf
        ·by_cases htV : t ∈ rootsV as
         ·rw [bV t htV]
          obtain ⟨j, c, hj⟩ := rootsV_mem htV
          obtain ⟨_, _, q3⟩ := hseen j _ hj
          obtain ⟨c0, q3⟩ := q3 t rfl
          have hr := h.rep t
          rw [q3] at hr ⊢
          exact (RepC.world hr fun b hb => hb.elim (hwV t b htV) (hwI b)).mono hII2 fun b hb => .inl ⟨htV, hb⟩
         ·rw [bO t htM htV]
          have hr := hr1.rep t
          show RepA arg w' I2 s2' vs (s1.e.get t) (vs.getD t undef) (O2 t)
          have hblk : ∀ b, O1 t b ∨ I b → w'.heap[b]? = w.heap[b]? := fun b hb => hb.elim (hw1 t b) (hwI b)
          -- places behind the call
          have hplace : ∀ r p B row, (∀ c, s1.e.get t ≠ .v c) → s1.e.get t ≠ .bad → (Roots w s1.e vs r p B row → r ∉ rootsM as → r ∉ rootsV as → Roots w' s2'.e vs r p B row ∧ ∀ j, j < row.length → B.get w' j = B.get w j) ∧
            (Roots w s.e vs r p B row → r ∈ rootsV as → Roots w' s2'.e vs r p B row ∧ ∀ j, j < row.length → B.get w' j = B.get w j) := by
           intro r p B row _ _
           refine ⟨fun hrt h1 h2 => hr1.roots_world hrt (bO r h1 h2) (hw1 r), fun hrt h2 => ?_⟩
           exact h.roots_world hrt (bV r h2) fun b hb => hwV r b h2 hb
          have hmroot : ∀ r p B row, r ∈ rootsM as → Roots w s.e vs r p B row → ∃ n mrow, (r, [], 0, n + 1) ∈ mm ∧ s.e.get r = .v (.box mrow) ∧ mrow.length = n ∧ (p = [] → B = CV.base (.box mrow) (vs.getD r undef) ∧ row.length = n ∧ ∃ row', Roots w' s2'.e vs r [] B row') ∧ (∀ c i p', p = (c, i) :: p' → c < n) := by
           intro r p B row hm ⟨c0, g1, g2⟩
           obtain ⟨j, c, p1, o1, hj⟩ := rootsM_mem hm
           obtain ⟨row1, row1', rfl, k1, k2, k3, k4⟩ := bM j c r p1 o1 hj
           obtain ⟨c1, q1, q2⟩ := hseen j _ hj
           rcases q2 with ⟨row2, rfl, e2, e3⟩ | hf
           ·simp only [CV.box.injEq] at e2
            subst e2
            rw [q1] at g1
            obtain rfl := (AV.v.inj g1).symm
            refine ⟨row1.length, row1, k4, q1, rfl, fun hp => ?_, fun c i p' hp => ?_⟩
            ·subst hp
             cases g2
             refine ⟨rfl, rfl, row1', _, k3, ?_⟩
             have : CV.base (.box row1') (vs.getD r undef) = CV.base (.box row1) (vs.getD r undef) := by
              cases vs.getD r undef <;> first | rfl | (rename_i a; cases a <;> rfl)
             rw [this]
             exact .nil ..
            ·subst hp
             cases g2 with
             | step _ _ _ _ _ _ _ sz rows r2 b len cap h1 _ _ _ => exact (List.getElem?_eq_some_iff.1 h1).1
           ·cases hf
          cases hav : s1.e.get t with
          | bad => trivial
          | un => rw [hav] at hr; exact hr
          | v c => rw [hav] at hr; exact (RepC.world hr hblk).mono hII2 fun b hb => .inr (.inr hb)
          | tup cs => rw [hav] at hr; exact (RepT.world hr hblk).mono hII2 fun b hb => .inr (.inr hb)
          | iptr row o =>
           rw [hav] at hr
           obtain ⟨b, o', h1, h2, h3⟩ := hr
           exact ⟨b, o', hII2 b h1, h2, (h3.world (fun j _ => World.cell?_of_block (w := w) (w' := w') (a := ⟨b, o' + j, none⟩) (hwI b h1)) fun x hx => hwI x (hx.resolve_left id)).mono hII2 fun _ h => h⟩
          | ptr r p o =>
           rw [hav] at hr
           have hsv := hsame t (by rw [hav]; intro c h; cases h) (by rw [hav]; intro h; cases h)
           rw [hav] at hsv
           intro hcl
           have hr0 := h.rep t
           rw [hsv] at hr0
           have hcl' := hcl
           rw [bd, cleanP_append, cleanP_append, Bool.and_eq_true, Bool.and_eq_true] at hcl'
           by_cases hrM : r ∈ rootsM as
           ·obtain ⟨b, o', row', k1, k2⟩ := hr0 hcl'.2.2
            obtain ⟨n, mrow, m1, m2, m3, m4, m5⟩ := hmroot r p _ row' hrM k1
            have hh := (cleanP_mem hcl'.1 m1).2
            cases p with
            | nil =>
             obtain ⟨n1, n2, row2, n3⟩ := m4 rfl
             exact ⟨b, o', row2, n3, k2⟩
            | cons q p' =>
             obtain ⟨c, i⟩ := q
             have := m5 c i p' rfl
             simp [hits] at hh
             omega
           ·by_cases hrV : r ∈ rootsV as
            ·obtain ⟨b, o', row', k1, k2⟩ := hr0 hcl'.2.2
             exact ⟨b, o', row', ((hplace r p _ row' (by rw [hav]; intro c h; cases h) (by rw [hav]; intro h; cases h)).2 k1 hrV).1, k2⟩
            ·obtain ⟨b, o', row', k1, k2⟩ := hr (hcleanP1 r p hrM hrV hcl)
             exact ⟨b, o', row', ((hplace r p _ row' (by rw [hav]; intro c h; cases h) (by rw [hav]; intro h; cases h)).1 k1 hrM hrV).1, k2⟩
          | ld r p o n agg =>
           rw [hav] at hr
           have hsv := hsame t (by rw [hav]; intro c h; cases h) (by rw [hav]; intro h; cases h)
           rw [hav] at hsv
           intro hcl
           have hr0 := h.rep t
           rw [hsv] at hr0
           have hcl' := hcl
           rw [bd, clean_append, clean_append, Bool.and_eq_true, Bool.and_eq_true] at hcl'
           have fin : ∀ B row', Roots w' s2'.e vs r p B row' → (∀ j, j < row'.length → B.get w' j = B.get w j) → o + n ≤ row'.length →
             ((agg = true → ∃ cs, vs.getD t undef = .agg cs ∧ cs.size = n ∧ ∀ j, j < n → cs[j]? = B.get w (o + j)) ∧ (agg = false → n = 1 ∧ B.get w o = some (vs.getD t undef))) →
             ∃ B row', Roots w' s2'.e vs r p B row' ∧ o + n ≤ row'.length ∧
              (agg = true → ∃ cs, vs.getD t undef = .agg cs ∧ cs.size = n ∧ ∀ j, j < n → cs[j]? = B.get w' (o + j)) ∧ (agg = false → n = 1 ∧ B.get w' o = some (vs.getD t undef)) := by
            intro B row' k1 k2 k3 k4
            refine ⟨B, row', k1, k3, fun hg => ?_, fun hg => ?_⟩
            ·obtain ⟨cs, q1, q2, q3⟩ := k4.1 hg
             exact ⟨cs, q1, q2, fun j hj => (q3 j hj).trans (k2 (o + j) (by omega)).symm⟩
            ·obtain ⟨q1, q2⟩ := k4.2 hg
             exact ⟨q1, (k2 o (by omega)).trans q2⟩
           by_cases hrM : r ∈ rootsM as
           ·obtain ⟨B, row', k1, k3, k2⟩ := hr0 hcl'.2.2
            obtain ⟨n0, mrow, m1, m2, m3, m4, m5⟩ := hmroot r p _ row' hrM k1
            have hh := (clean_mem hcl'.1 m1).2
            cases p with
            | nil =>
             obtain ⟨n1, n2, row2, n3⟩ := m4 rfl
             simp only [meets, Bool.and_eq_false_iff, decide_eq_false_iff_not] at hh
             have hz : o = 0 ∧ n = 0 := by omega
             obtain ⟨rfl, rfl⟩ := hz
             refine ⟨B, row2, n3, by omega, fun hg => ?_, fun hg => by have := (k2.2 hg).1; omega⟩
             obtain ⟨cs, q1, q2, q3⟩ := k2.1 hg
             exact ⟨cs, q1, q2, fun j hj => by omega⟩
            | cons q p' =>
             obtain ⟨c, i⟩ := q
             have := m5 c i p' rfl
             simp [meets] at hh
             omega
           ·by_cases hrV : r ∈ rootsV as
            ·obtain ⟨B, row', k1, k3, k2⟩ := hr0 hcl'.2.2
             obtain ⟨e1, e2⟩ := (hplace r p _ row' (by rw [hav]; intro c h; cases h) (by rw [hav]; intro h; cases h)).2 k1 hrV
             exact fin B row' e1 e2 k3 k2
            ·obtain ⟨B, row', k1, k3, k2⟩ := hr (hclean1 r p o n hrM hrV hcl)
             obtain ⟨e1, e2⟩ := (hplace r p _ row' (by rw [hav]; intro c h; cases h) (by rw [hav]; intro h; cases h)).1 k1 hrM hrV
             exact fin B row' e1 e2 k3 k2
       ·refine ha.kept b hb fun j hj => ?_
        obtain ⟨t, _, h3⟩ := hAcO j b hj
        exact hno t h3
       ·have key : R b ∨ (∃ j, A' j b) ∨ I' b → (∃ t, O t b) ∨ I b ∨ w.heap.size ≤ b := by
         intro hh
         rcases ha.got b hh with ⟨j, hj⟩ | hi | hi
         ·obtain ⟨t, _, h3⟩ := hAcO j b hj; exact .inl ⟨t, h3⟩
         ·rcases hi with hi | ⟨r, _, hi⟩
          ·exact .inr (.inl hi)
          ·exact .inl ⟨r, hi⟩
         ·exact .inr (.inr hi)
        rcases hb with ⟨t, ⟨_, hb⟩ | ⟨j, _, _, _, _, hb⟩ | hb⟩ | hb | hb
        ·exact .inl ⟨t, hb⟩
        ·exact key (.inr (.inl ⟨j, hb⟩))
        ·exact .inl ⟨t, (hO1 t b hb).2.2⟩
        ·exact key (.inl hb)
        ·exact key (.inr (.inr (hI2 b hb)))
       ·have hjo := seen_modeO has hmj
        rcases ho with ⟨ht, ho⟩ | ⟨j', c, p, o, hj', ho⟩ | ho
        ·exact (ha.alt j b hb).2 (hVI' t b ht ho)
        ·obtain rfl := ha.adis j j' b hb ho
         rw [hjo] at hj'; cases hj'
        ·exact hO1R t b ho (.inr (.inl ⟨j, hb⟩))
       ·rcases ha.got b (.inr (.inl ⟨j, hb⟩)) with ⟨j', hj'⟩ | hi | hi
        ·obtain ⟨t, _, h3⟩ := hAcO j' b hj'; exact .inl ⟨t, h3⟩
        ·rcases hi with hi | ⟨r, _, hi⟩
         ·exact .inr (.inl hi)
         ·exact .inl ⟨r, hi⟩
        ·exact .inr (.inr hi)
       ·rcases hb with ⟨ht, hb⟩ | ⟨j', c, p, o, hj', hb⟩ | hb
        ·exact hwV r b ht hb
        ·exact absurd (mem_rootsM hj') hrm
        ·exact hw1 r b hb
       ·by_cases hrV : r ∈ rootsV as
        ·rw [bV r hrV] at hc2
         exact ⟨c2, hc2, fun _ => rfl⟩
        ·have hh : (s.hide (rootsM as ++ rootsV as)).e.get r = s.e.get r := by
          have : (s.hide (rootsM as ++ rootsV as)).e.get r = if (rootsM as ++ rootsV as).contains r then .bad else s.e.get r := get_del ..
          rw [this, if_neg (by simp [hrm, hrV])]
         have hc3 : s1.e.get r = .v c2 := (bO r hrm hrV).symm.trans hc2
         rcases hwt r with k | k | ⟨c0, c', k0, k, kb⟩
         ·exact ⟨c2, by rw [← hh, ← k, hc3], fun _ => rfl⟩
         ·rw [k] at hc3; cases hc3
         ·rw [k] at hc3
          obtain rfl := (AV.v.inj hc3).symm
          exact ⟨c0, hh ▸ k0, kb⟩
     ·cases hc
    ·cases hc
   ·cases hc
  ·cases hc
 ·cases hc

end Go.VS

/- A call whose argument is lent without being a box: taken, and laid back. -/
namespace Go.VS
open Go Go.RowKit
set_option linter.unusedSimpArgs false
set_option linter.unusedVariables false

variable {P : Program} {arg : Tmp → Value} {W w w' w0 : World} {I I' I0 : Nat → Prop} {O O' O0 : Tmp → Nat → Prop} {s s' s0 s3 : RS} {vs : Array Value} {S S' : Nat → Prop} {c : CV} {x : X} {v : Value} {G : Sigs} {F : Fns}

/-- A slot's hold is changed, the frame is not. -/
theorem Rel.put_same {vs : Array Value} {t : Tmp} {av : AV} {S : Nat → Prop} (h : Rel arg W I O s vs w) (ht : t < vs.size) (hS : ∀ b, S b → b < w.heap.size ∧ ¬ I b ∧ ∀ t', t' ≠ t → ¬ O t' b) (hav : RepA arg w I s vs av (vs.getD t undef) S) (hnp : ∀ r p o, av ≠ .ptr r p o) :
  Rel arg W I (fun t' => if t' = t then S else O t') (s.put t av) vs w := by
 have := h.step ht (Below.refl _ _) hS hav (fun r p o e => absurd e (hnp r p o))
 have he : vs.setIfInBounds t (vs.getD t undef) = vs := by
  refine Array.ext (by simp) fun i h1 h2 => ?_
  rw [Array.getElem_setIfInBounds]
  split
  ·rename_i e; subst e; simp [Array.getD, ht]
  ·rfl
 rw [he] at this
 exact this

theorem Follow.sameB : ∀ {p : List (Nat × Nat)} {B B1 B2 : Base} {row row' r1 r2 : List L}, Follow w B row p B1 r1 → Follow w B row' p B2 r2 → pathSz p row = pathSz p row' → B1 = B2
 | [], B, B1, B2, row, row', r1, r2, h1, h2, hz => by cases h1; cases h2; rfl
 | (c, i) :: p, B, B1, B2, row, row', r1, r2, h1, h2, hz => by
  cases h1 with
  | step _ _ _ _ _ _ _ sz rows r b len cap e1 e2 e3 e4 =>
   cases h2 with
   | step _ _ _ _ _ _ _ sz' rows' r' b' len' cap' k1 k2 k3 k4 =>
    simp only [pathSz, e1, e2, k1, k2, List.cons.injEq] at hz
    obtain ⟨rfl, hz⟩ := hz
    rw [e3] at k3
    simp only [Option.some.injEq, Value.slice.injEq, Addr.mk.injEq] at k3
    obtain ⟨⟨rfl, _⟩, _⟩ := k3
    exact Follow.sameB e4 k4 hz

theorem relay_sound {ms : List Tmp} {t : Tmp} (h0 : Rel arg W I0 O0 s0 vs w0) (h : Rel arg W I O s vs w) (hv : v = vs.getD t undef) {c1 : CV} (hl : s0.look (s0.e.get t) = some c1) (hfl : c1.flat = true) (hsh : c1.shal = false)
  (hsame : ∀ r, r ∉ ms → (∀ b, O r b → w.heap[b]? = w0.heap[b]?) ∧ ∀ c2, s.e.get r = .v c2 → ∃ c0, s0.e.get r = .v c0 ∧ ∀ v, c2.base v = c0.base v)
  (hc : RepC arg w I c v S') (hS : ∀ b, S' b → b < w.heap.size ∧ ¬ I b ∧ ∀ t, ¬ O t b) (hr : s0.relay s ms t c (s0.e.get t) = some s3) :
  ∃ O3, Rel arg W I O3 s3 vs w ∧ ∀ t b, O3 t b → (∃ t', O t' b) ∨ S' b := by
 have hrep0 := h0.rep t
 cases hav : s0.e.get t with
 | v c0 =>
  rw [hav] at hr hl hrep0
  simp only [RS.relay] at hr
  obtain ⟨hf, rfl⟩ := (show c.flat = true ∧ s.put t (.v c) = s3 by
   split at hr
   ·rename_i hf; exact ⟨hf, Option.some.inj hr⟩
   ·cases hr)
  simp only [RS.look, Option.some.injEq] at hl
  subst hl
  have ht : t < vs.size := by
   rcases Nat.lt_or_ge t vs.size with h' | h'
   ·exact h'
   ·exfalso
    have hu : vs.getD t undef = undef := by simp [Array.getD, Nat.not_lt.2 h']
    rw [hu] at hrep0
    replace hrep0 : RepC arg w0 I0 c0 undef (O0 t) := hrep0
    cases c0 with
    | leaf l =>
     cases l with
     | sl o sz rows => have := hrep0.2; cases this
     | clo f vals => have := hrep0.2; cases this
     | bts e l =>
      have := hrep0.2
      cases this with
      | bts _ _ _ _ h1 _ => rcases h1.2 with ⟨h2, _⟩ | ⟨_, _, _, h2, _⟩ <;> cases h2
     | _ => cases hsh
    | agg ls => obtain ⟨cs, h1, _⟩ := hrep0; cases h1
    | box row => obtain ⟨b, cs, e, h1, _⟩ := hrep0; cases h1
    | pbox t0 row => obtain ⟨b, cs, e, h1, _⟩ := hrep0; cases h1
    | gone => cases hfl
  have hp := h.put_same (av := .v c) (S := S') ht (fun b hb => ⟨(hS b hb).1, (hS b hb).2.1, fun t' _ => (hS b hb).2.2 t'⟩) (by rw [← hv]; exact hc) (fun _ _ _ h => by cases h)
  refine ⟨_, hp, fun t1 b hb => ?_⟩
  by_cases h1 : t1 = t
  ·simp only [h1, if_true] at hb; exact .inr hb
  ·simp only [h1, if_false] at hb; exact .inl ⟨t1, hb⟩
 | ld r p o n agg =>
  rw [hav] at hr hl hrep0
  simp only [RS.look] at hl
  split at hl
  case isFalse => cases hl
  rename_i hcl
  obtain ⟨B, row', ⟨c0, e0, f0⟩, k2, k3, k4⟩ := hrep0 hcl
  simp only [RS.relay] at hr
  split at hr
  ·rename_i row r0 r2 hrow hr0 hr2
   split at hr
   ·rename_i hcond
    obtain ⟨hf, hn, hon, hms, hsz, hno⟩ := hcond
    have hrm : r ∉ ms := fun hm => by rw [List.contains_iff_mem.2 hm] at hms; cases hms
    split at hr
    ·rename_i s1 hpk
     obtain rfl := Option.some.inj hr
     obtain ⟨c2, B2, S2, hc2, f1, f2, f3, f4, f5⟩ := h.slot hrow
     obtain ⟨hs1, hs2⟩ := hsame r hrm
     obtain ⟨c0', e0', hbase⟩ := hs2 c2 hc2
     rw [e0] at e0'
     obtain rfl := AV.v.inj e0'
     have hrc := h.rep r
     rw [hc2] at hrc
     replace hrc : RepC arg w I c2 (vs.getD r undef) (O r) := hrc
     have hBw : ∀ j, (c2.base (vs.getD r undef)).get w0 j = (c2.base (vs.getD r undef)).get w j := by
      intro j
      cases hb : c2.base (vs.getD r undef) with
      | vals cs => rfl
      | addr b o2 => exact (World.cell?_of_block (w := w0) (w' := w) (a := ⟨b, o2 + j, none⟩) (hs1 b (base_owned hrc hb).1)).symm
     obtain ⟨g1, g2⟩ := f1.world (w' := w0) (RepC.root hrc) (fun x hx => (hs1 x hx.1).symm) fun j _ => hBw j
     have hrr : pathSz p c0.row = pathSz p c2.row := by
      simp only [rowOf, e0, Option.some.injEq] at hr0
      simp only [rowOf, hc2, Option.some.injEq] at hr2
      rw [hr0, hr2]; exact hsz
     obtain rfl : B = B2 := by
      rw [hbase] at g1
      exact f0.sameB g1 hrr
     obtain ⟨q1, q2⟩ := flat_cells hc hf
     have hcell : ∀ j, j < n → v.cells[j]? = B.get w (o + j) := by
      intro j hj
      cases agg with
      | true =>
       obtain ⟨cs, u1, u2, u3⟩ := k3 rfl
       rw [hv, u1]
       exact (u3 j hj).trans (g2 (o + j) (by omega))
      | false =>
       obtain ⟨u1, u2⟩ := k4 rfl
       obtain rfl : j = 0 := by omega
       have hg := g2 o (by omega)
       rw [u2] at hg
       obtain ⟨D, d1, d2, d3⟩ := f2
       obtain ⟨v2, v3, v4, _⟩ := d3 o _ (List.getElem?_eq_getElem (show o < row.length by omega))
       rw [← hg] at v3
       obtain rfl := Option.some.inj v3
       rw [hv, Nat.add_zero, ← hg]
       generalize vs.getD t undef = u at v4
       cases u <;> first | rfl | cases v4
     have hnew := f2.patch (off := o) (get' := B.get w) q2 (by omega) (fun x hx hs => (hS x hx).2.2 r (f3 x hs).1) fun j hj => by
      split
      ·rename_i hjo
       rw [hcell (j - o) (by omega), show o + (j - o) = j by omega]
      ·rfl
     have hblk : ∀ b o', B = .addr b o' → ∃ cs e, w.heap[b]? = some (.cells cs e (0, 0)) := fun b o' hB => by
      by_cases hp : p = []
      ·subst hp; cases f1
       obtain ⟨_, _, cs, e, m, _⟩ := base_owned hrc hB
       exact ⟨cs, e, m⟩
      ·obtain ⟨b2, o2, cs, e, k1, _, _, k4, _⟩ := f4 hp
       rw [k1] at hB
       injection hB with h1 h2
       exact ⟨cs, e, h1 ▸ k4⟩
     have hk := h.poke (w' := w) (I' := I) (N := S') (ls := c.row) (o := o) hc2 f1 f3
      (fun hp b o' hB => by
       obtain ⟨b2, o2, cs, e, k1, k2, k3, _⟩ := f4 hp
       rw [k1] at hB
       injection hB with h1 h2
       subst h1
       refine ⟨k2, k3, fun o3 hb => ?_⟩
       obtain ⟨B3, S3, g1, g2, g3, g4, _⟩ := follow p (RepC.root hrc) f1.rowAt
       obtain ⟨rfl, _⟩ := g1.same f1
       obtain ⟨b5, o5, cs5, e5, m1, m2, _⟩ := g4 hp
       rw [k1] at m1
       injection m1 with m1 _
       subst m1
       exact m2.2 o3 hb)
      f5 hpk (by omega) hnew (fun x hx => hx) (fun x hx => hS x hx) h.bel (Nat.le_refl _) (fun _ h => h) h.ilt (fun x hx hn => absurd hx hn) (fun _ _ _ => rfl)
      (fun b o' hB => by
       obtain ⟨cs, e, m⟩ := hblk b o' hB
       exact ⟨cs, cs, e, m, m, rfl, fun _ _ => rfl⟩)
      (fun _ _ _ _ _ _ => rfl)
      (fun j t0 hj => ⟨(patch_self (by omega) hno hj).1, fun b o2 cs cs2 e e2 _ m1 m2 => by rw [m1] at m2; simp only [Option.some.injEq, Obj.cells.injEq] at m2; exact ⟨by rw [m2.1], m2.2.1.symm⟩⟩)
     rw [hn] at hk
     refine ⟨_, hk, fun t1 b hb => ?_⟩
     by_cases h1 : t1 = r
     ·simp only [h1, if_true] at hb
      rcases hb with (hb | hb) | ⟨o2, hb⟩
      ·exact .inl ⟨r, hb.1.1⟩
      ·exact .inr hb
      ·exact .inl ⟨r, (base_owned hrc hb).1⟩
     ·simp only [h1, if_false] at hb; exact .inl ⟨t1, hb⟩
    ·cases hr
   ·cases hr
  ·cases hr
 | _ => rw [hav] at hr; cases hr

theorem lendAt_spec : ∀ {ms : List Mode} {xs : List X} {k j : Nat} {t : Tmp}, s.lendAt ms xs k = some (j, t) → ∃ i, j = k + i ∧ xs[i]? = some (.t t) ∧ ms[i]? = some .M ∧ ∃ c, s.look (s.e.get t) = some c ∧ c.flat = true ∧ c.shal = false
 | [], xs, k, j, t, h => by simp [RS.lendAt] at h
 | m :: ms, [], k, j, t, h => by cases m <;> simp [RS.lendAt] at h
 | m :: ms, x :: xs, k, j, t, h => by
  have next : s.lendAt ms xs (k + 1) = some (j, t) → ∃ i, j = k + i ∧ (x :: xs)[i]? = some (.t t) ∧ (m :: ms)[i]? = some .M ∧ ∃ c, s.look (s.e.get t) = some c ∧ c.flat = true ∧ c.shal = false := by
   intro h'
   obtain ⟨i, e1, e2, e3, e4⟩ := lendAt_spec h'
   exact ⟨i + 1, by omega, by simpa using e2, by simpa using e3, e4⟩
  cases m with
  | M =>
   cases x with
   | t t0 =>
    simp only [RS.lendAt] at h
    split at h
    ·rename_i c hc
     split at h
     ·rename_i hcond
      simp only [Option.some.injEq, Prod.mk.injEq] at h
      obtain ⟨rfl, rfl⟩ := h
      exact ⟨0, rfl, rfl, rfl, c, hc, hcond⟩
     ·exact next h
    ·exact next h
   | c c0 => simp only [RS.lendAt] at h; exact next h
  | _ => simp only [RS.lendAt] at h; exact next h

/-- A slot says less, or something else, of what it holds; some of what it owned may be immutable from now on. -/
theorem Rel.renew {I1 : Nat → Prop} {av : AV} (h : Rel arg W I O s vs w) (r : Tmp) (hnp : ∀ r' p o, av ≠ .ptr r' p o) (hnl : ∀ r' p o n g, av ≠ .ld r' p o n g) (hI : ∀ b, I b → I1 b) (hI1 : ∀ b, I1 b → I b ∨ O r b)
  (hav : RepA arg w I1 s vs av (vs.getD r undef) (fun _ => False)) : Rel arg W I1 (fun t b => t ≠ r ∧ O t b) (s.put r av) vs w := by
 have hg : ∀ t, (s.put r av).e.get t = if t = r then av else s.e.get t := fun t => by simp only [RS.put]; exact get_put ..
 refine ⟨h.bel, fun b hb => hI b (h.old b hb), fun b hb => (hI1 b hb).elim (h.ilt b) (h.olt r b), fun t b hb => h.olt t b hb.2, fun t b hb hi => (hI1 b hi).elim (h.notI t b hb.2) (fun hi => hb.1 (h.disj t r b hb.2 hi)), fun t t' b hb hb' => h.disj t t' b hb.2 hb'.2, fun t => ?_⟩
 by_cases ht : t = r
 ·subst ht
  rw [hg, if_pos rfl]
  cases av with
  | bad => trivial
  | un => exact hav
  | v c => exact RepC.mono hav (fun _ h => h) fun _ h => h.elim
  | tup cs => exact RepT.mono hav (fun _ h => h) fun _ h => h.elim
  | iptr row o => exact hav
  | ptr r' p o => exact absurd rfl (hnp _ _ _)
  | ld r' p o n g => exact absurd rfl (hnl _ _ _ _ _)
 ·have hr := h.rep t
  rw [hg, if_neg ht]
  have hS : ∀ b, O t b → t ≠ r ∧ O t b := fun b hb => ⟨ht, hb⟩
  have hroots : ∀ r' p B row, Roots w s.e vs r' p B row → ((s.e.get r).isV = true → r' ≠ r) → Roots w (s.put r av).e vs r' p B row := by
   rintro r' p B row ⟨c, e1, e2⟩ hne
   have hn : r' ≠ r := fun e => hne (by rw [← e, e1]; rfl) e
   exact ⟨c, by rw [hg, if_neg hn]; exact e1, e2⟩
  cases hav' : s.e.get t with
  | bad => trivial
  | un => rw [hav'] at hr; exact hr
  | v c => rw [hav'] at hr; exact RepC.mono hr hI hS
  | tup cs => rw [hav'] at hr; exact RepT.mono hr hI hS
  | iptr row o =>
   rw [hav'] at hr
   obtain ⟨b, o', h1, h2, h3⟩ := hr
   exact ⟨b, o', hI b h1, h2, h3.mono hI fun _ h => h⟩
  | ptr r' p o =>
   rw [hav'] at hr
   intro hc
   obtain ⟨c1, c2⟩ := cleanP_put hc
   obtain ⟨b, o', row', k1, k2⟩ := hr c1
   exact ⟨b, o', row', hroots _ _ _ _ k1 c2, k2⟩
  | ld r' p o n agg =>
   rw [hav'] at hr
   intro hc
   obtain ⟨c1, c2⟩ := clean_put hc
   obtain ⟨B, row', k1, k2⟩ := hr c1
   exact ⟨B, row', hroots _ _ _ _ k1 c2, k2⟩
theorem frz_ref (av : AV) : (∀ r' p o, frz av ≠ .ptr r' p o) ∧ ∀ r' p o n g, frz av ≠ .ld r' p o n g := by
 cases av with
 | v c =>
  simp only [frz]
  cases c.flat <;> simp
 | _ => simp [frz]
theorem Rel.frz (h : Rel arg W I O s vs w) (r : Tmp) : Rel arg W (fun b => I b ∨ O r b) (fun t b => t ≠ r ∧ O t b) (s.put r (VS.frz (s.e.get r))) vs w := by
 refine h.renew r (frz_ref _).1 (frz_ref _).2 (fun b => .inl) (fun b hb => hb) ?_
 have hr := h.rep r
 cases hav : s.e.get r with
 | v c =>
  rw [hav] at hr
  simp only [VS.frz]
  split
  ·exact RepC.freeze hr (fun b hb => .inr hb) (fun b hb => .inl hb)
  ·trivial
 | _ => trivial
theorem fzA_sound {I0 : Nat → Prop} {O0 : Tmp → Nat → Prop} : ∀ (as : List Arg) (xs : List X) {I : Nat → Prop} {O : Tmp → Nat → Prop} {s : RS}, Rel arg W I O s vs w → (∀ b, I0 b → I b) → (∀ t b, O0 t b → O t b ∨ I b) →
  (∀ (j : Nat) c r t, as[j]? = some (.v c (some r)) → xs[j]? = some (.t t) → RepC arg w (fun b => I0 b ∨ O0 r b) c (vs.getD t undef) (fun _ => False)) →
  ∃ I' O', Rel arg W I' O' (s.fzA as xs) vs w ∧ (∀ b, I b → I' b) ∧ (∀ b, I' b → I b ∨ ∃ t, O t b) ∧ ∀ t b, O' t b → O t b
 | [], xs, I, O, s, h, _, _, _ => ⟨I, O, h, fun _ h => h, fun _ h => .inl h, fun _ _ h => h⟩
 | a :: as, [], I, O, s, h, _, _, _ => ⟨I, O, h, fun _ h => h, fun _ h => .inl h, fun _ _ h => h⟩
 | a :: as, x :: xs, I, O, s, h, h1, h2, h3 => by
  have h3' : ∀ (j : Nat) c r t, as[j]? = some (.v c (some r)) → xs[j]? = some (.t t) → RepC arg w (fun b => I0 b ∨ O0 r b) c (vs.getD t undef) (fun _ => False) := fun j c r t e1 e2 => h3 (j + 1) c r t (by simpa using e1) (by simpa using e2)
  have same : fz1 s a x = s → ∃ I' O', Rel arg W I' O' (s.fzA (a :: as) (x :: xs)) vs w ∧ (∀ b, I b → I' b) ∧ (∀ b, I' b → I b ∨ ∃ t, O t b) ∧ ∀ t b, O' t b → O t b := by
   intro e
   simp only [RS.fzA, e]
   exact fzA_sound as xs h h1 h2 h3'
  match a, x, h3, same with
  | .v c (some r), .t t, h3, _ =>
   simp only [RS.fzA, fz1]
   have k1 := h.frz r
   have hc := h3 0 c r t rfl rfl
   have k2 := k1.renew (I1 := fun b => (I b ∨ O r b) ∨ (t ≠ r ∧ O t b)) (av := .v c) t (fun _ _ _ h => by cases h) (fun _ _ _ _ _ h => by cases h) (fun _ h => .inl h) (fun _ h => h) (RepC.mono hc (fun b hb => .inl (hb.elim (fun hb => .inl (h1 b hb)) fun hb => (h2 r b hb).elim .inr .inl)) fun _ h => h)
   obtain ⟨I', O', q1, q2, q3, q4⟩ := fzA_sound (I0 := I0) (O0 := O0) as xs k2 (fun b hb => .inl (.inl (h1 b hb))) (fun t' b hb => by
    rcases h2 t' b hb with hb | hb
    ·by_cases e1 : t' = r
     ·subst e1; exact .inr (.inl (.inr hb))
     ·by_cases e2 : t' = t
      ·subst e2; exact .inr (.inr ⟨e1, hb⟩)
      ·exact .inl ⟨e2, e1, hb⟩
    ·exact .inr (.inl (.inl hb))) h3'
   refine ⟨I', O', q1, fun b hb => q2 b (.inl (.inl hb)), fun b hb => ?_, fun t' b hb => (q4 t' b hb).2.2⟩
   rcases q3 b hb with ((hb | hb) | hb) | ⟨t', hb⟩
   ·exact .inl hb
   ·exact .inr ⟨r, hb⟩
   ·exact .inr ⟨t, hb.2⟩
   ·exact .inr ⟨t', hb.2.2⟩
  | .v c (some r), .c c', _, same => exact same rfl
  | .v c none, _, _, same => exact same rfl
  | .m .., _, _, same => exact same rfl
  | .o, _, _, same => exact same rfl
theorem fzV_sound {us : Array Value} {xs : List X} (h : Rel arg W I O s vs w) (own : Bool) (ms : List Mode) (hx : ∀ (j : Nat) x, xs[j]? = some x → XV vs x (us.getD j undef)) : ∃ I' O', Rel arg W I' O' (s.fzV own ms xs) vs w ∧ (∀ b, I b → I' b) ∧ (∀ b, I' b → I b ∨ ∃ t, O t b) ∧ ∀ t b, O' t b → O t b := by
 unfold RS.fzV
 split
 ·exact ⟨I, O, h, fun _ h => h, fun _ h => .inl h, fun _ _ h => h⟩
 ·unfold RS.fzO
  split
  ·rename_i as has
   have hseen := seen_sound _ _ as (fun j => us.getD j undef) h has hx
   refine fzA_sound (I0 := I) (O0 := O) as xs h (fun _ h => h) (fun _ _ h => .inl h) fun j c r t e1 e2 => ?_
   obtain ⟨k1, k2, k3⟩ := hseen j _ e1
   have hv := hx j _ e2
   simp only [XV] at hv
   rw [← hv]
   exact RepC.mono k2 (fun b hb => hb.imp id fun ⟨t', e, hb⟩ => by cases e; exact hb) fun _ h => h
  ·exact ⟨I, O, h, fun _ h => h, fun _ h => .inl h, fun _ _ h => h⟩
theorem call_sound {f : FuncId} {xs : List X} {us : Array Value} {res : List CV} {s2 : RS} {Q : Ending → World → Prop} (h : Rel arg W I O s vs w) (hK : Knows P W G F) (hx : ∀ (j : Nat) x, xs[j]? = some x → XV vs x (us.getD j undef)) (hul : us.size = xs.length)
  (hc : s.call G F f xs = some (res, s2)) (hQ : ∀ v w' I2 O2 R, Rel arg W I2 O2 s2 vs w' → RepR arg w' I2 res v R → ExtR w I O w' I2 O2 R → Q (.returned v) w') : Calls P f us w Q := by
 unfold RS.call at hc
 split at hc
 ·rename_i g hg
  split at hc
  ·split at hc
   ·rename_i res' outs as s2' hcore
    simp only [Option.some.injEq, Prod.mk.injEq] at hc
    obtain ⟨rfl, rfl⟩ := hc
    obtain ⟨I1, O1, hr1, i1, i2, i3⟩ := fzV_sound h g.own g.modes hx
    refine core_sound hr1 hK hg hx hul hcore fun v w' I2 O2 R A' hr hres he _ => hQ v w' I2 O2 R hr hres ⟨fun b hb => he.imm b (i1 b hb), he.size, fun b hb hno => he.kept b hb fun t ht => hno t (i3 t b ht), fun b hb => ?_, he.rlt⟩
    rcases he.got b hb with ⟨t, h'⟩ | h' | h'
    ·exact .inl ⟨t, i3 t b h'⟩
    ·exact (i2 b h').elim (fun h' => .inr (.inl h')) fun ⟨t, h'⟩ => .inl ⟨t, h'⟩
    ·exact .inr (.inr h')
   ·cases hc
  ·rename_i j t hlend
   obtain ⟨i, e1, e2, e3, c1, e4, e5, e6⟩ := lendAt_spec hlend
   obtain rfl : i = j := by omega
   split at hc
   ·rename_i res' outs as s2' hcore
    split at hc
    ·rename_i c hout
     split at hc
     ·rename_i s3 hrel
      simp only [Option.some.injEq, Prod.mk.injEq] at hc
      obtain ⟨rfl, rfl⟩ := hc
      refine core_sound h hK hg hx hul hcore fun v w' I2 O2 R A' hr hres he hX => ?_
      have hmo : (g.modes.set i .O)[i]? = some .O := by
       have : i < g.modes.length := (List.getElem?_eq_some_iff.1 e3).1
       simp [this]
      obtain ⟨O3, q1, q2⟩ := relay_sound (c1 := c1) h hr (hx i _ e2) e4 e5 e6 hX.same (hX.outs i c hout) (fun b hb => ⟨(hX.alt i b hb).1, (hX.alt i b hb).2.1, fun t' => hX.adis i hmo t' b hb⟩) hrel
      refine hQ v w' I2 O3 R q1 hres ⟨he.imm, he.size, he.kept, fun b hb => ?_, fun b hb => ⟨(he.rlt b hb).1, (he.rlt b hb).2.1, fun t' ht => ?_⟩⟩
      ·rcases hb with ⟨t', hb⟩ | hb
       ·rcases q2 t' b hb with h' | h'
        ·exact he.got b (.inl h')
        ·exact hX.agot i b h'
       ·exact he.got b (.inr hb)
      ·rcases q2 t' b ht with ⟨t2, h'⟩ | h'
       ·exact (he.rlt b hb).2.2 t2 h'
       ·exact (hX.alt i b h').2.2 hb
     ·cases hc
    ·cases hc
   ·cases hc
 ·cases hc

end Go.VS

/- Every operation that is turned is turned soundly. -/
namespace Go.VS
open Go Go.RowKit
set_option linter.unusedSimpArgs false
set_option linter.unusedVariables false

variable {P : Program} {arg : Tmp → Value} {W w w' : World} {I I' : Nat → Prop} {O O' : Tmp → Nat → Prop} {s s' : RS} {a : Act} {K : Act → World → Prop} {Q : Exit → Act → World → Prop} {G : Sigs} {F : Fns} {pm : Tmp → Bool}

/-- What is to be shown of an operation where the slots of 'pm' hold what the parameters came in as. -/
def SoundP (P : Program) (arg : Tmp → Value) (W : World) (G : Sigs) (F : Fns) (pm : Tmp → Bool) (o : Oper) (vo : VOp) : Prop :=
 ∀ (I : Nat → Prop) (O : Tmp → Nat → Prop) (s s' : RS) (a : Act) (w : World) (K : Act → World → Prop) (Q : Exit → Act → World → Prop),
  Rel arg W I O s a.tmps w → (∀ d, vo.dst = some d → d < a.tmps.size) → (∀ t, pm t = true → a.tmps.getD t undef = arg t) → vop G F s vo = some s' → (∀ a' w', Good arg W I O w a s' vo.dst a' w' → K a' w') → o.wp P a w K Q
theorem Sound1.p {o : Oper} {vo : VOp} (h : Sound1 P arg W G F o vo) : SoundP P arg W G F pm o vo := fun I O s s' a w K Q h1 h2 _ h4 h5 => h I O s s' a w K Q h1 h2 h4 h5

theorem compArgs_val : ∀ {ts : List TypeId} {os : List Operand} {xs : List X}, (ts.zip os).mapM (fun q => compX P q.1 q.2) = some xs → ts.length = os.length → xs.length = os.length ∧ ∀ (j : Nat) (x : X), xs[j]? = some x → ∃ o, os[j]? = some o ∧ ∀ a : Act, XV a.tmps x (a.eval o)
 | [], [], xs, h, hl => by simp at h; subst h; exact ⟨rfl, fun j x h => by simp at h⟩
 | [], _ :: _, xs, h, hl => by simp at hl
 | _ :: _, [], xs, h, hl => by simp at hl
 | t :: ts, o :: os, xs, h, hl => by
  rw [List.zip_cons_cons, List.mapM_cons] at h
  cases h1 : compX P t o with
  | none => simp [h1] at h
  | some x =>
   cases h2 : (ts.zip os).mapM (fun q => compX P q.1 q.2) with
   | none => simp [h1, h2] at h
   | some xs' =>
    simp [h1, h2] at h
    subst h
    obtain ⟨k1, k2⟩ := compArgs_val h2 (by simpa using hl)
    refine ⟨by simp [k1], fun j y hj => ?_⟩
    cases j with
    | zero => simp at hj; subst hj; exact ⟨o, rfl, fun a => compX_val h1 a⟩
    | succ j => simpa using k2 j y (by simpa using hj)

theorem sound_call {o : Oper} {d : Tmp} {f : FuncId} {args : Array Operand} {ts : Array TypeId} {fn : Func} {Xs : List X} (hK : Knows P W G F) (ho : o.op = .call { callee := .value (.func f), args := args, argTypes := ts }) (hd : o.dst = some d) (hf : P.funcs[f]? = some fn)
  (hb : fn.body.isSome = true) (hn : fn.name ≠ "runtime.NumGoroutine") (hp : fn.params.size = args.size) (hX : (fn.params.toList.zip args.toList).mapM (fun q => compX P q.1 q.2) = some Xs) : Sound1 P arg W G F o (.call d f Xs) := by
 intro I O s s' a w K Q h hdl hv hk
 replace hdl := hdl d rfl
 obtain ⟨k1, k2⟩ := compArgs_val hX (by simpa using hp)
 obtain ⟨body, hbody⟩ := Option.isSome_iff_exists.1 hb
 have hrun : (execOp a.eval o).run P w = .ok (.enter f (args.map a.eval)) w := by
  simp [execOp, ho, resolve, Act.eval, Deferred.ofValue, invoke, callFunc, hf, hn, hbody]
 unfold Oper.wp
 rw [hrun, Oper.upon_enter]
 simp only [vop] at hv
 have hxs : ∀ (j : Nat) (x : X), Xs[j]? = some x → XV a.tmps x ((args.map a.eval).getD j undef) := by
  intro j x hj
  obtain ⟨o1, h1, h2⟩ := k2 j x hj
  rw [Array.getElem?_toList] at h1
  rw [Array.getD_eq_getD_getElem?, Array.getElem?_map, h1]
  exact h2 a
 have key : ∀ res s2 av, s.call G F f Xs = some (res, s2) → s' = s2.put d av → (∀ v w' I2 R, RepR arg w' I2 res v R → RepA arg w' I2 s2 a.tmps av v R) → (∀ r p o, av ≠ .ptr r p o) →
   Calls P f (args.map a.eval) w fun
    | .returned v, w'' => K (a.put o.dst v) w''
    | .panicked chain, w'' => Q (.panic chain) a w''
    | .outgrown, _ => LetsOut Q := by
  intro res s2 av hc hs' hav hnp
  subst hs'
  refine call_sound h hK hxs (by simpa using k1.symm) hc fun v w' I2 O2 R hr hres he => ?_
  refine hk _ _ ?_
  rw [hd]
  refine ⟨I2, _, rfl, put_size .., hr.step hdl (Below.refl _ _) (fun b hb => ⟨(he.rlt b hb).1, (he.rlt b hb).2.1, fun t _ => (he.rlt b hb).2.2 t⟩) (hav v w' I2 R hres) (fun r p o e => absurd e (hnp r p o)), ⟨he.imm, he.size, he.kept, fun b hb => ?_⟩, fun t ht => ?_⟩
  ·rcases hb with ⟨t, hb⟩ | hb
   ·by_cases ht : t = d
    ·simp only [ht, if_true] at hb; exact he.got b (.inr (.inl hb))
    ·simp only [ht, if_false] at hb; exact he.got b (.inl ⟨t, hb⟩)
   ·exact he.got b (.inr (.inr hb))
  ·simp only [Act.put]
   rw [getD_set hdl, if_neg (fun e => ht (by rw [e]; rfl))]
 split at hv
 ·rename_i c s2 hc
  exact key [c] s2 (.v c) hc (Option.some.inj hv).symm (fun v w' I2 R h => h) (fun _ _ _ h => by cases h)
 ·rename_i res s2 hne hc
  refine key res s2 (.tup res) hc (Option.some.inj hv).symm (fun v w' I2 R h => ?_) (fun _ _ _ h => by cases h)
  match res, hne, h with
  | [], _, h => exact h
  | [c], hne, h => exact absurd rfl (hne c)
  | _ :: _ :: _, _, h => exact h
 ·cases hv

theorem compCaps_val : ∀ {os : List Operand} {xs : List X}, os.mapM (compX P 0) = some xs → xs.length = os.length ∧ ∀ (j : Nat) (x : X), xs[j]? = some x → ∃ o, os[j]? = some o ∧ ∀ a : Act, XV a.tmps x (a.eval o)
 | [], xs, h => by simp at h; subst h; exact ⟨rfl, fun j x h => by simp at h⟩
 | o :: os, xs, h => by
  rw [List.mapM_cons] at h
  cases h1 : compX P 0 o with
  | none => simp [h1] at h
  | some x =>
   cases h2 : os.mapM (compX P 0) with
   | none => simp [h1, h2] at h
   | some xs' =>
    simp [h1, h2] at h
    subst h
    obtain ⟨k1, k2⟩ := compCaps_val h2
    refine ⟨by simp [k1], fun j y hj => ?_⟩
    cases j with
    | zero => simp at hj; subst hj; exact ⟨o, rfl, fun a => compX_val h1 a⟩
    | succ j => simpa using k2 j y (by simpa using hj)
theorem scalar_rep {l : L} {v u : Value} {S : Nat → Prop} (h : l.scalar = some v) (hr : RepL w I l u S) : u = v := by
 cases l <;> simp only [L.scalar] at h <;> first | (cases h; done) | (obtain rfl := (Option.some.inj h).symm; cases hr; rfl)
theorem caps_val {vs : Array Value} (h : Rel arg W I O s vs w) : ∀ {xs : List X} {cs us : List Value}, s.caps xs = some cs → us.length = xs.length → (∀ (j : Nat) x, xs[j]? = some x → ∃ u, us[j]? = some u ∧ XV vs x u) → us = cs
 | [], cs, us, hc, hl, _ => by
  simp only [RS.caps, Option.some.injEq] at hc
  subst hc
  exact List.length_eq_zero_iff.1 hl
 | x :: xs, cs, [], hc, hl, _ => by simp at hl
 | x :: xs, cs, u :: us, hc, hl, hx => by
  simp only [RS.caps] at hc
  split at hc
  ·rename_i l hlk
   split at hc
   ·rename_i v cs' hs hcs
    obtain rfl := (Option.some.inj hc).symm
    obtain ⟨u0, e0, x0⟩ := hx 0 x rfl
    obtain rfl : u = u0 := by simpa using e0
    obtain ⟨_, _, _, h2, _⟩ := look_leaf h x0 hlk
    have e1 : u = v := scalar_rep hs h2
    have e2 : us = cs' := caps_val h hcs (by simpa using hl) fun j y hj => by simpa using hx (j + 1) y (by simpa using hj)
    rw [e1, e2]
   ·cases hc
  ·cases hc
theorem scalars_cell {vs : Array Value} (h : Rel arg W I O s vs w) : ∀ {xs : List X} {cs : List Value}, s.caps xs = some cs → ∀ v ∈ cs, v.oneCell' = true
 | [], cs, hc, v, hv => by
  simp only [RS.caps, Option.some.injEq] at hc
  subst hc
  cases hv
 | x :: xs, cs, hc, v, hv => by
  simp only [RS.caps] at hc
  split at hc
  ·rename_i l hlk
   split at hc
   ·rename_i v0 cs' hs hcs
    obtain rfl := (Option.some.inj hc).symm
    rcases List.mem_cons.1 hv with rfl | hv
    ·cases l <;> simp only [L.scalar] at hs <;> first | (cases hs; done) | (obtain rfl := (Option.some.inj hs).symm; rfl)
    ·exact scalars_cell h hcs v hv
   ·cases hc
  ·cases hc
theorem capL_rep (v : Value) (S : Nat → Prop) : RepL w I (capL v) v S := by
 unfold capL
 split
 ·exact .int ..
 ·exact .bool ..
 ·exact .str ..
 ·exact .bad ..
theorem scalars_get : ∀ {row : List L} {vals : List Value}, scalars row = some vals → row.length = vals.length ∧ ∀ (j : Nat) l, row[j]? = some l → ∃ v, vals[j]? = some v ∧ l.scalar = some v
 | [], vals, h => by simp only [scalars, Option.some.injEq] at h; subst h; exact ⟨rfl, fun j l h => by simp at h⟩
 | l :: row, vals, h => by
  simp only [scalars] at h
  split at h
  ·rename_i v vs h1 h2
   obtain rfl := (Option.some.inj h).symm
   obtain ⟨k1, k2⟩ := scalars_get h2
   refine ⟨by simp [k1], fun j l' hj => ?_⟩
   cases j with
   | zero => simp at hj; subst hj; exact ⟨v, rfl, h1⟩
   | succ j => simp at hj; simpa using k2 j l' hj
  ·cases h
theorem clo_of_box {arg : Tmp → Value} {f : FuncId} {row : List L} {vals : List Value} {u : Value} {S : Nat → Prop} (h : RepC arg w I (.box row) u S) (hs : scalars row = some vals) : RepC arg w I (.leaf (.clo f vals)) (.func (.func f) #[] #[u]) S := by
 obtain ⟨b, cs, e, rfl, h1, h2, h3, ⟨D, d1, d2, d3⟩, _⟩ := h
 obtain ⟨k1, k2⟩ := scalars_get hs
 refine ⟨rfl, .clo f vals S b cs e h1 h2 (by rw [h3, k1]) fun j v hj => ?_⟩
 have hjl : j < row.length := by rw [k1]; exact (List.getElem?_eq_some_iff.1 hj).1
 obtain ⟨v', e1, e2⟩ := k2 j _ (List.getElem?_eq_getElem hjl)
 obtain ⟨u, u1, u2, u3⟩ := d3 j _ (List.getElem?_eq_getElem hjl)
 have := scalar_rep e2 u3
 rw [hj] at e1
 obtain rfl := Option.some.inj e1
 subst this
 exact ⟨u1, u2⟩
theorem box_of_clo {arg : Tmp → Value} {f : FuncId} {vals : List Value} {v : Value} {S : Nat → Prop} (h : RepC arg w I (.leaf (.clo f vals)) v S) : ∃ u, v = .func (.func f) #[] #[u] ∧ RepC arg w I (.box (vals.map capL)) u S := by
 have h2 := h.2
 cases h2 with
 | clo f vals S b cs e h1 h2 h3 h4 =>
  refine ⟨_, rfl, b, cs, e, rfl, h1, h2, by rw [h3, List.length_map], ⟨fun _ _ => False, fun _ _ h => h.elim, fun _ _ _ h => h.elim, fun j l hj => ?_⟩, fun j t0 hj => ?_⟩
  ·rw [List.getElem?_map, Option.map_eq_some_iff] at hj
   obtain ⟨v, hv, rfl⟩ := hj
   obtain ⟨k1, k2⟩ := h4 j v hv
   exact ⟨v, k1, k2, capL_rep ..⟩
  ·rw [List.getElem?_map, Option.map_eq_some_iff] at hj
   obtain ⟨v, hv, he⟩ := hj
   unfold capL at he
   split at he <;> cases he
theorem sound_mkf {o : Oper} {d : Tmp} {f : FuncId} {cap : Array Operand} {Xs : List X} (ho : o.op = .makeFunc (.func f) #[] cap) (hd : o.dst = some d) (hX : cap.toList.mapM (compX P 0) = some Xs) : Sound1 P arg W G F o (.mkf d f Xs) := by
 intro I O s s' a w K Q h hdl hv hk
 replace hdl := hdl d rfl
 simp only [vop] at hv
 split at hv
 ·rename_i vs hc
  obtain rfl := (Option.some.inj hv).symm
  obtain ⟨k1, k2⟩ := compCaps_val hX
  have e : (cap.map a.eval).toList = vs := caps_val h hc (by simp [k1]) fun j x hj => by
   obtain ⟨o1, h1, h2⟩ := k2 j x hj
   exact ⟨a.eval o1, by simp only [Array.toList_map, List.getElem?_map, h1, Option.map_some], h2 a⟩
  have e2 : cap.map a.eval = vs.toArray := by rw [← e]
  have hrun : (execOp a.eval o).run P w = .ok (.value (.func (.func f) #[] vs.toArray)) w := by
   simp [execOp, ho, Instr.makeFunc, e2]
  refine oper_value hrun (hk _ _ ?_)
  rw [hd]
  exact good_free h hdl (Below.refl _ _) ⟨rfl, .fn _ _ _ (scalars_cell h hc)⟩ (fun _ _ _ h => by cases h)
 ·split at hv
  ·rename_i x hnone
   split at hv
   ·rename_i row s1 ht
    split at hv
    ·rename_i vals hs
     obtain rfl := (Option.some.inj hv).symm
     obtain ⟨k1, k2⟩ := compCaps_val hX
     obtain ⟨o1, e1, e2⟩ := k2 0 x rfl
     have hcap : cap.map a.eval = #[a.eval o1] := by
      have hl : cap.toList = [o1] := by
       match hcl : cap.toList, k1, e1 with
       | [q], _, e1 => simp at e1; rw [e1]
      have : cap = #[o1] := by rw [← Array.toArray_toList (xs := cap), hl]
      rw [this]
      simp
     obtain ⟨S, O', r1, r2, r3⟩ := h.take (e2 a) ht
     have hrun : (execOp a.eval o).run P w = .ok (.value (.func (.func f) #[] #[a.eval o1])) w := by
      simp [execOp, ho, Instr.makeFunc, hcap]
     refine oper_value hrun (hk _ _ ?_)
     rw [hd]
     exact good_taken h hdl (clo_of_box r1 hs) r2 r3
    ·cases hv
   ·cases hv
  ·cases hv
theorem call_known {f : FuncId} {xs : List X} {q : List CV × RS} (h : s.call G F f xs = some q) : ∃ g cs r, G f = some g ∧ F f cs = some r := by
 unfold RS.call at h
 have core : ∀ {s : RS} {own : Bool} {ms : List Mode} {q : List CV × List CV × List Arg × RS}, s.core F f own ms xs = some q → ∃ cs r, F f cs = some r := by
  intro s own ms q h
  unfold RS.core at h
  split at h
  ·split at h
   ·split at h
    ·rename_i cs s1 hgiv
     split at h
     ·rename_i res outs hF
      exact ⟨_, _, hF⟩
     ·cases h
    ·cases h
   ·cases h
  ·cases h
 split at h
 ·rename_i g hg
  split at h
  ·split at h
   ·rename_i hc
    obtain ⟨cs, r, h1⟩ := core hc
    exact ⟨g, cs, r, hg, h1⟩
   ·cases h
  ·split at h
   ·rename_i hc
    obtain ⟨cs, r, h1⟩ := core hc
    exact ⟨g, cs, r, hg, h1⟩
   ·cases h
 ·cases h
theorem sound_callD {o : Oper} {d : Tmp} {t : Tmp} {args : Array Operand} {ts : Array TypeId} {Xs : List X} (hK : Knows P W G F) (ho : o.op = .call { callee := .value (.tmp t), args := args, argTypes := ts }) (hd : o.dst = some d)
  (hX : args.toList.mapM (compX P 0) = some Xs) : Sound1 P arg W G F o (.callD d (.t t) Xs) := by
 intro I O s s' a w K Q h hdl hv hk
 replace hdl := hdl d rfl
 obtain ⟨k1, k2⟩ := compCaps_val hX
 simp only [vop] at hv
 split at hv
 ·rename_i f vs hl
  have hfv : a.tmps.getD t undef = .func (.func f) #[] vs.toArray ∧ ∀ v ∈ vs, v.oneCell' = true := by
   obtain ⟨_, _, _, h2, _⟩ := look_leaf h (x := .t t) (v := a.tmps.getD t undef) rfl hl
   generalize a.tmps.getD t undef = u at h2
   cases h2 with
   | fn f vs S h => exact ⟨rfl, h⟩
  obtain ⟨hfv, hone⟩ := hfv
  have hcall : Callable P f := by
   cases hq : s.call G F f (Xs ++ vs.map fun v => X.c (.leaf (capL v))) with
   | none => rw [hq] at hv; cases hv
   | some q =>
    obtain ⟨g, cs, r, hg, hF⟩ := call_known hq
    exact (hK f g cs r.1 r.2 hg hF).2.2
  obtain ⟨fn, hf, hb, hn⟩ := hcall
  obtain ⟨body, hbody⟩ := Option.isSome_iff_exists.1 hb
  have hrun : (execOp a.eval o).run P w = .ok (.enter f (args.map a.eval ++ vs.toArray)) w := by
   simp [execOp, ho, resolve, Act.eval, Deferred.ofValue, hfv, invoke, callFunc, hf, hn, hbody]
  unfold Oper.wp
  rw [hrun, Oper.upon_enter]
  have hxs : ∀ (j : Nat) (x : X), (Xs ++ vs.map fun v => X.c (.leaf (capL v)))[j]? = some x → XV a.tmps x ((args.map a.eval ++ vs.toArray).getD j undef) := by
   intro j x hj
   by_cases hlt : j < Xs.length
   ·rw [List.getElem?_append_left hlt] at hj
    obtain ⟨o1, h1, h2⟩ := k2 j x hj
    rw [Array.getElem?_toList] at h1
    rw [Array.getD_eq_getD_getElem?, Array.getElem?_append_left (by simpa [k1] using hlt), Array.getElem?_map, h1]
    exact h2 a
   ·rw [List.getElem?_append_right (by omega), List.getElem?_map, Option.map_eq_some_iff] at hj
    obtain ⟨v, hv1, rfl⟩ := hj
    have hsz : (args.map a.eval).size = Xs.length := by simp [k1]
    rw [Array.getD_eq_getD_getElem?, Array.getElem?_append_right (by rw [hsz]; omega), hsz]
    have : vs.toArray[j - Xs.length]? = some v := by simpa using hv1
    rw [this]
    exact fun arg w I => ⟨hone v (List.mem_of_getElem? hv1), capL_rep ..⟩
  have key : ∀ res s2 av, s.call G F f (Xs ++ vs.map fun v => X.c (.leaf (capL v))) = some (res, s2) → s' = s2.put d av → (∀ v w' I2 R, RepR arg w' I2 res v R → RepA arg w' I2 s2 a.tmps av v R) → (∀ r p o, av ≠ .ptr r p o) →
    Calls P f (args.map a.eval ++ vs.toArray) w fun
     | .returned v, w'' => K (a.put o.dst v) w''
     | .panicked chain, w'' => Q (.panic chain) a w''
     | .outgrown, _ => LetsOut Q := by
   intro res s2 av hc hs' hav hnp
   subst hs'
   refine call_sound h hK hxs (by simp [k1]) hc fun v w' I2 O2 R hr hres he => ?_
   refine hk _ _ ?_
   rw [hd]
   refine ⟨I2, _, rfl, put_size .., hr.step hdl (Below.refl _ _) (fun b hb => ⟨(he.rlt b hb).1, (he.rlt b hb).2.1, fun t _ => (he.rlt b hb).2.2 t⟩) (hav v w' I2 R hres) (fun r p o e => absurd e (hnp r p o)), ⟨he.imm, he.size, he.kept, fun b hb => ?_⟩, fun t ht => ?_⟩
   ·rcases hb with ⟨t, hb⟩ | hb
    ·by_cases ht : t = d
     ·simp only [ht, if_true] at hb; exact he.got b (.inr (.inl hb))
     ·simp only [ht, if_false] at hb; exact he.got b (.inl ⟨t, hb⟩)
    ·exact he.got b (.inr (.inr hb))
   ·simp only [Act.put]
    rw [getD_set hdl, if_neg (fun e => ht (by rw [e]; rfl))]
  split at hv
  ·rename_i c s2 hc
   exact key [c] s2 (.v c) hc (Option.some.inj hv).symm (fun v w' I2 R h => h) (fun _ _ _ h => by cases h)
  ·rename_i res s2 hne hc
   refine key res s2 (.tup res) hc (Option.some.inj hv).symm (fun v w' I2 R h => ?_) (fun _ _ _ h => by cases h)
   match res, hne, h with
   | [], _, h => exact h
   | [c], hne, h => exact absurd rfl (hne c)
   | _ :: _ :: _, _, h => exact h
  ·cases hv
 ·rename_i f0 vals0 hl0
  split at hv
  ·rename_i r hr
   split at hv
   ·rename_i f vals hg
    split at hv
    ·rename_i hcond
     obtain ⟨hrd, hxr⟩ := hcond
     -- the function's own box
     obtain ⟨u, hu, hbox⟩ := box_of_clo (arg := arg) (by have := h.rep r; rw [hg] at this; exact this)
     have hrl : r < a.tmps.size := by
      refine Nat.lt_of_not_le fun hle => ?_
      have : a.tmps.getD r undef = undef := by simp [Array.getD, Nat.not_lt.2 hle]
      rw [this] at hu
      cases hu
     have hfv : a.tmps.getD t undef = .func (.func f) #[] #[u] := by
      simp only [RS.cloOf] at hr
      split at hr
      ·obtain rfl := Option.some.inj hr
       exact hu
      ·rename_i r' hav
       split at hr
       ·rename_i hcl
        obtain rfl := Option.some.inj hr
        have := rel_ld h hav hcl
        obtain ⟨B, row', ⟨c2, g1, g2⟩, _, _, q3⟩ := this
        rw [hg] at g1
        obtain rfl := (AV.v.inj g1).symm
        cases g2
        have := (q3 rfl).2
        rw [← hu]
        exact (Option.some.inj this).symm
       ·cases hr
      ·cases hr
     have hcall : Callable P f := by
      cases hq : (s.put r (.v (.box (vals.map capL)))).call G F f (Xs ++ [.t r]) with
      | none => rw [hq] at hv; cases hv
      | some q =>
       obtain ⟨g, cs, r, hg, hF⟩ := call_known hq
       exact (hK f g cs r.1 r.2 hg hF).2.2
     obtain ⟨fn, hf, hb, hn⟩ := hcall
     obtain ⟨body, hbody⟩ := Option.isSome_iff_exists.1 hb
     have hrun : (execOp a.eval o).run P w = .ok (.enter f (args.map a.eval ++ #[u])) w := by
      simp [execOp, ho, resolve, Act.eval, Deferred.ofValue, hfv, invoke, callFunc, hf, hn, hbody]
     unfold Oper.wp
     rw [hrun, Oper.upon_enter]
     -- the box stands where the function stood
     have h1 := h.step (d := r) (av := .v (.box (vals.map capL))) (v := u) (S := O r) hrl (Below.refl _ _) (fun b hb => ⟨h.olt r b hb, h.notI r b hb, fun t ht ho => ht (h.disj t r b ho hb)⟩) hbox (fun _ _ _ e => by cases e)
     have hO : (fun t => if t = r then O r else O t) = O := by
      funext t
      by_cases ht : t = r
      ·rw [if_pos ht, ht]
      ·rw [if_neg ht]
     rw [hO] at h1
     have hother : ∀ t, t ≠ r → (a.tmps.setIfInBounds r u).getD t undef = a.tmps.getD t undef := fun t ht => by rw [getD_set hrl, if_neg ht]
     have hself : (a.tmps.setIfInBounds r u).getD r undef = u := by rw [getD_set hrl, if_pos rfl]
     have hxs : ∀ (j : Nat) (x : X), (Xs ++ [X.t r])[j]? = some x → XV (a.tmps.setIfInBounds r u) x ((args.map a.eval ++ #[u]).getD j undef) := by
      intro j x hj
      by_cases hlt : j < Xs.length
      ·rw [List.getElem?_append_left hlt] at hj
       obtain ⟨o1, h1, h2⟩ := k2 j x hj
       rw [Array.getElem?_toList] at h1
       rw [Array.getD_eq_getD_getElem?, Array.getElem?_append_left (by simpa [k1] using hlt), Array.getElem?_map, h1]
       have h3 := h2 a
       cases x with
       | c c => exact h3
       | t t' =>
        have hne : t' ≠ r := by
         have := List.all_eq_true.1 hxr _ (List.mem_of_getElem? hj)
         simpa [X.isT] using this
        simp only [XV] at h3 ⊢
        rw [hother t' hne]
        exact h3
      ·rw [List.getElem?_append_right (by omega)] at hj
       have hj0 : j - Xs.length = 0 := by
        have := (List.getElem?_eq_some_iff.1 hj).1
        simp at this
        omega
       rw [hj0] at hj
       obtain rfl := Option.some.inj hj
       have hsz : (args.map a.eval).size = Xs.length := by simp [k1]
       rw [Array.getD_eq_getD_getElem?, Array.getElem?_append_right (by rw [hsz]; omega), hsz, hj0]
       simp only [XV]
       rw [hself]
       simp
     have key : ∀ res s2 row vals2 av, (s.put r (.v (.box (vals.map capL)))).call G F f (Xs ++ [.t r]) = some (res, s2) → s2.e.get r = .v (.box row) → scalars row = some vals2 → s' = (s2.put r (.v (.leaf (.clo f vals2)))).put d av → (∀ (v : Value) (w' : World) (I2 : Nat → Prop) (s4 : RS) (R : Nat → Prop), RepR arg w' I2 res v R → RepA arg w' I2 s4 a.tmps av v R) → (∀ r p o, av ≠ .ptr r p o) →
       Calls P f (args.map a.eval ++ #[u]) w fun
        | .returned v, w'' => K (a.put o.dst v) w''
        | .panicked chain, w'' => Q (.panic chain) a w''
        | .outgrown, _ => LetsOut Q := by
      intro res s2 row vals2 av hc hg2 hsc hs' hav hnp
      subst hs'
      refine call_sound h1 hK hxs (by simp [k1]) hc fun v w' I2 O2 R hr2 hres he => ?_
      refine hk _ _ ?_
      rw [hd]
      have hb2 : RepC arg w' I2 (.box row) u (O2 r) := by
       have := hr2.rep r
       rw [hg2, hself] at this
       exact this
      have h3 := hr2.step (d := r) (av := .v (.leaf (.clo f vals2))) (v := .func (.func f) #[] #[u]) (S := O2 r) (by simpa using hrl) (Below.refl _ _) (fun b hb => ⟨hr2.olt r b hb, hr2.notI r b hb, fun t ht ho => ht (hr2.disj t r b ho hb)⟩) (clo_of_box hb2 hsc) (fun _ _ _ e => by cases e)
      have hO2 : (fun t => if t = r then O2 r else O2 t) = O2 := by
       funext t
       by_cases ht : t = r
       ·rw [if_pos ht, ht]
       ·rw [if_neg ht]
      rw [hO2] at h3
      have hback : (a.tmps.setIfInBounds r u).setIfInBounds r (.func (.func f) #[] #[u]) = a.tmps := by
       refine Array.ext (by simp) fun i i1 i2 => ?_
       rw [Array.getElem_setIfInBounds]
       split
       ·rename_i e
        subst e
        rw [← hu]
        simp [Array.getD, hrl]
       ·rename_i e
        have : (a.tmps.setIfInBounds r u)[i]'(by simpa using i2) = a.tmps[i] := by
         rw [Array.getElem_setIfInBounds, if_neg e]
        exact this
      rw [hback] at h3
      refine ⟨I2, _, rfl, put_size .., h3.step hdl (Below.refl _ _) (fun b hb => ⟨(he.rlt b hb).1, (he.rlt b hb).2.1, fun t _ => (he.rlt b hb).2.2 t⟩) (hav v w' I2 _ R hres) (fun r p o e => absurd e (hnp r p o)), ⟨he.imm, he.size, he.kept, fun b hb => ?_⟩, fun t ht => ?_⟩
      ·rcases hb with ⟨t, hb⟩ | hb
       ·by_cases ht : t = d
        ·simp only [ht, if_true] at hb; exact he.got b (.inr (.inl hb))
        ·simp only [ht, if_false] at hb; exact he.got b (.inl ⟨t, hb⟩)
       ·exact he.got b (.inr (.inr hb))
      ·simp only [Act.put]
       rw [getD_set hdl, if_neg (fun e => ht (by rw [e]; rfl))]
     split at hv
     ·rename_i res s2 hc
      split at hv
      ·rename_i row hg2
       split at hv
       ·rename_i vals2 hsc
        split at hv
        ·rename_i c
         exact key _ s2 row vals2 (.v c) hc hg2 hsc (Option.some.inj hv).symm (fun v w' I2 s4 R h => h) (fun _ _ _ h => by cases h)
        ·rename_i hne
         refine key _ s2 row vals2 (.tup res) hc hg2 hsc (Option.some.inj hv).symm (fun v w' I2 s4 R h => ?_) (fun _ _ _ h => by cases h)
         match res, hne, h with
         | [], _, h => exact h
         | [c], hne, h => exact absurd rfl (hne c)
         | _ :: _ :: _, _, h => exact h
       ·cases hv
      ·cases hv
     ·cases hv
    ·cases hv
   ·cases hv
  ·cases hv
 ·cases hv

theorem map_some {α β : Type} {f : α → β} {o : Option α} {b : β} (h : o.map f = some b) : ∃ a, o = some a ∧ b = f a := by
 cases o with
 | none => cases h
 | some a => exact ⟨a, rfl, (Option.some.inj h).symm⟩

theorem ite_some {α : Type} {c : Prop} [Decidable c] {a b : α} (h : (if c then some a else none) = some b) : c ∧ b = a := by
 split at h
 ·rename_i hc; exact ⟨hc, (Option.some.inj h).symm⟩
 ·cases h

theorem sound_stop {o : Oper} {d : Option Tmp} : SoundP P arg W G F pm o (.stop d) := by
 intro I O s s' a w K Q _ _ _ hv _
 simp only [vop] at hv
 cases hv
theorem compOp_sound {o : Oper} {vo : VOp} (hK : Knows P W G F) (h : compOp P pm o = some vo) : SoundP P arg W G F pm o vo := by
 unfold compOp at h
 split at h
 ·rename_i d x hd ho
  obtain ⟨X, h1, rfl⟩ := map_some h
  exact (sound_mv ho hd h1).p
 ·rename_i d x hd ho
  split at h
  ·obtain rfl := (Option.some.inj h).symm
   exact (sound_bad ho hd).p
  ·obtain ⟨X, h1, rfl⟩ := map_some h
   exact (sound_asg ho hd h1).p
 ·rename_i d c x y hd ho
  split at h
  ·rename_i Xc Xx Xy h1 h2 h3
   obtain rfl := (Option.some.inj h).symm
   exact (sound_pick ho hd h1 h2 h3).p
  ·cases h
 ·rename_i d e hd ho
  obtain ⟨zs, h1, rfl⟩ := map_some h
  exact (sound_alloc ho hd h1).p
 ·rename_i d e x hd ho
  split at h
  ·rename_i t hx
   split at h
   ·rename_i hpm
    obtain rfl := (Option.some.inj h).symm
    have hx' : x = .tmp t := by
     unfold compX at hx
     split at hx
     ·rename_i t'
      simp only [Option.some.injEq, X.t.injEq] at hx
      rw [hx]
     ·split at hx
      ·split at hx
       ·cases hx
       ·cases hx
      ·cases hx
     ·split at hx
      ·cases hx
      ·cases hx
     ·cases hx
     ·cases hx
    subst hx'
    intro I O s s' a w K Q k1 k2 k3 k4 k5
    exact sound_boxM ho hd (fun _ _ => trivial) I O s s' a w K Q k1 k2 (k3 t hpm) k4 k5
   ·obtain rfl := (Option.some.inj h).symm
    exact (sound_box ho hd hx).p
  ·rename_i X hne hx
   obtain rfl := (Option.some.inj h).symm
   exact (sound_box ho hd hx).p
  ·cases h
 ·rename_i d t parts hd ho
  split at h
  ·rename_i fs zs h1 h2
   split at h
   ·rename_i h3
    obtain ⟨Ps, h4, rfl⟩ := map_some h
    exact (sound_build ho hd h1 h2 h4 h3).p
   ·cases h
  ·cases h
 ·rename_i d t n parts hd ho
  split at h
  ·rename_i e h1
   split at h
   ·rename_i sz zs h2 h3
    split at h
    ·rename_i h4
     obtain ⟨Ps, h5, rfl⟩ := map_some h
     obtain ⟨q1, q2, q3, q4⟩ := h4
     exact (sound_mk ho hd h1 h3 (by omega) (by rw [q1]; exact q3) q4 h5).p
    ·cases h
   ·cases h
  ·cases h
 ·rename_i d t x hd ho
  split at h
  ·rename_i X n g h1 h2 h3
   split at h
   ·rename_i h4
    obtain rfl := (Option.some.inj h).symm
    exact (sound_load ho hd h1 h2 h3 h4).p
   ·cases h
  ·cases h
 ·rename_i t ad x hd ho
  split at h
  ·rename_i A X n h1 h2 h3
   obtain rfl := (Option.some.inj h).symm
   exact (sound_store ho hd h1 h2 h3).p
  ·cases h
 ·rename_i d x hd ho
  obtain ⟨X, h1, rfl⟩ := map_some h
  exact (sound_nil ho hd h1).p
 ·rename_i d op t x y ty hd ho
  split at h
  ·rename_i X Y fs h1 h2 h3
   split at h
   ·rename_i es h4
    split at h
    ·rename_i h5
     obtain rfl := (Option.some.inj h).symm
     exact (sound_eqs (neg := false) ho hd h1 h2 h3 h4 h5).p
    ·split at h
     ·rename_i h5
      obtain rfl := (Option.some.inj h).symm
      exact (sound_eqs (neg := true) ho hd h1 h2 h3 h4 h5).p
     ·cases h
   ·cases h
  ·rename_i X Y h1 h2 h3
   split at h
   ·rename_i h5
    obtain rfl := (Option.some.inj h).symm
    exact (sound_eqb (neg := false) ho hd h1 h2 h3 h5).p
   ·split at h
    ·rename_i h5
     obtain rfl := (Option.some.inj h).symm
     exact (sound_eqb (neg := true) ho hd h1 h2 h3 h5).p
    ·cases h
  ·rename_i X Y u _ _ h1 h2 h3
   obtain rfl := (Option.some.inj h).symm
   exact (sound_bin ho hd h1 h2).p
  ·cases h
 ·rename_i d op t x hd ho
  obtain ⟨X, h1, rfl⟩ := map_some h
  exact (sound_un ho hd h1).p
 ·rename_i d src dst x hd ho
  split at h
  ·rename_i j k X h1 h2 h3
   obtain rfl := (Option.some.inj h).symm
   exact (sound_conv ho hd h1 h2 h3).p
  ·rename_i e X h1 h2 h3
   split at h
   ·rename_i h4
    obtain rfl := (Option.some.inj h).symm
    exact (sound_bytes ho hd h1 h4 h2 h3).p
   ·cases h
  ·cases h
 ·rename_i d t l c hd ho
  split at h
  ·rename_i e h1
   split at h
   ·rename_i i zs X Y h2 h3 h4 h5
    split at h
    ·rename_i h6
     obtain rfl := (Option.some.inj h).symm
     exact (sound_make ho hd h1 h2 h3 h4 h5 h6.2).p
    ·cases h
   ·cases h
  ·cases h
 ·rename_i d t x lo hi hd ho
  split at h
  ·rename_i X L H h1 h2 h3 h4
   obtain rfl := (Option.some.inj h).symm
   exact (sound_subStr ho hd h2 h3 h4 h1).p
  ·rename_i e X L H h1 h2 h3 h4
   split at h
   ·rename_i n h5
    obtain rfl := (Option.some.inj h).symm
    exact (sound_subSl ho hd h2 h3 h4 h1 h5).p
   ·cases h
  ·cases h
 ·rename_i d t x k1 k2 hd ho
  split at h
  ·rename_i e X h1 h2
   split at h
   ·rename_i n h3
    obtain rfl := (Option.some.inj h).symm
    exact (sound_cut0 ho hd h2 h1 h3).p
   ·cases h
  ·cases h
 ·obtain rfl := (Option.some.inj h).symm
  exact sound_stop
 ·obtain rfl := (Option.some.inj h).symm
  exact sound_stop
 ·obtain rfl := (Option.some.inj h).symm
  exact sound_stop
 ·rename_i d t x f hd ho
  split at h
  ·rename_i fs h1
   split at h
   ·rename_i fd h2
    split at h
    ·rename_i n X h3 h4
     obtain rfl := (Option.some.inj h).symm
     exact (sound_fld ho hd h4 h1 h2 h3).p
    ·cases h
   ·cases h
  ·cases h
 ·rename_i d t x i hd ho
  split at h
  ·rename_i e h1
   split at h
   ·rename_i sz X Y h2 h3 h4
    obtain rfl := (Option.some.inj h).symm
    exact (sound_idx ho hd h3 h4 h1 h2).p
   ·cases h
  ·cases h
 ·rename_i d t x i hd ho
  split at h
  ·rename_i X Y h1 h2 h3
   obtain rfl := (Option.some.inj h).symm
   exact (sound_byte ho hd h2 h3 h1).p
  ·cases h
 ·rename_i d x i hd ho
  split at h
  ·rename_i X h1
   obtain rfl := (Option.some.inj h).symm
   exact (sound_ext ho hd h1).p
  ·cases h
 ·rename_i d c hd ho
  obtain ⟨callee, cargs, cts⟩ := c
  simp only at h
  split at h
  ·-- len
   rename_i hcal
   split at h
   ·rename_i x t ha ht
    obtain rfl : cargs = #[x] := by rw [← Array.toArray_toList (xs := cargs), ha]
    obtain rfl : cts = #[t] := by rw [← Array.toArray_toList (xs := cts), ht]
    split at h
    ·rename_i X h1 h2
     obtain rfl := (Option.some.inj h).symm
     exact (sound_len (str := true) ho hd h2 (by simpa using h1)).p
    ·rename_i e X h1 h2
     obtain rfl := (Option.some.inj h).symm
     exact (sound_len (str := false) ho hd h2 (by simpa using ⟨_, h1⟩)).p
    ·cases h
   ·cases h
  ·split at h
   ·rename_i x y ha
    obtain rfl : cargs = #[x, y] := by rw [← Array.toArray_toList (xs := cargs), ha]
    split at h
    ·rename_i X Y h1 h2
     obtain rfl := (Option.some.inj h).symm
     exact (sound_min ho hd h1 h2).p
    ·cases h
   ·cases h
  ·split at h
   ·rename_i x y ha
    obtain rfl : cargs = #[x, y] := by rw [← Array.toArray_toList (xs := cargs), ha]
    split at h
    ·rename_i X Y h1 h2
     obtain rfl := (Option.some.inj h).symm
     exact (sound_max ho hd h1 h2).p
    ·cases h
   ·cases h
  ·split at h
   ·rename_i x y t u ha ht
    obtain rfl : cargs = #[x, y] := by rw [← Array.toArray_toList (xs := cargs), ha]
    obtain rfl : cts = #[t, u] := by rw [← Array.toArray_toList (xs := cts), ht]
    split at h
    ·rename_i e uu h1 h2
     split at h
     ·rename_i i X Y h3 h4 h5
      obtain ⟨⟨q1, q2, q3, q4, q5⟩, rfl⟩ := ite_some h
      obtain ⟨z, hz⟩ := Option.isSome_iff_exists.1 q1
      refine (sound_app ho hd h4 h5 h1 h3 hz (by rw [hz] at q2; simpa using q2) q3 q4 ?_).p
      cases uu <;> first | (simp at q5; done) | (simpa using h2) | exact ⟨_, h2⟩ | (simp; exact ⟨_, h2⟩)
     ·cases h
    ·cases h
   ·cases h
  ·rename_i f hcal
   split at h
   ·rename_i fn h1
    split at h
    ·rename_i h2
     obtain ⟨Xs, h3, rfl⟩ := map_some h
     exact (sound_call hK ho hd h1 h2.1 h2.2.1 h2.2.2 h3).p
    ·cases h
   ·cases h
  ·rename_i t hcal
   obtain ⟨Xs, h1, rfl⟩ := map_some h
   exact (sound_callD hK ho hd h1).p
  ·cases h
 ·rename_i d f first cap hd ho
  split at h
  ·rename_i h1
   subst h1
   obtain ⟨Xs, h2, rfl⟩ := map_some h
   exact (sound_mkf ho hd h2).p
  ·cases h
 ·cases h

end Go.VS

/- Regions in their text's order. -/
namespace Go.VS
open Go Go.RowKit
set_option linter.unusedSimpArgs false
set_option linter.unusedVariables false

variable {P : Program} {arg : Tmp → Value} {W w w' : World} {I I' : Nat → Prop} {O O' : Tmp → Nat → Prop} {s s' : RS} {a : Act} {K : Act → World → Prop} {Q : Exit → Act → World → Prop} {G : Sigs} {F : Fns} {pm : Tmp → Bool}

/-- What holds behind some operations. -/
def Come (arg : Tmp → Value) (W : World) (pm : Tmp → Bool) (I : Nat → Prop) (O : Tmp → Nat → Prop) (w : World) (a : Act) (s' : RS) (a' : Act) (w' : World) : Prop :=
 ∃ I' O', a'.defers = a.defers ∧ a'.tmps.size = a.tmps.size ∧ Rel arg W I' O' s' a'.tmps w' ∧ Ext w I O w' I' O' ∧ ∀ t, pm t = true → a'.tmps.getD t undef = a.tmps.getD t undef

theorem Come.refl (h : Rel arg W I O s a.tmps w) : Come arg W pm I O w a s a w := ⟨I, O, rfl, rfl, h, .refl, fun _ _ => rfl⟩

/-- dr: the region's order is left open, and what is empty is laid as what is immutable. -/
def compB (P : Program) (dr : Bool) (pm : Tmp → Bool) (o : Oper) : Option VOp := if dr then (match compM P o with | some v => some v | none => compOp P pm o) else compOp P pm o
theorem compB_sound {o : Oper} {vo : VOp} {dr : Bool} (hK : Knows P W G F) (h : compB P dr pm o = some vo) : SoundP P arg W G F pm o vo := by
 unfold compB at h
 split at h
 ·split at h
  ·rename_i v hv
   obtain rfl := Option.some.inj h
   exact (sound_mk0 hv).p
  ·exact compOp_sound hK h
 ·exact compOp_sound hK h
def emptyMk (o : Oper) : Bool := match o.op with
 | .buildSlice _ n ps => n == 0 && ps.size == 0
 | _ => false
/-- The last that is empty stays one's own. -/
def lastMk (ops : Array Oper) : Option Tmp := ops.toList.foldl (fun r o => if emptyMk o then o.dst else r) none
def compG (P : Program) (dr : Bool) (pm : Tmp → Bool) (ops : Array Oper) (o : Oper) : Option GOp :=
 match guardOf ops o, compB P (dr && lastMk ops != o.dst) pm o with
 | some g, some vo => if vo.dst = o.dst ∧ (∀ d ∈ vo.dst, pm d = false) then some ⟨g, vo⟩ else none
 | _, _ => none
def compR (P : Program) (dr : Bool) (pm : Tmp → Bool) (ops : Array Oper) : Option (List GOp) := ops.toList.mapM (compG P dr pm ops)

theorem getD_some {vs : Array Value} {t : Tmp} {v : Value} (h : vs.getD t undef = v) (hv : v ≠ undef) : vs[t]? = some v := by
 rw [Array.getD_eq_getD_getElem?] at h
 cases hh : vs[t]? with
 | none => rw [hh] at h; exact absurd h.symm hv
 | some u => rw [hh] at h; exact congrArg some h

/-- A skipped operation. -/
theorem good_skip (h : Rel arg W I O s a.tmps w) (o : Option Tmp) (he : (match o with | some d => some (s.put d .un) | none => some s) = some s') (hd : ∀ d, o = some d → d < a.tmps.size) : Good arg W I O w a s' o (a.put o undef) w := by
 cases o with
 | none => obtain rfl := Option.some.inj he; exact ⟨I, O, rfl, rfl, h, .refl, fun _ _ => rfl⟩
 | some d => obtain rfl := Option.some.inj he; exact good_free h (hd d rfl) (Below.refl _ _) rfl (fun _ _ _ h => by cases h)

theorem gop_sound {dr : Bool} {ops : Array Oper} {o : Oper} {g : GOp} (hK : Knows P W G F) (hg : compG P dr pm ops o = some g) (h : Rel arg W I O s a.tmps w) (hsz : ∀ d, o.dst = some d → d < a.tmps.size) (hpm : ∀ t, pm t = true → a.tmps.getD t undef = arg t) (hs : gop G F s g = some s')
  (hk : ∀ a' w', Come arg W pm I O w a s' a' w' → K a' w') : if Region.wanted o (yielded ops a.tmps) then o.wp P a w K Q else K (a.put o.dst undef) w := by
 unfold compG at hg
 split at hg
 ·rename_i gd vo hgd hvo
  obtain ⟨⟨hdst, hnp⟩, rfl⟩ := ite_some hg
  have hgood : ∀ a' w', Good arg W I O w a s' vo.dst a' w' → Come arg W pm I O w a s' a' w' := by
   rintro a' w' ⟨I', O', k1, k2, k3, k4, k5⟩
   exact ⟨I', O', k1, k2, k3, k4, fun t ht => k5 t fun he => by rw [hnp t (by simp [he])] at ht; cases ht⟩
  have hrun : vop G F s vo = some s' → o.wp P a w K Q := fun hv => compB_sound hK hvo I O s s' a w K Q h (fun d hd => hsz d (hdst ▸ hd)) hpm hv fun a' w' hh => hk a' w' (hgood a' w' hh)
  have hskip : (match vo.dst with | some d => some (s.put d .un) | none => some s) = some s' → K (a.put o.dst undef) w := by
   intro he
   refine hk _ _ (hgood _ _ ?_)
   have := good_skip h vo.dst he (fun d hd => hsz d (hdst ▸ hd))
   rw [hdst] at this ⊢
   exact this
  unfold guardOf at hgd
  unfold gop at hs
  split at hgd
  ·rename_i hno
   obtain rfl := (Option.some.inj hgd).symm
   rw [if_pos (by simp [Region.wanted, hno])]
   exact hrun hs
  ·rename_i j want hgj
   split at hgd
   ·rename_i t ht
    obtain rfl := (Option.some.inj hgd).symm
    simp only at hs
    have hr := h.rep t
    split at hs
    ·rename_i b hb
     rw [hb] at hr
     have hv : a.tmps.getD t undef = .bool b := by
      have := hr.2
      generalize a.tmps.getD t undef = u at this ⊢
      cases this; rfl
     have hy : yielded ops a.tmps j = some b := by
      simp only [yielded, ht, Option.bind_some]
      rw [getD_some hv (by intro h; cases h)]
     split at hs
     ·rename_i hbw
      rw [if_pos (by simp [Region.wanted, hgj, hy, hbw])]
      exact hrun hs
     ·rename_i hbw
      rw [if_neg (by simp [Region.wanted, hgj, hy, hbw])]
      exact hskip hs
    ·rename_i hb
     rw [hb] at hr
     have hv : a.tmps.getD t undef = undef := hr
     have hy : yielded ops a.tmps j = none := by
      simp only [yielded, ht, Option.bind_some]
      rw [Array.getD_eq_getD_getElem?] at hv
      cases hh : a.tmps[t]? with
      | none => rfl
      | some u => rw [hh] at hv; simp only [Option.getD_some] at hv; subst hv; rfl
     rw [if_neg (by simp [Region.wanted, hgj, hy])]
     exact hskip hs
    ·cases hs
   ·cases hgd
 ·cases hg

theorem Come.trans {s'' : RS} {a' a'' : Act} {w'' : World} (h : Come arg W pm I O w a s' a' w') (k : ∀ I' O', Rel arg W I' O' s' a'.tmps w' → Come arg W pm I' O' w' a' s'' a'' w'') : Come arg W pm I O w a s'' a'' w'' := by
 obtain ⟨I', O', h1, h2, h3, h4, h5⟩ := h
 obtain ⟨I2, O2, k1, k2, k3, k4, k5⟩ := k I' O' h3
 exact ⟨I2, O2, k1.trans h1, k2.trans h2, k3, h4.trans h3.notI k4, fun t ht => (k5 t ht).trans (h5 t ht)⟩
/-- The same, from within. -/
theorem Come.next {s'' : RS} {a' a'' : Act} {w'' : World} {I1 : Nat → Prop} {O1 : Tmp → Nat → Prop} (h1 : a'.defers = a.defers) (h2 : a'.tmps.size = a.tmps.size) (h3 : Rel arg W I1 O1 s' a'.tmps w') (h4 : Ext w I O w' I1 O1) (h5 : ∀ t, pm t = true → a'.tmps.getD t undef = a.tmps.getD t undef)
  (k : Come arg W pm I1 O1 w' a' s'' a'' w'') : Come arg W pm I O w a s'' a'' w'' := by
 obtain ⟨I2, O2, k1, k2, k3, k4, k5⟩ := k
 exact ⟨I2, O2, k1.trans h1, k2.trans h2, k3, h4.trans h3.notI k4, fun t ht => (k5 t ht).trans (h5 t ht)⟩

theorem mapM_cons_some {α β : Type} {f : α → Option β} {x : α} {xs : List α} {ys : List β} (h : (x :: xs).mapM f = some ys) : ∃ y ys', f x = some y ∧ xs.mapM f = some ys' ∧ ys = y :: ys' := by
 rw [List.mapM_cons] at h
 cases h1 : f x with
 | none => simp [h1] at h
 | some y =>
  cases h2 : xs.mapM f with
  | none => simp [h1, h2] at h
  | some ys' =>
   simp [h1, h2] at h
   exact ⟨y, ys', rfl, rfl, h.symm⟩

theorem gops_sound {dr : Bool} {ops : Array Oper} (hK : Knows P W G F) : ∀ (l : List Oper) (gs : List GOp) (I : Nat → Prop) (O : Tmp → Nat → Prop) (s s' : RS) (a : Act) (w : World), l.mapM (compG P dr pm ops) = some gs → Rel arg W I O s a.tmps w →
  (∀ o ∈ l, ∀ d, o.dst = some d → d < a.tmps.size) → (∀ t, pm t = true → a.tmps.getD t undef = arg t) → gops G F gs s = some s' → (∀ a' w', Come arg W pm I O w a s' a' w' → Q .normal a' w') → wpList P ops Q l a w
 | [], gs, I, O, s, s', a, w, hm, h, hsz, hpm, hg, hk => by
  simp at hm
  subst hm
  simp only [gops, Option.some.injEq] at hg
  subst hg
  exact hk a w (.refl h)
 | o :: l, gs, I, O, s, s', a, w, hm, h, hsz, hpm, hg, hk => by
  obtain ⟨g, gs', h1, h2, rfl⟩ := mapM_cons_some hm
  simp only [gops] at hg
  split at hg
  ·rename_i s1 hs1
   have key := gop_sound (Q := Q) (K := wpList P ops Q l) hK h1 h (hsz o (by simp)) hpm hs1 fun a' w' hc => by
    obtain ⟨I', O', k1, k2, k3, k4, k5⟩ := hc
    exact gops_sound hK l gs' I' O' s1 s' a' w' h2 k3 (fun o' ho d hd => by rw [k2]; exact hsz o' (by simp [ho]) d hd) (fun t ht => (k5 t ht).trans (hpm t ht)) hg fun a'' w'' hh => hk a'' w'' (Come.next k1 k2 k3 k4 k5 hh)
   unfold wpList
   split
   ·rename_i hw
    rw [if_pos hw] at key
    exact .inl key
   ·rename_i hw
    rw [if_neg hw] at key
    exact key
  ·cases hg

theorem get_keepV {d : List Dirt} {live : List Tmp} : ∀ (e : Env) (t : Tmp), (Env.keepV d live e).get t = if live.contains t = true then (e.get t).keepRef d live else .bad
 | [], t => by simp [Env.keepV, Env.get, AV.keepRef]
 | (k, v) :: e, t => by
  simp only [Env.keepV]
  by_cases hk : live.contains k = true
  ·rw [if_pos hk]
   simp only [Env.get]
   by_cases h : k = t
   ·subst h; rw [if_pos rfl, if_pos rfl, if_pos hk]
   ·rw [if_neg h, if_neg h]; exact get_keepV e t
  ·rw [if_neg hk, get_keepV e t]
   simp only [Env.get]
   by_cases h : k = t
   ·subst h; rw [if_neg hk, if_neg hk]
   ·rw [if_neg h]
theorem get_keys : ∀ {e : Env} {t : Tmp}, t ∉ e.map (·.1) → e.get t = .bad
 | [], t, h => rfl
 | (k, v) :: e, t, h => by
  simp only [List.map_cons, List.mem_cons, not_or] at h
  simp only [Env.get]
  rw [if_neg (fun e => h.1 e.symm)]
  exact get_keys h.2

theorem fin_sound {vs : Array Value} {live : List Tmp} : ∀ (keep : List Tmp) (O : Tmp → Nat → Prop) (s s' : RS), Rel arg W I O s vs w → (∀ t ∈ keep, t < vs.size) → s.fin live keep = some s' → ∃ O', Rel arg W I O' s' vs w ∧ ∀ t b, O' t b → ∃ t', O t' b
 | [], O, s, s', h, hk, hf => by
  simp only [RS.fin, Option.some.injEq] at hf
  subst hf
  let rs : List Tmp := (s.e.map (·.1)).filter fun k => !live.contains k
  have hrs : ∀ t, rs.contains t = true → live.contains t = false := fun t ht => by
   have := List.contains_iff_mem.1 ht
   simpa using (List.mem_filter.1 this).2
  refine ⟨fun t b => rs.contains t = false ∧ O t b, ?_, fun t b hb => ⟨t, hb.2⟩⟩
  have hh := h.hide rs
  refine ⟨hh.bel, hh.old, hh.ilt, hh.olt, hh.notI, hh.disj, fun t => ?_⟩
  have := hh.rep t
  show RepA arg w I _ vs ((Env.keepV s.d live s.e).get t) _ _
  change RepA arg w I _ vs ((s.e.del rs).get t) _ _ at this
  have hroot : ∀ {r p B row}, live.contains r = true → Roots w (s.hide rs).e vs r p B row → Roots w (Env.keepV s.d live s.e) vs r p B row := by
   rintro r p B row hl ⟨c, q1, q2⟩
   refine ⟨c, ?_, q2⟩
   rw [get_keepV, if_pos hl]
   change (s.e.del rs).get r = .v c at q1
   rw [get_del] at q1
   split at q1
   ·cases q1
   ·rw [q1]; rfl
  rw [get_keepV]
  by_cases hlt : live.contains t = true
  case neg => rw [if_neg hlt]; trivial
  rw [if_pos hlt]
  have hrt : rs.contains t = false := by
   cases hh : rs.contains t with
   | false => rfl
   | true => rw [hrs t hh] at hlt; cases hlt
  rw [get_del, if_neg (by rw [hrt]; simp)] at this
  have hnr : ∀ r, live.contains r = true → rs.contains r = false := fun r hr => by
   cases hh : rs.contains r with
   | false => rfl
   | true => rw [hrs r hh] at hr; cases hr
  cases hav : s.e.get t with
  | ptr r p o =>
   rw [hav] at this
   simp only [AV.keepRef]
   split
   ·rename_i hc
    intro _
    obtain ⟨b, o', row', k1, k2⟩ := this (by rw [RS.hide, cleanP_hide, hc.1, hnr r hc.2]; rfl)
    exact ⟨b, o', row', hroot hc.2 k1, k2⟩
   ·trivial
  | ld r p o n g =>
   rw [hav] at this
   simp only [AV.keepRef]
   split
   ·rename_i hc
    intro _
    obtain ⟨B, row', k1, k2⟩ := this (by rw [RS.hide, clean_hide, hc.1, hnr r hc.2]; rfl)
    exact ⟨B, row', hroot hc.2 k1, k2⟩
   ·trivial
  | _ => rw [hav] at this; exact this
 | t :: ts, O, s, s', h, hk, hf => by
  have hts : ∀ t' ∈ ts, t' < vs.size := fun t' ht => hk t' (by simp [ht])
  have htv := hk t (by simp)
  simp only [RS.fin] at hf
  split at hf
  ·split at hf
   case isFalse => exact fin_sound ts O s s' h hts hf
   split at hf
   ·rename_i c s1 htk
    obtain ⟨S, O1, k1, k2, k3⟩ := h.take (x := .t t) rfl htk
    have hp := k2.put_same (av := .v c) (S := S) htv (fun b hb => ⟨(by obtain ⟨t', h'⟩ := k3.1 b hb; exact h.olt t' b h'), (by obtain ⟨t', h'⟩ := k3.1 b hb; exact h.notI t' b h'), fun t' _ ho => k3.2.2 t' b ho hb⟩) k1 (fun _ _ _ h => by cases h)
    obtain ⟨O', q1, q2⟩ := fin_sound ts _ _ s' hp hts hf
    refine ⟨O', q1, fun t1 b hb => ?_⟩
    obtain ⟨t2, h2⟩ := q2 t1 b hb
    by_cases ht : t2 = t
    ·simp only [ht, if_true] at h2; exact k3.1 b h2
    ·simp only [ht, if_false] at h2; exact ⟨t2, k3.2.1 t2 b h2⟩
   ·cases hf
  ·rename_i r hav
   split at hf
   ·rename_i hcond
    obtain ⟨_, hcl, hrt⟩ := hcond
    split at hf
    ·rename_i row hrow
     have hr := h.rep r
     rw [hrow] at hr
     have hr : RepC arg w I (.box row) (vs.getD r undef) (O r) := hr
     have hpt := h.rep t
     rw [hav] at hpt
     obtain ⟨b, o', row', ⟨c1, e1, e2⟩, k2⟩ := hpt hcl
     rw [hrow] at e1
     obtain rfl := (AV.v.inj e1).symm
     have hval : vs.getD t undef = vs.getD r undef := by
      obtain ⟨b2, cs, e, hv2, _⟩ := hr
      rw [hv2] at e2
      generalize hB : CV.base (.box row) (.pointer (some ⟨b2, 0, none⟩)) = B0 at e2
      cases e2
      simp only [CV.base, Base.addr.injEq] at hB
      obtain ⟨rfl, rfl⟩ := hB
      rw [k2, hv2]
     have h1 := h.strike r .bad rfl
     have hp := h1.put_same (av := .v (.box row)) (S := O r) htv (fun b hb => ⟨h.olt r b hb, h.notI r b hb, fun t' ht ho => by
      by_cases hr' : t' = r
      ·simp only [hr', if_true] at ho
      ·simp only [hr', if_false] at ho; exact hr' (h.disj t' r b ho hb)⟩) (by rw [hval]; exact hr) (fun _ _ _ h => by cases h)
     obtain ⟨O', q1, q2⟩ := fin_sound ts _ _ s' hp hts hf
     refine ⟨O', q1, fun t1 b hb => ?_⟩
     obtain ⟨t2, h2⟩ := q2 t1 b hb
     by_cases ht : t2 = t
     ·simp only [ht, if_true] at h2; exact ⟨r, h2⟩
     ·simp only [ht, if_false] at h2
      by_cases hr' : t2 = r
      ·simp only [hr', if_true] at h2
      ·simp only [hr', if_false] at h2; exact ⟨t2, h2⟩
    ·cases hf
   ·exact fin_sound ts O s s' h hts hf
  ·exact fin_sound ts O s s' h hts hf

end Go.VS
