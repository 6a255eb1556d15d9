/- Calls: what a function's answer means in the model, and that a call turns the slots as the evaluator says. -/
import Derived.Test.YtdoelepflcaijaaEngHide
namespace Go.VS
open Go Go.RowKit
set_option linter.unusedSimpArgs false
set_option linter.unusedVariables false

variable {P : Program} {arg : Tmp → Value} {W w w' : World} {I I' : Nat → Prop} {O O' : Tmp → Nat → Prop} {s s' : RS} {vs : Array Value} {S S' : Nat → Prop} {c : CV} {x : X} {v : Value} {G : Sigs} {F : Fns}

/-- Results: one, or a tuple of several. -/
def RepR (arg : Tmp → Value) (w : World) (I : Nat → Prop) (res : List CV) (v : Value) (S : Nat → Prop) : Prop :=
  match res with
  | [c] => RepC arg w I c v S
  | cs => RepT arg w I cs v S

/-- What holds behind a call whose argument j owned the blocks A j. -/
structure After (W w : World) (I : Nat → Prop) (A : Nat → Nat → Prop) (us : Array Value) (res outs : List CV) (v : Value) (w' : World) (I' : Nat → Prop) (R : Nat → Prop) (A' : Nat → Nat → Prop) : Prop where
  bel : Below W.heap.size W w'
  imm : ∀ b, I b → I' b
  ilt : ∀ b, I' b → b < w'.heap.size
  size : w.heap.size ≤ w'.heap.size
  kept : ∀ b, b < w.heap.size → (∀ j, ¬ A j b) → w'.heap[b]? = w.heap[b]?
  got : ∀ b, R b ∨ (∃ j, A' j b) ∨ I' b → (∃ j, A j b) ∨ I b ∨ w.heap.size ≤ b
  rlt : ∀ b, R b → b < w'.heap.size ∧ ¬ I' b ∧ ∀ j, ¬ A' j b
  alt : ∀ j b, A' j b → b < w'.heap.size ∧ ¬ I' b
  adis : ∀ j j' b, A' j b → A' j' b → j = j'
  res : ∀ arg, RepR arg w' I' res v R
  outs : ∀ (j : Nat) c, outs[j]? = some c → ∀ arg, RepC arg w' I' c (us.getD j undef) (A' j)

/-- Function f answers these arguments with these results; 'outs': what became of the arguments lent to it. -/
def Answers (P : Program) (W : World) (f : FuncId) (cs res outs : List CV) : Prop :=
  ∀ (w : World) (I : Nat → Prop) (A : Nat → Nat → Prop) (us : Array Value) (Q : Ending → World → Prop),
    Below W.heap.size W w → (∀ b, b < W.heap.size → I b) → (∀ b, I b → b < w.heap.size) → us.size = cs.length → (∀ j b, A j b → b < w.heap.size ∧ ¬ I b) → (∀ j j' b, A j b → A j' b → j = j') →
    (∀ (j : Nat) c, cs[j]? = some c → ∀ arg, RepC arg w I c (us.getD j undef) (A j)) →
    (∀ v w' I' R A', After W w I A us res outs v w' I' R A' → Q (.returned v) w') → Calls P f us w Q

/-- What the callees answer is so. -/
def Knows (P : Program) (W : World) (G : Sigs) (F : Fns) : Prop :=
  ∀ f g cs res outs, G f = some g → F f cs = some (res, outs) → Answers P W f cs res outs ∧ (g.own = true → res.all CV.free = true ∧ outs.all CV.free = true)

/-- What is all its own does not lean on what is immutable. -/
theorem freeR_get : ∀ {r : List L} {j : Nat} {l : L}, freeR r = true → r[j]? = some l → l.free = true
  | [], _, _, _, h => by simp at h
  | x :: r, 0, l, ho, h => by
    simp only [freeR, Bool.and_eq_true] at ho
    simp at h
    exact h ▸ ho.1
  | x :: r, j + 1, l, ho, h => by
    simp only [freeR, Bool.and_eq_true] at ho
    simp at h
    exact freeR_get ho.2 h
theorem freeRR_get : ∀ {r : List (List L)} {j : Nat} {l : List L}, freeRR r = true → r[j]? = some l → freeR l = true
  | [], _, _, _, h => by simp at h
  | x :: r, 0, l, ho, h => by
    simp only [freeRR, Bool.and_eq_true] at ho
    simp at h
    exact h ▸ ho.1
  | x :: r, j + 1, l, ho, h => by
    simp only [freeRR, Bool.and_eq_true] at ho
    simp at h
    exact freeRR_get ho.2 h
theorem RepL.free {l : L} (h : RepL w I l v S) (hf : l.free = true) : RepL w I' l v S := by
  induction h with
  | bad v S => exact .bad ..
  | int => exact .int ..
  | bool => exact .bool ..
  | str => exact .str ..
  | nil o sz S a cap h => exact .nil _ _ _ _ _ h
  | own sz rows S b cap cs e cv D h1 hlen hcap hb hcs hsz hcv hD hdis hrep ih =>
    refine .own sz rows S b cap cs e cv D h1 hlen hcap hb hcs hsz hcv hD hdis fun i j r l hr hl => ih i j r l hr hl ?_
    simp only [L.free, Bool.and_eq_true] at hf
    exact freeR_get (freeRR_get hf.2 hr) hl
  | imm => simp [L.free] at hf
theorem RepRow.free {row : List L} {get : Nat → Option Value} (h : RepRow w I row get S) (hf : freeR row = true) : RepRow w I' row get S := by
  obtain ⟨D, h1, h2, h3⟩ := h
  refine ⟨D, h1, h2, fun j l hl => ?_⟩
  obtain ⟨v, a, b, c⟩ := h3 j l hl
  exact ⟨v, a, b, c.free (freeR_get hf hl)⟩
theorem RepC.free (h : RepC arg w I c v S) (hf : c.free = true) : RepC arg w I' c v S := by
  cases c with
  | leaf l => exact ⟨h.1, h.2.free hf⟩
  | agg ls => obtain ⟨cs, h1, h2, h3⟩ := h; exact ⟨cs, h1, h2, h3.free hf⟩
  | box row => obtain ⟨b, cs, e, h1, h2, h3, h4, h5⟩ := h; exact ⟨b, cs, e, h1, h2, h3, h4, h5.free hf⟩
  | pbox t row => cases hf
  | gone => trivial
theorem RepT.free {cs : List CV} (h : RepT arg w I cs v S) (hf : cs.all CV.free = true) : RepT arg w I' cs v S := by
  obtain ⟨us, h1, h2, D, d1, d2, d3⟩ := h
  refine ⟨us, h1, h2, D, d1, d2, fun j c hc => ?_⟩
  obtain ⟨u, u1, u2⟩ := d3 j c hc
  exact ⟨u, u1, u2.free (List.all_eq_true.1 hf c (List.mem_of_getElem? hc))⟩
theorem RepR.free {cs : List CV} (h : RepR arg w I cs v S) (hf : cs.all CV.free = true) : RepR arg w I' cs v S := by
  match cs, h, hf with
  | [], h, hf => exact RepT.free h hf
  | [c], h, hf => exact RepC.free h (by simpa using hf)
  | _ :: _ :: _, h, hf => exact RepT.free h hf

/-- Arguments that are seen, or lent. -/
def Seen (arg : Tmp → Value) (w : World) (I : Nat → Prop) (O : Tmp → Nat → Prop) (s : RS) (vs : Array Value) (u : Value) : Arg → Prop
  | .v c r => c.flat = true ∧ RepC arg w (fun b => I b ∨ ∃ t, r = some t ∧ O t b) c u (fun _ => False) ∧ ∀ t, r = some t → ∃ c0, s.e.get t = .v c0
  | .m c r p o => ∃ c0, s.e.get r = .v c0 ∧ ((∃ row, c0 = .box row ∧ c = .box row ∧ u = vs.getD r undef) ∨ c.flat = true)
  | .o => True

theorem flat_freeze {c : CV} (h : c.flat = true) : c.freeze.flat = true := by cases c <;> first | rfl | cases h
theorem argV_sound {u : Value} {a : Arg} (h : Rel arg W I O s vs w) (hx : XV vs x u) (ha : s.argV x = some a) : (∃ c r, a = .v c r) ∧ Seen arg w I O s vs u a := by
  cases x with
  | c c0 =>
    simp only [RS.argV] at ha
    split at ha
    · rename_i hf
      obtain rfl := (Option.some.inj ha).symm
      exact ⟨⟨_, _, rfl⟩, flat_freeze hf, (hx arg w I).freeze (fun _ h => h.elim) fun b hb => .inl hb, fun t h => by cases h⟩
    · cases ha
  | t t =>
    have hlk := fun c hl => h.look (x := .t t) (c := c) hx hl
    simp only [XV] at hx
    subst hx
    simp only [RS.argV] at ha
    split at ha
    · rename_i c0 hl
      split at ha
      · rename_i hf
        split at ha
        · rename_i hsh
          obtain rfl := (Option.some.inj ha).symm
          obtain ⟨t1, S, k1, k2⟩ := hlk c0 hl
          exact ⟨⟨_, _, rfl⟩, flat_freeze hf, (k1.unowned (S' := fun _ => False) hsh).freeze (fun _ h => h.elim) fun b hb => .inl hb, fun t h => by cases h⟩
        · have hr := h.rep t
          split at ha
          · rename_i c1 hav
            obtain rfl := (Option.some.inj ha).symm
            rw [hav] at hr hl
            simp only [RS.look, Option.some.injEq] at hl
            subst hl
            exact ⟨⟨_, _, rfl⟩, flat_freeze hf, RepC.freeze hr (fun b hb => .inr ⟨t, rfl, hb⟩) fun b hb => .inl hb, fun t' h => by cases h; exact ⟨_, hav⟩⟩
          · rename_i r p o n agg hav
            obtain rfl := (Option.some.inj ha).symm
            rw [hav] at hr hl
            simp only [RS.look] at hl
            split at hl
            · rename_i hcl
              split at hl
              · rename_i row hs
                obtain ⟨B, row', k1, k2⟩ := hr hcl
                obtain ⟨c1, B', S', hc1, f1, f2, f3, _⟩ := h.slot hs
                obtain ⟨rfl, rfl⟩ := k1.unique hc1 f1
                exact ⟨⟨_, _, rfl⟩, flat_freeze hf, (cells_rep (arg := arg) f2 hl k2.2).freeze (fun b hb => .inr ⟨r, rfl, (f3 b hb).1⟩) fun b hb => .inl hb, fun t' h => by cases h; exact ⟨_, hc1⟩⟩
              · cases hl
            · cases hl
          · cases ha
      · cases ha
    · cases ha
theorem argM_sound {u : Value} {a : Arg} (h : Rel arg W I O s vs w) (hx : XV vs x u) (ha : s.argM x = some a) : Seen arg w I O s vs u a := by
  refine (?_ : True ∧ _).2
  cases x with
  | c c0 => cases ha
  | t t =>
    have hargV := fun ha => (argV_sound (a := a) h hx ha).2
    simp only [XV] at hx
    subst hx
    simp only [RS.argM] at ha
    split at ha
    · exact ⟨trivial, hargV ha⟩
    split at ha
    · rename_i row hav
      obtain rfl := (Option.some.inj ha).symm
      exact ⟨trivial, _, hav, .inl ⟨row, rfl, rfl, rfl⟩⟩
    · rename_i l hav
      obtain rfl := (Option.some.inj ha).symm
      exact ⟨trivial, _, hav, .inr rfl⟩
    · rename_i ls hav
      obtain rfl := (Option.some.inj ha).symm
      exact ⟨trivial, _, hav, .inr rfl⟩
    · rename_i r hav
      split at ha
      · rename_i hcl
        split at ha
        · rename_i row hrt
          obtain rfl := (Option.some.inj ha).symm
          refine ⟨trivial, _, hrt, .inl ⟨row, rfl, rfl, ?_⟩⟩
          have hr := h.rep t
          rw [hav] at hr
          obtain ⟨b, o', row', ⟨c1, e1, e2⟩, k2⟩ := hr hcl
          rw [hrt] at e1
          obtain rfl := (AV.v.inj e1).symm
          have hq := h.rep r
          rw [hrt] at hq
          obtain ⟨b2, cs, e, hv2, _⟩ := hq
          rw [hv2] at e2
          generalize hB : CV.base (.box row) (.pointer (some ⟨b2, 0, none⟩)) = B0 at e2
          cases e2
          simp only [CV.base, Base.addr.injEq] at hB
          obtain ⟨rfl, rfl⟩ := hB
          rw [k2, hv2]
        · cases ha
      · cases ha
    · rename_i r p o n agg hav
      split at ha
      · rename_i c hl
        obtain rfl := (Option.some.inj ha).symm
        simp only [RS.look] at hl
        split at hl
        · split at hl
          · rename_i row hs
            obtain ⟨c1, _, _, hc1, _⟩ := h.slot hs
            refine ⟨trivial, c1, hc1, .inr ?_⟩
            unfold cellsOf at hl
            split at hl
            · split at hl
              · obtain rfl := (Option.some.inj hl).symm; rfl
              · cases hl
            · split at hl
              · obtain rfl := (Option.some.inj hl).symm; rfl
              · cases hl
          · cases hl
        · cases hl
      · cases ha
    · cases ha

theorem seen_sound : ∀ (ms : List Mode) (xs : List X) (as : List Arg) (us : Nat → Value), Rel arg W I O s vs w → s.seen ms xs = some as → (∀ (j : Nat) x, xs[j]? = some x → XV vs x (us j)) → ∀ (j : Nat) a, as[j]? = some a → Seen arg w I O s vs (us j) a
  | [], [], as, us, h, hs, hx, j, a, hj => by
    simp only [RS.seen, Option.some.injEq] at hs
    subst hs
    simp at hj
  | [], _ :: _, as, us, h, hs, hx, j, a, hj => by simp [RS.seen] at hs
  | _ :: _, [], as, us, h, hs, hx, j, a, hj => by simp [RS.seen] at hs
  | m :: ms, x :: xs, as, us, h, hs, hx, j, a, hj => by
    simp only [RS.seen] at hs
    split at hs
    · rename_i a1 as1 h1 h2
      obtain rfl := (Option.some.inj hs).symm
      cases j with
      | succ j => exact seen_sound ms xs as1 (fun j => us (j + 1)) h h2 (fun j x hj => hx (j + 1) x (by simpa using hj)) j a (by simpa using hj)
      | zero =>
        simp at hj
        subst hj
        cases m with
        | V => exact (argV_sound h (hx 0 x rfl) h1).2
        | M => exact argM_sound h (hx 0 x rfl) h1
        | O => simp at h1; subst h1; trivial
    · cases hs

end Go.VS
