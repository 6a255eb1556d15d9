/- How the evaluator's values lie in the model's memory. -/
import Derived.Test.YtdoelepflcaijaaEngOps
namespace Go.VS
open Go
set_option linter.unusedSimpArgs false
set_option linter.unusedVariables false

/-- A leaf as the content of a cell in world w: immutable blocks are those of I; S bounds the blocks that it owns. -/
inductive RepL (w : World) (I : Nat → Prop) : L → Value → (Nat → Prop) → Prop
  | bad (v S) : RepL w I .bad v S
  | int (k n S) : RepL w I (.int k n) (.int k n) S
  | bool (b S) : RepL w I (.bool b) (.bool b) S
  | str (s S) : RepL w I (.str s) (.string s) S
  | nil (o sz S) (a : Option Addr) (cap : Nat) (h : o = true → a = none ∧ cap = 0) : RepL w I (.sl o sz []) (.slice a 0 cap) S
  | own (sz rows S) (b cap : Nat) (cs : Array Value) (e : TypeId) (cv : Nat → Nat → Value) (D : Nat → Nat → Nat → Prop)
      (hS : S b) (hlen : rows.length ≤ cap) (hcap : cap ≤ maxLen) (hb : w.heap[b]? = some (.cells cs e (0, 0))) (hcs : cs.size = cap * sz)
      (hsz : ∀ (i : Nat) r, rows[i]? = some r → r.length = sz)
      (hcv : ∀ i j, i < rows.length → j < sz → cs[i * sz + j]? = some (cv i j) ∧ (cv i j).oneCell' = true)
      (hD : ∀ i j x, D i j x → S x ∧ x ≠ b)
      (hdis : ∀ i j i' j' x, D i j x → D i' j' x → i = i' ∧ j = j')
      (hrep : ∀ (i j : Nat) r l, rows[i]? = some r → r[j]? = some l → RepL w I l (cv i j) (D i j)) :
      RepL w I (.sl true sz rows) (.slice (some ⟨b, 0, none⟩) rows.length cap) S
  | imm (sz rows S) (b o cap : Nat) (cv : Nat → Nat → Value)
      (hI : I b)
      (hsz : ∀ (i : Nat) r, rows[i]? = some r → r.length = sz)
      (hcv : ∀ i j, i < rows.length → j < sz → w.cell? ⟨b, o + (i * sz + j), none⟩ = some (cv i j) ∧ (cv i j).oneCell' = true)
      (hrep : ∀ (i j : Nat) r l, rows[i]? = some r → r[j]? = some l → RepL w I l (cv i j) (fun _ => False)) (hlen : rows.length ≤ cap) :
      RepL w I (.sl false sz rows) (.slice (some ⟨b, o, none⟩) rows.length cap) S

variable {w w' : World} {I I' : Nat → Prop} {S S' : Nat → Prop} {l : L} {v : Value}

theorem RepL.mono (h : RepL w I l v S) (hI : ∀ b, I b → I' b) (hS : ∀ b, S b → S' b) : RepL w I' l v S' := by
  induction h generalizing S' with
  | bad v S => exact .bad ..
  | int => exact .int ..
  | bool => exact .bool ..
  | str => exact .str ..
  | nil o sz S a cap h => exact .nil _ _ _ _ _ h
  | own sz rows S b cap cs e cv D h1 hlen hcap hb hcs hsz hcv hD hdis hrep ih =>
    exact .own sz rows S' b cap cs e cv D (hS _ h1) hlen hcap hb hcs hsz hcv (fun i j x hx => ⟨hS _ (hD i j x hx).1, (hD i j x hx).2⟩) hdis (fun i j r l hr hl => ih i j r l hr hl (fun _ h => h))
  | imm sz rows S b o cap cv h1 hsz hcv hrep hlen ih =>
    exact .imm sz rows S' b o cap cv (hI _ h1) hsz hcv (fun i j r l hr hl => ih i j r l hr hl (fun _ h => h)) hlen

/-- Another world that holds the same blocks. -/
theorem RepL.world (h : RepL w I l v S) (hw : ∀ b, S b ∨ I b → w'.heap[b]? = w.heap[b]?) : RepL w' I l v S := by
  induction h with
  | bad v S => exact .bad ..
  | int => exact .int ..
  | bool => exact .bool ..
  | str => exact .str ..
  | nil o sz S a cap h => exact .nil _ _ _ _ _ h
  | own sz rows S b cap cs e cv D h1 hlen hcap hb hcs hsz hcv hD hdis hrep ih =>
    exact .own sz rows S b cap cs e cv D h1 hlen hcap ((hw b (.inl h1)).trans hb) hcs hsz hcv hD hdis (fun i j r l hr hl => ih i j r l hr hl (fun x hx => hw x (hx.imp (fun hx => (hD i j x hx).1) id)))
  | imm sz rows S b o cap cv h1 hsz hcv hrep hlen ih =>
    exact .imm sz rows S b o cap cv h1 hsz (fun i j hi hj => by rw [World.cell?_of_block (w := w) (w' := w') (a := ⟨b, o + (i * sz + j), none⟩) (hw b (.inr h1))]; exact hcv i j hi hj)
      (fun i j r l hr hl => ih i j r l hr hl (fun x hx => hw x (.inr (hx.resolve_left id)))) hlen

/-- What owns nothing at its surface owns nothing. -/
theorem RepL.unowned (h : RepL w I l v S) (ho : l.own = false) : RepL w I l v S' := by
  cases h with
  | bad => exact .bad ..
  | int => exact .int ..
  | bool => exact .bool ..
  | str => exact .str ..
  | nil o sz S a cap h => exact .nil _ _ _ _ _ h
  | own => cases ho
  | imm sz rows S b o cap cv h1 hsz hcv hrep hlen => exact .imm sz rows _ b o cap cv h1 hsz hcv hrep hlen

theorem freezeR_length : ∀ r : List L, (freezeR r).length = r.length
  | [] => rfl
  | _ :: r => by simp only [freezeR, List.length_cons, freezeR_length r]
theorem freezeRR_length : ∀ r : List (List L), (freezeRR r).length = r.length
  | [] => rfl
  | _ :: r => by simp only [freezeRR, List.length_cons, freezeRR_length r]
theorem freezeR_get : ∀ (r : List L) (j : Nat), (freezeR r)[j]? = (r[j]?).map L.freeze
  | [], j => by simp [freezeR]
  | x :: r, 0 => by simp [freezeR]
  | x :: r, j + 1 => by simp [freezeR, freezeR_get r j]
theorem freezeRR_get : ∀ (r : List (List L)) (j : Nat), (freezeRR r)[j]? = (r[j]?).map freezeR
  | [], j => by simp [freezeRR]
  | x :: r, 0 => by simp [freezeRR]
  | x :: r, j + 1 => by simp [freezeRR, freezeRR_get r j]

/-- A leaf given up for good: its blocks are immutable from now on. -/
theorem RepL.freeze (h : RepL w I l v S) (hS : ∀ b, S b → I' b) (hI : ∀ b, I b → I' b) : RepL w I' l.freeze v S' := by
  induction h generalizing S' with
  | bad v S => exact .bad ..
  | int => exact .int ..
  | bool => exact .bool ..
  | str => exact .str ..
  | nil o sz S a cap h =>
    cases o
    · exact .nil _ _ _ _ _ (fun h => by cases h)
    · exact .nil _ _ _ _ _ (fun h => by cases h)
  | own sz rows S b cap cs e cv D h1 hlen hcap hb hcs hsz hcv hD hdis hrep ih =>
    simp only [L.freeze]
    rw [← freezeRR_length rows]
    refine .imm sz (freezeRR rows) S' b 0 cap cv (hS b h1) (fun i r hr => ?_) (fun i j hi hj => ?_) (fun i j r l hr hl => ?_) (by rw [freezeRR_length]; exact hlen)
    · rw [freezeRR_get, Option.map_eq_some_iff] at hr
      obtain ⟨r0, hr0, rfl⟩ := hr
      rw [freezeR_length]
      exact hsz i r0 hr0
    · rw [freezeRR_length] at hi
      have := hcv i j hi hj
      refine ⟨?_, this.2⟩
      simp only [World.cell?, hb, Nat.zero_add]
      exact this.1
    · rw [freezeRR_get, Option.map_eq_some_iff] at hr
      obtain ⟨r0, hr0, rfl⟩ := hr
      rw [freezeR_get, Option.map_eq_some_iff] at hl
      obtain ⟨l0, hl0, rfl⟩ := hl
      exact ih i j r0 l0 hr0 hl0 (fun x hx => hS x (hD i j x hx).1)
  | imm sz rows S b o cap cv h1 hsz hcv hrep hlen ih =>
    exact .imm sz rows S' b o cap cv (hI b h1) hsz hcv (fun i j r l hr hl => (hrep i j r l hr hl).mono hI (fun _ h => h)) hlen

/-- A row of leaves behind a reader of cells. -/
def RepRow (w : World) (I : Nat → Prop) (row : List L) (get : Nat → Option Value) (S : Nat → Prop) : Prop :=
  ∃ D : Nat → Nat → Prop, (∀ j x, D j x → S x) ∧ (∀ j j' x, D j x → D j' x → j = j') ∧ ∀ (j : Nat) l, row[j]? = some l → ∃ v, get j = some v ∧ v.oneCell' = true ∧ RepL w I l v (D j)

theorem RepRow.mono {row : List L} {get : Nat → Option Value} (h : RepRow w I row get S) (hI : ∀ b, I b → I' b) (hS : ∀ b, S b → S' b) : RepRow w I' row get S' := by
  obtain ⟨D, h1, h2, h3⟩ := h
  refine ⟨D, fun j x hx => hS x (h1 j x hx), h2, fun j l hl => ?_⟩
  obtain ⟨v, a, b, c⟩ := h3 j l hl
  exact ⟨v, a, b, c.mono hI fun _ h => h⟩
theorem RepRow.world {row : List L} {get get' : Nat → Option Value} (h : RepRow w I row get S) (hg : ∀ j, j < row.length → get' j = get j) (hw : ∀ b, S b ∨ I b → w'.heap[b]? = w.heap[b]?) : RepRow w' I row get' S := by
  obtain ⟨D, h1, h2, h3⟩ := h
  refine ⟨D, h1, h2, fun j l hl => ?_⟩
  obtain ⟨v, a, b, c⟩ := h3 j l hl
  exact ⟨v, (hg j (List.getElem?_eq_some_iff.1 hl).1).trans a, b, c.world fun x hx => hw x (hx.imp (h1 j x) id)⟩
theorem RepRow.freeze {row : List L} {get : Nat → Option Value} (h : RepRow w I row get S) (hS : ∀ b, S b → I' b) (hI : ∀ b, I b → I' b) : RepRow w I' (freezeR row) get S' := by
  obtain ⟨D, h1, h2, h3⟩ := h
  refine ⟨fun _ _ => False, fun _ _ h => h.elim, fun _ _ _ h => h.elim, fun j l hl => ?_⟩
  rw [freezeR_get, Option.map_eq_some_iff] at hl
  obtain ⟨l0, hl0, rfl⟩ := hl
  obtain ⟨v, a, b, c⟩ := h3 j l0 hl0
  exact ⟨v, a, b, c.freeze (fun x hx => hS x (h1 j x hx)) hI⟩

/-- A value that is handed over; 'arg' tells what the parameters came in as. -/
def RepC (arg : Tmp → Value) (w : World) (I : Nat → Prop) (c : CV) (v : Value) (S : Nat → Prop) : Prop :=
  match c with
  | .leaf l => v.oneCell' = true ∧ RepL w I l v S
  | .agg ls => ∃ cs, v = .agg cs ∧ cs.size = ls.length ∧ RepRow w I ls (fun j => cs[j]?) S
  | .box row => ∃ b cs e, v = .pointer (some ⟨b, 0, none⟩) ∧ S b ∧ w.heap[b]? = some (.cells cs e (0, 0)) ∧ cs.size = row.length ∧ RepRow w I row (fun j => cs[j]?) (fun x => S x ∧ x ≠ b)
  | .pbox t row => ∃ b cs e, v = .pointer (some ⟨b, 0, none⟩) ∧ S b ∧ w.heap[b]? = some (.cells cs e (0, 0)) ∧ cs.size = row.length ∧ RepRow w I row (fun j => cs[j]?) (fun x => S x ∧ x ≠ b) ∧ arg t = .agg cs
  | .gone => True

variable {c : CV} {arg : Tmp → Value}
theorem RepC.mono (h : RepC arg w I c v S) (hI : ∀ b, I b → I' b) (hS : ∀ b, S b → S' b) : RepC arg w I' c v S' := by
  cases c with
  | leaf l => exact ⟨h.1, h.2.mono hI hS⟩
  | agg ls => obtain ⟨cs, h1, h2, h3⟩ := h; exact ⟨cs, h1, h2, h3.mono hI hS⟩
  | box row => obtain ⟨b, cs, e, h1, h2, h3, h4, h5⟩ := h; exact ⟨b, cs, e, h1, hS b h2, h3, h4, h5.mono hI fun x hx => ⟨hS x hx.1, hx.2⟩⟩
  | pbox t row => obtain ⟨b, cs, e, h1, h2, h3, h4, h5, h6⟩ := h; exact ⟨b, cs, e, h1, hS b h2, h3, h4, h5.mono hI fun x hx => ⟨hS x hx.1, hx.2⟩, h6⟩
  | gone => trivial
theorem RepC.world (h : RepC arg w I c v S) (hw : ∀ b, S b ∨ I b → w'.heap[b]? = w.heap[b]?) : RepC arg w' I c v S := by
  cases c with
  | leaf l => exact ⟨h.1, h.2.world hw⟩
  | agg ls => obtain ⟨cs, h1, h2, h3⟩ := h; exact ⟨cs, h1, h2, h3.world (fun _ _ => rfl) hw⟩
  | box row => obtain ⟨b, cs, e, h1, h2, h3, h4, h5⟩ := h; exact ⟨b, cs, e, h1, h2, (hw b (.inl h2)).trans h3, h4, h5.world (fun _ _ => rfl) fun x hx => hw x (hx.imp (·.1) id)⟩
  | pbox t row => obtain ⟨b, cs, e, h1, h2, h3, h4, h5, h6⟩ := h; exact ⟨b, cs, e, h1, h2, (hw b (.inl h2)).trans h3, h4, h5.world (fun _ _ => rfl) (fun x hx => hw x (hx.imp (·.1) id)), h6⟩
  | gone => trivial
theorem RepC.freeze (h : RepC arg w I c v S) (hS : ∀ b, S b → I' b) (hI : ∀ b, I b → I' b) : RepC arg w I' c.freeze v S' := by
  cases c with
  | leaf l => exact ⟨h.1, h.2.freeze hS hI⟩
  | agg ls => obtain ⟨cs, h1, h2, h3⟩ := h; exact ⟨cs, h1, by rw [freezeR_length]; exact h2, h3.freeze hS hI⟩
  | _ => trivial

theorem ownR_get : ∀ {r : List L} {j : Nat} {l : L}, ownR r = false → r[j]? = some l → l.own = false
  | [], _, _, _, h => by simp at h
  | x :: r, 0, l, ho, h => by
    simp only [ownR, Bool.or_eq_false_iff] at ho
    simp at h
    exact h ▸ ho.1
  | x :: r, j + 1, l, ho, h => by
    simp only [ownR, Bool.or_eq_false_iff] at ho
    simp at h
    exact ownR_get ho.2 h
theorem RepRow.unowned {row : List L} {get : Nat → Option Value} (h : RepRow w I row get S) (ho : ownR row = false) : RepRow w I row get S' := by
  obtain ⟨D, h1, h2, h3⟩ := h
  refine ⟨fun _ _ => False, fun _ _ h => h.elim, fun _ _ _ h => h.elim, fun j l hl => ?_⟩
  obtain ⟨v, a, b, c⟩ := h3 j l hl
  exact ⟨v, a, b, c.unowned (ownR_get ho hl)⟩
theorem RepC.unowned (h : RepC arg w I c v S) (ho : c.shal = true) : RepC arg w I c v S' := by
  cases c with
  | leaf l => exact ⟨h.1, h.2.unowned (by simpa [CV.shal] using ho)⟩
  | agg ls => obtain ⟨cs, h1, h2, h3⟩ := h; exact ⟨cs, h1, h2, h3.unowned (by simpa [CV.shal] using ho)⟩
  | _ => cases ho

/-- Where a root's cells lie: in memory, or in the value itself. -/
inductive Base where
  | addr (b o : Nat)
  | vals (cs : Array Value)
def Base.get (w : World) : Base → Nat → Option Value
  | .addr b o, j => w.cell? ⟨b, o + j, none⟩
  | .vals cs, j => cs[j]?
def CV.base : CV → Value → Base
  | .leaf _, v => .vals #[v]
  | .agg _, .agg cs => .vals cs
  | .box _, .pointer (some a) => .addr a.block 0
  | .pbox _ _, .pointer (some a) => .addr a.block 0
  | _, _ => .vals #[]
theorem base_withRow (c : CV) (row : List L) (v : Value) : (c.withRow row).base v = c.base v := by
  cases c <;> cases v <;> first | rfl | (rename_i a; cases a <;> rfl)

/-- What a root's row owns: all but the block that it lies in itself. -/
def Under (B : Base) (S : Nat → Prop) (x : Nat) : Prop := S x ∧ ∀ o, B ≠ .addr x o
theorem RepC.root (h : RepC arg w I c v S) : RepRow w I c.row ((c.base v).get w) (Under (c.base v) S) := by
  cases c with
  | leaf l =>
    refine ⟨fun j x => j = 0 ∧ S x, fun j x h => ⟨h.2, fun o h => by cases h⟩, fun j j' x h h' => h.1.trans h'.1.symm, fun j l' hl => ?_⟩
    cases j with
    | zero => simp [CV.row] at hl; subst hl; exact ⟨v, rfl, h.1, h.2.mono (fun _ h => h) fun x hx => ⟨rfl, hx⟩⟩
    | succ j => simp [CV.row] at hl
  | agg ls =>
    obtain ⟨cs, rfl, h2, h3⟩ := h
    exact h3.mono (fun _ h => h) fun x hx => ⟨hx, fun o h => by cases h⟩
  | box row =>
    obtain ⟨b, cs, e, rfl, h2, h3, h4, h5⟩ := h
    refine (h5.mono (fun _ h => h) (fun x hx => ⟨hx.1, fun o h => hx.2 (by cases h; rfl)⟩)).world (fun j _ => ?_) (fun _ _ => rfl)
    simp only [CV.base, Base.get, World.cell?, h3, Nat.zero_add]
    rfl
  | pbox t row =>
    obtain ⟨b, cs, e, rfl, h2, h3, h4, h5, _⟩ := h
    refine (h5.mono (fun _ h => h) (fun x hx => ⟨hx.1, fun o h => hx.2 (by cases h; rfl)⟩)).world (fun j _ => ?_) (fun _ _ => rfl)
    simp only [CV.base, Base.get, World.cell?, h3, Nat.zero_add]
    rfl
  | gone => exact ⟨fun _ _ => False, fun _ _ h => h.elim, fun _ _ _ h => h.elim, fun j l hl => by simp [CV.row] at hl⟩

/-- From a base with a row, along a path through owned slices, to a base with a row. -/
inductive Follow (w : World) : Base → List L → List (Nat × Nat) → Base → List L → Prop
  | nil (B row) : Follow w B row [] B row
  | step (B row c i p B' row' sz rows r b len cap) (h1 : row[c]? = some (.sl true sz rows)) (h2 : rows[i]? = some r)
      (h3 : B.get w c = some (.slice (some ⟨b, 0, none⟩) len cap)) (h4 : Follow w (.addr b (i * sz)) r p B' row') : Follow w B row ((c, i) :: p) B' row'

theorem Follow.same {B B1 B2 : Base} {row r1 r2 : List L} {p : List (Nat × Nat)} (h1 : Follow w B row p B1 r1) (h2 : Follow w B row p B2 r2) : B1 = B2 ∧ r1 = r2 := by
  induction h1 with
  | nil => cases h2; exact ⟨rfl, rfl⟩
  | step B row c i p B' row' sz rows r b len cap g1 g2 g3 g4 ih =>
    cases h2 with
    | step _ _ _ _ _ _ _ sz2 rows2 rr b2 len2 cap2 k1 k2 k3 k4 =>
      rw [g1] at k1
      simp only [Option.some.injEq, L.sl.injEq] at k1
      obtain ⟨_, rfl, rfl⟩ := k1
      rw [g2] at k2
      simp only [Option.some.injEq] at k2
      subst k2
      rw [g3] at k3
      simp only [Option.some.injEq, Value.slice.injEq, Addr.mk.injEq] at k3
      obtain ⟨⟨rfl, _, _⟩, _, _⟩ := k3
      exact ih k4
theorem Follow.rowAt {B B' : Base} {row row' : List L} {p : List (Nat × Nat)} (h : Follow w B row p B' row') : rowAt p row = some row' := by
  induction h with
  | nil => rfl
  | step B row c i p B' row' sz rows r b len cap h1 h2 h3 h4 ih => simp only [VS.rowAt, h1, h2, ih]

theorem Follow.append {B B1 B2 : Base} {row r1 r2 : List L} {p q : List (Nat × Nat)} (h1 : Follow w B row p B1 r1) (h2 : Follow w B1 r1 q B2 r2) : Follow w B row (p ++ q) B2 r2 := by
  induction h1 with
  | nil => exact h2
  | step B row c i p B' row' sz rows r b len cap g1 g2 g3 g4 ih => exact .step _ _ _ _ _ _ _ sz rows r b len cap g1 g2 g3 (ih h2)

theorem cell_of {b : Nat} {cs : Array Value} {e : TypeId} {f : Nat × Nat} (hb : w.heap[b]? = some (.cells cs e f)) (o : Nat) : w.cell? ⟨b, o, none⟩ = cs[o]? := by
  simp only [World.cell?, hb]
  rfl

theorem setRow_length : ∀ (p : List (Nat × Nat)) (row new : List L), p ≠ [] → (setRow p row new).length = row.length
  | [], _, _, h => absurd rfl h
  | (c, i) :: p, row, new, _ => by
    simp only [setRow]
    split
    · split <;> simp
    · rfl
theorem out_of_row {i i' j sz : Nat} (h : i' ≠ i) (hj : j < sz) : ¬ (i * sz ≤ i' * sz + j ∧ i' * sz + j < i * sz + sz) := by
  intro ⟨h1, h2⟩
  rcases Nat.lt_or_gt_of_ne h with h | h
  · have : (i' + 1) * sz ≤ i * sz := Nat.mul_le_mul_right sz h
    rw [Nat.add_mul, Nat.one_mul] at this
    omega
  · have : (i + 1) * sz ≤ i' * sz := Nat.mul_le_mul_right sz h
    rw [Nat.add_mul, Nat.one_mul] at this
    omega

/-- What may be said behind a change of the leaves at the end of a path. -/
def Pokes (w : World) (I : Nat → Prop) (p : List (Nat × Nat)) (B : Base) (row : List L) (S : Nat → Prop) (B' : Base) (row' : List L) (S' : Nat → Prop) : Prop :=
  ∀ (w' : World) (I' N T : Nat → Prop) (new : List L), new.length = row'.length → RepRow w' I' new (B'.get w') T → (∀ x, T x → S' x ∨ N x) → (∀ x, N x → ¬ S x) → (∀ x, I x → I' x) → (∀ x, I x → w'.heap[x]? = w.heap[x]?) →
    (∀ x, S x → ¬ S' x → (∀ b o, B' = .addr b o → p ≠ [] → x ≠ b) → w'.heap[x]? = w.heap[x]?) →
    (p ≠ [] → ∀ b o, B' = .addr b o → ∃ cs cs' e, w.heap[b]? = some (.cells cs e (0, 0)) ∧ w'.heap[b]? = some (.cells cs' e (0, 0)) ∧ cs'.size = cs.size ∧ ∀ k, ¬ (o ≤ k ∧ k < o + row'.length) → cs'[k]? = cs[k]?) →
    (p ≠ [] → ∀ j, B.get w' j = B.get w j) → RepRow w' I' (setRow p row new) (B.get w') (fun x => (S x ∧ (S' x → T x)) ∨ N x)

/-- The leaves at the end of a path lie as they should; and may be changed there. -/
theorem follow : ∀ (p : List (Nat × Nat)) {B : Base} {row row' : List L} {S : Nat → Prop}, RepRow w I row (B.get w) S → rowAt p row = some row' →
    ∃ B' S', Follow w B row p B' row' ∧ RepRow w I row' (B'.get w) S' ∧ (∀ x, S' x → S x) ∧
      (p ≠ [] → ∃ b o cs e, B' = .addr b o ∧ S b ∧ ¬ S' b ∧ w.heap[b]? = some (.cells cs e (0, 0)) ∧ o + row'.length ≤ cs.size) ∧ Pokes w I p B row S B' row' S'
  | [], B, row, row', S, h, hp => by
    simp only [VS.rowAt, Option.some.injEq] at hp
    subst hp
    refine ⟨B, S, .nil .., h, fun _ h => h, fun h => absurd rfl h, ?_⟩
    intro w' I' N T new _ hr hT _ _ _ _ _ _
    exact hr.mono (fun _ h => h) fun x hx => (hT x hx).imp (fun h => ⟨h, fun _ => hx⟩) id
  | (c, i) :: p, B, row, row', S, h, hp => by
    obtain ⟨D, d1, d2, d3⟩ := h
    obtain ⟨sz, rows, r, hc, hi, hp⟩ : ∃ sz rows r, row[c]? = some (.sl true sz rows) ∧ rows[i]? = some r ∧ rowAt p r = some row' := by
      simp only [VS.rowAt] at hp
      cases hc : row[c]? with
      | none => rw [hc] at hp; cases hp
      | some x =>
        rw [hc] at hp
        cases x with
        | sl o sz rows =>
          cases o with
          | false => cases hp
          | true =>
            cases hi : rows[i]? with
            | none => simp only [hi] at hp; cases hp
            | some r => simp only [hi] at hp; exact ⟨sz, rows, r, rfl, hi, hp⟩
        | _ => cases hp
    obtain ⟨v, g1, g2, g3⟩ := d3 c _ hc
    cases g3 with
    | nil => simp at hi
    | own _ _ _ b cap cs e cv E hS hlen hcap hb hcs hsz hcv hE hdis hrep =>
      have hir : i < rows.length := (List.getElem?_eq_some_iff.1 hi).1
      have hrl := hsz i r hi
      have hfit : i * sz + r.length ≤ cs.size := by
        rw [hcs, hrl]
        have : (i + 1) * sz ≤ cap * sz := Nat.mul_le_mul_right sz (by omega)
        rw [Nat.add_mul, Nat.one_mul] at this
        exact this
      have hrow : RepRow w I r ((Base.addr b (i * sz)).get w) (fun x => ∃ j, E i j x) := by
        refine ⟨E i, fun j x hx => ⟨j, hx⟩, fun j j' x h h' => (hdis i j i j' x h h').2, fun j l hl => ?_⟩
        have hjl := (List.getElem?_eq_some_iff.1 hl).1
        have hc' := hcv i j hir (by omega)
        exact ⟨cv i j, (cell_of hb _).trans hc'.1, hc'.2, hrep i j r l hi hl⟩
      obtain ⟨B', S', f1, f2, f3, f4, f5⟩ := follow p hrow hp
      have hsub : ∀ x, S' x → S x ∧ x ≠ b := fun x hx => by
        obtain ⟨j, hj⟩ := f3 x hx
        exact ⟨d1 c x (hE i j x hj).1, (hE i j x hj).2⟩
      have hBb : ∀ b' o', B' = .addr b' o' → p = [] ∧ b' = b ∧ o' = i * sz ∧ row' = r ∨ p ≠ [] ∧ ∃ j, E i j b' := by
        intro b' o' hB
        by_cases hp0 : p = []
        · subst hp0
          cases f1
          injection hB with h1 h2
          exact .inl ⟨rfl, h1.symm, h2.symm, rfl⟩
        · obtain ⟨b2, o2, cs2, e2, k1, k2, _⟩ := f4 hp0
          rw [k1] at hB
          injection hB with h1 h2
          exact .inr ⟨hp0, h1 ▸ k2⟩
      refine ⟨B', S', .step _ _ _ _ _ _ _ sz rows r b _ _ hc hi g1 f1, f2, fun x hx => (hsub x hx).1, fun _ => ?_, ?_⟩
      · by_cases hp0 : p = []
        · subst hp0
          cases f1
          exact ⟨b, i * sz, cs, e, rfl, d1 c b hS, fun h => (hsub b h).2 rfl, hb, hfit⟩
        · obtain ⟨b', o', cs', e', k1, k2, k3, k4, k5⟩ := f4 hp0
          obtain ⟨j, hj⟩ := k2
          exact ⟨b', o', cs', e', k1, d1 c b' (hE i j b' hj).1, k3, k4, k5⟩
      · intro w' I' N T new hl hr hT hN hI hIw hframe hblk hBg
        -- the block of the slice, behind the change
        have hblk0 : p ≠ [] → w'.heap[b]? = w.heap[b]? := fun hp0 => hframe b (d1 c b hS) (fun h => (hsub b h).2 rfl) (fun b' o' hB _ => by
          rcases hBb b' o' hB with ⟨h, _⟩ | ⟨_, j, hj⟩
          · exact absurd h hp0
          · exact fun he => (hE i j b' hj).2 he.symm)
        have hb' : ∃ cs', w'.heap[b]? = some (.cells cs' e (0, 0)) ∧ cs'.size = cs.size ∧ ∀ i' j, i' ≠ i → j < sz → cs'[i' * sz + j]? = cs[i' * sz + j]? := by
          by_cases hp0 : p = []
          · subst hp0
            cases f1
            obtain ⟨c1, c2, e2, k1, k2, k3, k4⟩ := hblk (by simp) b (i * sz) rfl
            rw [hb] at k1
            simp only [Option.some.injEq, Obj.cells.injEq] at k1
            obtain ⟨rfl, rfl, _⟩ := k1
            exact ⟨c2, k2, k3, fun i' j hne hj => k4 _ (by rw [hrl]; exact out_of_row hne hj)⟩
          · exact ⟨cs, (hblk0 hp0).trans hb, rfl, fun _ _ _ _ => rfl⟩
        obtain ⟨cs', hb', hcs', hold⟩ := hb'
        have hin := f5 w' I' N T new hl hr hT (fun x hx ⟨j, hj⟩ => hN x hx (d1 c x (hE i j x hj).1)) hI hIw
          (fun x ⟨j, hj⟩ hx hne => hframe x (d1 c x (hE i j x hj).1) hx (fun b' o' hB _ => by
            rcases hBb b' o' hB with ⟨_, hbb, _⟩ | ⟨hp0, _⟩
            · subst hbb; exact (hE i j x hj).2
            · exact hne b' o' hB hp0))
          (fun hp0 b' o' hB => hblk (by simp) b' o' hB)
          (fun hp0 j => by simp only [Base.get]; exact World.cell?_of_block (w := w) (w' := w') (a := ⟨b, i * sz + j, none⟩) (hblk0 hp0))
        obtain ⟨Dn, n1, n2, n3⟩ := hin
        have hlen' : (setRow p r new).length = sz := by
          by_cases hp0 : p = []
          · subst hp0
            simp only [VS.rowAt, Option.some.injEq] at hp
            simp only [setRow]
            rw [hl, ← hp, hrl]
          · rw [setRow_length p r new hp0, hrl]
        have hset : setRow ((c, i) :: p) row new = row.set c (.sl true sz (rows.set i (setRow p r new))) := by simp only [setRow, hc, hi]
        have hBg' := hBg (by simp)
        rw [hset]
        have hSc : ∀ x, S' x → D c x := fun x hx => by obtain ⟨j, hj⟩ := f3 x hx; exact (hE i j x hj).1
        refine ⟨fun j x => if j = c then (D c x ∧ (S' x → T x)) ∨ N x else D j x, fun j x hx => ?_, fun j j' x hx hx' => ?_, fun j l hjl => ?_⟩
        · by_cases hj : j = c
          · simp only [hj, if_true] at hx; exact hx.imp (fun h => ⟨d1 c x h.1, h.2⟩) id
          · simp only [hj, if_false] at hx; exact .inl ⟨d1 j x hx, fun hs => absurd (d2 j c x hx (hSc x hs)) hj⟩
        · by_cases hj : j = c <;> by_cases hj' : j' = c
          · rw [hj, hj']
          · simp only [hj, if_true] at hx
            simp only [hj', if_false] at hx'
            rcases hx with hx | hx
            · exact hj.trans (d2 c j' x hx.1 hx')
            · exact absurd (d1 j' x hx') (hN x hx)
          · simp only [hj', if_true] at hx'
            simp only [hj, if_false] at hx
            rcases hx' with hx' | hx'
            · exact (d2 j c x hx hx'.1).trans hj'.symm
            · exact absurd (d1 j x hx) (hN x hx')
          · simp only [hj, if_false] at hx
            simp only [hj', if_false] at hx'
            exact d2 j j' x hx hx'
        · by_cases hj : j = c
          · subst hj
            simp only [if_true]
            rw [List.getElem?_set_self (List.getElem?_eq_some_iff.1 hc).1, Option.some.injEq] at hjl
            subst hjl
            refine ⟨_, (hBg' j).trans g1, g2, ?_⟩
            rw [← List.length_set (as := rows) (i := i) (a := setRow p r new)]
            refine .own sz _ _ b cap cs' e (fun i' j => (cs'[i' * sz + j]?).getD undef) (fun i' j x => if i' = i then Dn j x else E i' j x) (.inl ⟨hS, fun hs => absurd rfl (hsub b hs).2⟩) (by rw [List.length_set]; exact hlen) hcap hb' (hcs'.trans hcs) (fun i' r' hr' => ?_) (fun i' j' hi' hj' => ?_) (fun i' j' x hx => ?_) (fun i1 j1 i2 j2 x hx1 hx2 => ?_) (fun i' j' r' l' hr' hl' => ?_)
            · by_cases hii : i' = i
              · subst hii
                rw [List.getElem?_set_self hir, Option.some.injEq] at hr'
                exact hr' ▸ hlen'
              · rw [List.getElem?_set_ne (fun h => hii h.symm)] at hr'
                exact hsz i' r' hr'
            · rw [List.length_set] at hi'
              by_cases hii : i' = i
              · subst hii
                obtain ⟨l', hl'⟩ : ∃ l', (setRow p r new)[j']? = some l' := ⟨_, List.getElem?_eq_getElem (by omega)⟩
                obtain ⟨v', q1, q2, q3⟩ := n3 j' l' hl'
                have q1' : cs'[i' * sz + j']? = some v' := (cell_of hb' _).symm.trans q1
                rw [q1']
                exact ⟨rfl, q2⟩
              · have hcc := hcv i' j' hi' hj'
                rw [hold i' j' hii hj', hcc.1]
                exact ⟨rfl, hcc.2⟩
            · by_cases hii : i' = i
              · simp only [hii, if_true] at hx
                rcases n1 j' x hx with ⟨⟨j2, hx2⟩, hi2⟩ | hx2
                · exact ⟨.inl ⟨(hE i j2 x hx2).1, hi2⟩, (hE i j2 x hx2).2⟩
                · exact ⟨.inr hx2, fun he => hN x hx2 (he ▸ d1 j b hS)⟩
              · simp only [hii, if_false] at hx
                exact ⟨.inl ⟨(hE i' j' x hx).1, fun hs => by obtain ⟨j3, h3⟩ := f3 x hs; exact absurd (hdis i' j' i j3 x hx h3).1 hii⟩, (hE i' j' x hx).2⟩
            · by_cases h1 : i1 = i <;> by_cases h2 : i2 = i
              · simp only [h1, if_true] at hx1
                simp only [h2, if_true] at hx2
                exact ⟨h1.trans h2.symm, n2 j1 j2 x hx1 hx2⟩
              · simp only [h1, if_true] at hx1
                simp only [h2, if_false] at hx2
                rcases n1 j1 x hx1 with ⟨⟨j3, hx3⟩, _⟩ | hx3
                · exact absurd ((hdis i j3 i2 j2 x hx3 hx2).1) (fun h => h2 h.symm)
                · exact absurd (d1 j x (hE i2 j2 x hx2).1) (hN x hx3)
              · simp only [h1, if_false] at hx1
                simp only [h2, if_true] at hx2
                rcases n1 j2 x hx2 with ⟨⟨j3, hx3⟩, _⟩ | hx3
                · exact absurd ((hdis i1 j1 i j3 x hx1 hx3).1) h1
                · exact absurd (d1 j x (hE i1 j1 x hx1).1) (hN x hx3)
              · simp only [h1, if_false] at hx1
                simp only [h2, if_false] at hx2
                exact hdis i1 j1 i2 j2 x hx1 hx2
            · by_cases hii : i' = i
              · subst hii
                rw [List.getElem?_set_self hir, Option.some.injEq] at hr'
                subst hr'
                obtain ⟨v', q1, q2, q3⟩ := n3 j' l' hl'
                have q1' : cs'[i' * sz + j']? = some v' := (cell_of hb' _).symm.trans q1
                simp only [if_true, q1', Option.getD_some]
                exact q3
              · rw [List.getElem?_set_ne (fun h => hii h.symm)] at hr'
                have hi' := (List.getElem?_eq_some_iff.1 hr').1
                have hj' : j' < sz := by rw [← hsz i' r' hr']; exact (List.getElem?_eq_some_iff.1 hl').1
                have hcc := hcv i' j' hi' hj'
                simp only [hii, if_false]
                rw [hold i' j' hii hj', hcc.1]
                refine ((hrep i' j' r' l' hr' hl').world (w' := w') fun x hx => ?_).mono hI (fun _ h => h)
                rcases hx with hx | hx
                · refine hframe x (d1 j x (hE i' j' x hx).1) (fun hs => ?_) (fun b' o' hB _ => ?_)
                  · obtain ⟨j3, h3⟩ := f3 x hs
                    exact hii (hdis i' j' i j3 x hx h3).1
                  · rcases hBb b' o' hB with ⟨_, hbb, _⟩ | ⟨_, j3, h3⟩
                    · subst hbb; exact (hE i' j' x hx).2
                    · exact fun he => hii (hdis i' j' i j3 x hx (he ▸ h3)).1
                · exact hIw x hx
          · rw [List.getElem?_set_ne (fun h => hj h.symm)] at hjl
            obtain ⟨v', q1, q2, q3⟩ := d3 j l hjl
            refine ⟨v', (hBg' j).trans q1, q2, ?_⟩
            simp only [hj, if_false]
            refine (q3.world (w' := w') fun x hx => ?_).mono hI (fun _ h => h)
            rcases hx with hx | hx
            · refine hframe x (d1 j x hx) (fun hs => ?_) (fun b' o' hB _ => ?_)
              · obtain ⟨j3, h3⟩ := f3 x hs
                exact hj (d2 j c x hx (hE i j3 x h3).1)
              · rcases hBb b' o' hB with ⟨_, hbb, _⟩ | ⟨_, j3, h3⟩
                · subst hbb; exact fun he => hj (d2 j c x hx (he ▸ hS))
                · exact fun he => hj (d2 j c x hx (he ▸ (hE i j3 b' h3).1))
            · exact hIw x hx

theorem Follow.world {B B' : Base} {row row' : List L} {p : List (Nat × Nat)} {S : Nat → Prop} (hf : Follow w B row p B' row') (h : RepRow w I row (B.get w) S) (hw : ∀ x, S x → w'.heap[x]? = w.heap[x]?) (hB : ∀ j, j < row.length → B.get w' j = B.get w j) :
    Follow w' B row p B' row' ∧ ∀ j, j < row'.length → B'.get w' j = B'.get w j := by
  induction hf generalizing S with
  | nil B row => exact ⟨.nil .., hB⟩
  | step B row c i p B' row' sz rows r b len cap h1 h2 h3 h4 ih =>
    obtain ⟨D, d1, d2, d3⟩ := h
    obtain ⟨v, g1, g2, g3⟩ := d3 c _ h1
    rw [h3] at g1
    obtain rfl := Option.some.inj g1
    cases g3 with
    | nil => simp at h2
    | own _ _ _ _ _ cs e cv E hS hlen hcap hb hcs hsz hcv hE hdis hrep =>
      have hir : i < rows.length := (List.getElem?_eq_some_iff.1 h2).1
      have hrl := hsz i r h2
      have hrow : RepRow w I r ((Base.addr b (i * sz)).get w) (fun x => ∃ j, E i j x) := by
        refine ⟨E i, fun j x hx => ⟨j, hx⟩, fun j j' x h h' => (hdis i j i j' x h h').2, fun j l hl => ?_⟩
        have hjl := (List.getElem?_eq_some_iff.1 hl).1
        have hc' := hcv i j hir (by omega)
        exact ⟨cv i j, (cell_of hb _).trans hc'.1, hc'.2, hrep i j r l h2 hl⟩
      have hbb := hw b (d1 c b hS)
      obtain ⟨q1, q2⟩ := ih hrow (fun x ⟨j, hj⟩ => hw x (d1 c x (hE i j x hj).1)) (fun j _ => World.cell?_of_block (w := w) (w' := w') (a := ⟨b, i * sz + j, none⟩) hbb)
      exact ⟨.step _ _ _ _ _ _ _ sz rows r b _ _ h1 h2 ((hB c (List.getElem?_eq_some_iff.1 h1).1).trans h3) q1, q2⟩

/-- A change at one path leaves what another path leads to, unless it hits it. -/
theorem follow_poke {o n : Nat} : ∀ (p : List (Nat × Nat)) (p2 : List (Nat × Nat)) {B B' B2 : Base} {row row' row2 new : List L} {S : Nat → Prop}, RepRow w I row (B.get w) S → Follow w B row p B' row' → Follow w B row p2 B2 row2 →
    hits p o n p2 = false → new.length = row'.length → (∀ j, ¬ (o ≤ j ∧ j < o + n) → new[j]? = row'[j]?) →
    (∀ j, j < row.length → (p = [] → ¬ (o ≤ j ∧ j < o + n)) → B.get w' j = B.get w j) →
    (∀ b o', p ≠ [] → B' = .addr b o' → ∃ cs cs' e, w.heap[b]? = some (.cells cs e (0, 0)) ∧ w'.heap[b]? = some (.cells cs' e (0, 0)) ∧ ∀ k, ¬ (o' + o ≤ k ∧ k < o' + o + n) → cs'[k]? = cs[k]?) →
    (p ≠ [] → o + n ≤ row'.length) →
    (∀ x, S x → (p ≠ [] → ∀ o', B' ≠ .addr x o') → w'.heap[x]? = w.heap[x]?) →
    ∃ row2', Follow w' B (setRow p row new) p2 B2 row2' ∧ row2'.length = row2.length ∧ ∀ x k, meets p o n p2 x k = false → x + k ≤ row2.length → ∀ j, x ≤ j → j < x + k → B2.get w' j = B2.get w j
  | p, [], B, B', B2, row, row', row2, new, S, h, hf, hf2, hh, hl, hnew, hB, hblk, hon, hw => by
    cases hf2
    refine ⟨_, .nil .., ?_, fun x k hm hx j h1 h2 => hB j (by omega) (fun hp => ?_)⟩
    · by_cases hp : p = []
      · subst hp; cases hf; exact hl
      · exact setRow_length p row new hp
    · subst hp
      simp only [meets, Bool.and_eq_false_iff, decide_eq_false_iff_not] at hm
      omega
  | [], (c, i) :: p2, B, B', B2, row, row', row2, new, S, h, hf, hf2, hh, hl, hnew, hB, hblk, hon, hw => by
    cases hf
    simp only [hits, Bool.and_eq_false_iff, decide_eq_false_iff_not] at hh
    have hfw : ∀ x, S x → w'.heap[x]? = w.heap[x]? := fun x hx => hw x hx (fun h => absurd rfl h)
    cases hf2 with
    | step _ _ _ _ _ _ _ sz rows r b len cap g1 g2 g3 g4 =>
      obtain ⟨D, d1, d2, d3⟩ := h
      obtain ⟨v, q1, q2, q3⟩ := d3 c _ g1
      rw [g3] at q1
      obtain rfl := Option.some.inj q1
      cases q3 with
      | nil => simp at g2
      | own _ _ _ _ _ cs e cv E hS hlen hcap hb hcs hsz hcv hE hdis hrep =>
        have hir : i < rows.length := (List.getElem?_eq_some_iff.1 g2).1
        have hrow : RepRow w I r ((Base.addr b (i * sz)).get w) (fun x => ∃ j, E i j x) := by
          refine ⟨E i, fun j x hx => ⟨j, hx⟩, fun j j' x h h' => (hdis i j i j' x h h').2, fun j l hl => ?_⟩
          have hjl := (List.getElem?_eq_some_iff.1 hl).1
          have hrl := hsz i r g2
          have hc' := hcv i j hir (by omega)
          exact ⟨cv i j, (cell_of hb _).trans hc'.1, hc'.2, hrep i j r l g2 hl⟩
        obtain ⟨k1, k2⟩ := g4.world (w' := w') hrow (fun x ⟨j, hj⟩ => hfw x (d1 c x (hE i j x hj).1)) (fun j _ => World.cell?_of_block (w := w) (w' := w') (a := ⟨b, i * sz + j, none⟩) (hfw b (d1 c b hS)))
        refine ⟨row2, ?_, rfl, fun x k _ hx j _ h2 => k2 j (by omega)⟩
        simp only [setRow]
        refine .step _ _ _ _ _ _ _ sz rows r b rows.length cap ?_ g2 ?_ k1
        · rw [hnew c (by omega)]; exact g1
        · rw [hB c (List.getElem?_eq_some_iff.1 g1).1 (fun _ => by omega)]; exact g3
  | (a, ia) :: p, (c, i) :: p2, B, B', B2, row, row', row2, new, S, h, hf, hf2, hh, hl, hnew, hB, hblk, hon, hw => by
    have hBw : ∀ j, j < row.length → B.get w' j = B.get w j := fun j hj => hB j hj (fun h => by cases h)
    cases hf with
    | step _ _ _ _ _ _ _ sz rows r b len cap f1 f2 f3 f4 =>
    cases hf2 with
    | step _ _ _ _ _ _ _ sz2 rows2 r2 b2 len2 cap2 g1 g2 g3 g4 =>
      obtain ⟨D, d1, d2, d3⟩ := h
      obtain ⟨v, q1, q2, q3⟩ := d3 a _ f1
      rw [f3] at q1
      obtain rfl := Option.some.inj q1
      cases q3 with
      | nil => simp at f2
      | own _ _ _ _ _ cs e cv E hS hlen hcap hb hcs hsz hcv hE hdis hrep =>
        have hir : ia < rows.length := (List.getElem?_eq_some_iff.1 f2).1
        have hrows : ∀ i r, rows[i]? = some r → RepRow w I r ((Base.addr b (i * sz)).get w) (fun x => ∃ j, E i j x) := by
          intro i r hr
          refine ⟨E i, fun j x hx => ⟨j, hx⟩, fun j j' x h h' => (hdis i j i j' x h h').2, fun j l hl => ?_⟩
          have hjl := (List.getElem?_eq_some_iff.1 hl).1
          have hrl := hsz i r hr
          have hc' := hcv i j (List.getElem?_eq_some_iff.1 hr).1 (by omega)
          exact ⟨cv i j, (cell_of hb _).trans hc'.1, hc'.2, hrep i j r l hr hl⟩
        -- the changed block lies in row ia of this slice, or is its own
        have hB'b : ∀ b' o', B' = .addr b' o' → p = [] ∧ b' = b ∧ o' = ia * sz ∧ row' = r ∨ p ≠ [] ∧ ∃ j, E ia j b' := by
          intro b' o' hBe
          by_cases hp0 : p = []
          · subst hp0
            cases f4
            injection hBe with h1 h2
            exact .inl ⟨rfl, h1.symm, h2.symm, rfl⟩
          · obtain ⟨B3, S3, k1, _, _, k4, _⟩ := follow p (hrows ia r f2) f4.rowAt
            obtain ⟨rfl, _⟩ : B3 = B' ∧ True := ⟨by
              have := k1; exact (by
                clear k4
                revert k1
                intro k1
                exact (Follow.same k1 f4).1), trivial⟩
            obtain ⟨b4, o4, cs4, e4, m1, m2, _⟩ := k4 hp0
            rw [m1] at hBe
            injection hBe with h1 h2
            exact .inr ⟨hp0, h1 ▸ m2⟩
        have hset : setRow ((a, ia) :: p) row new = row.set a (.sl true sz (rows.set ia (setRow p r new))) := by simp only [setRow, f1, f2]
        rw [hset]
        by_cases hac : a = c
        · subst hac
          rw [f1] at g1
          simp only [Option.some.injEq, L.sl.injEq, true_and] at g1
          obtain ⟨rfl, rfl⟩ := g1
          rw [f3] at g3
          simp only [Option.some.injEq, Value.slice.injEq, Addr.mk.injEq] at g3
          obtain ⟨⟨rfl, _, _⟩, rfl, rfl⟩ := g3
          have hh' : hits p o n p2 = false := by simpa [hits] using hh
          by_cases hii : i = ia
          · subst hii
            rw [f2] at g2
            obtain rfl := Option.some.inj g2
            have hgb : ∀ j, j < r.length → (p = [] → ¬ (o ≤ j ∧ j < o + n)) → (Base.addr b (i * sz)).get w' j = (Base.addr b (i * sz)).get w j := by
              intro j hj hjn
              by_cases hp0 : p = []
              · subst hp0
                cases f4
                obtain ⟨c1, c2, e1, m1, m2, m3⟩ := hblk b (i * sz) (by simp) rfl
                simp only [Base.get]
                rw [cell_of m1, cell_of m2]
                exact m3 _ (by have := hjn rfl; omega)
              · simp only [Base.get]
                refine World.cell?_of_block (w := w) (w' := w') (a := ⟨b, i * sz + j, none⟩) (hw b (d1 a b hS) fun _ o' hBe => ?_)
                rcases hB'b b o' hBe with ⟨h, _⟩ | ⟨_, j, hj⟩
                · exact hp0 h
                · exact (hE i j b hj).2 rfl
            obtain ⟨row2', k1, k2, k3⟩ := follow_poke p p2 (hrows i r f2) f4 g4 hh' hl hnew hgb (fun b' o' hp0 hBe => hblk b' o' (by simp) hBe) (fun hp0 => hon (by simp)) (fun x ⟨j, hj⟩ hx => by
              refine hw x (d1 a x (hE i j x hj).1) fun _ o' hBe => ?_
              rcases hB'b x o' hBe with ⟨_, hxb, _⟩ | ⟨hp0, _⟩
              · exact (hE i j x hj).2 hxb
              · exact hx hp0 o' hBe)
            refine ⟨row2', ?_, k2, fun x k hm => k3 x k (by simpa [meets] using hm)⟩
            refine .step _ _ _ _ _ _ _ sz _ (setRow p r new) b _ _ (List.getElem?_set_self (List.getElem?_eq_some_iff.1 f1).1) (List.getElem?_set_self hir) ((hBw a (List.getElem?_eq_some_iff.1 f1).1).trans f3) k1
          · have hri := (List.getElem?_eq_some_iff.1 g2).1
            have hr2 := hsz i r2 g2
            have hgb : ∀ j, j < r2.length → (Base.addr b (i * sz)).get w' j = (Base.addr b (i * sz)).get w j := by
              intro j hj
              by_cases hp0 : p = []
              · subst hp0
                cases f4
                obtain ⟨c1, c2, e1, m1, m2, m3⟩ := hblk b (ia * sz) (by simp) rfl
                simp only [Base.get]
                rw [cell_of m1, cell_of m2]
                have hr1 := hsz ia _ f2
                have hno := out_of_row (i := ia) (i' := i) (j := j) (sz := sz) hii (by omega)
                have hon' := hon (by simp)
                exact m3 _ (by omega)
              · simp only [Base.get]
                refine World.cell?_of_block (w := w) (w' := w') (a := ⟨b, i * sz + j, none⟩) (hw b (d1 a b hS) fun _ o' hBe => ?_)
                rcases hB'b b o' hBe with ⟨h, _⟩ | ⟨_, j, hj⟩
                · exact hp0 h
                · exact (hE ia j b hj).2 rfl
            obtain ⟨k1, k2⟩ := g4.world (w' := w') (hrows i r2 g2) (fun x ⟨j, hj⟩ => by
              refine hw x (d1 a x (hE i j x hj).1) fun _ o' hBe => ?_
              rcases hB'b x o' hBe with ⟨_, hxb, _⟩ | ⟨_, j', hj'⟩
              · exact (hE i j x hj).2 hxb
              · exact hii (hdis i j ia j' x hj hj').1) hgb
            refine ⟨row2, ?_, rfl, fun x k _ hx j _ h2 => k2 j (by omega)⟩
            exact .step _ _ _ _ _ _ _ sz _ r2 b _ _ (List.getElem?_set_self (List.getElem?_eq_some_iff.1 f1).1) (by rw [List.getElem?_set_ne (fun h => hii h.symm)]; exact g2) ((hBw a (List.getElem?_eq_some_iff.1 f1).1).trans f3) k1
        · obtain ⟨v2, u1, u2, u3⟩ := d3 c _ g1
          have hfr : ∀ x, D c x → w'.heap[x]? = w.heap[x]? := fun x hx => by
            refine hw x (d1 c x hx) fun _ o' hBe => ?_
            rcases hB'b x o' hBe with ⟨_, hxb, _⟩ | ⟨_, j', hj'⟩
            · subst hxb; exact hac (d2 a c _ hS hx)
            · exact hac (d2 a c _ (hE ia j' x hj').1 hx)
          have hsub : RepRow w I [L.sl true sz2 rows2] (fun j => if j = 0 then some v2 else none) (D c) :=
            ⟨fun j x => j = 0 ∧ D c x, fun j x h => h.2, fun j j' x h h' => h.1.trans h'.1.symm, fun j l hl => by
              cases j with
              | zero => simp at hl; subst hl; exact ⟨v2, rfl, u2, u3.mono (fun _ h => h) fun x hx => ⟨rfl, hx⟩⟩
              | succ j => simp at hl⟩
          have hone : Follow w (.vals #[v2]) [L.sl true sz2 rows2] ((0, i) :: p2) B2 row2 := .step _ _ _ _ _ _ _ sz2 rows2 r2 b2 len2 cap2 rfl g2 (by rw [g3] at u1; exact u1.symm ▸ rfl) g4
          obtain ⟨k1, k2⟩ := hone.world (w' := w') (S := D c) (I := I) (hsub.world (w' := w) (fun j hj => by simp at hj; subst hj; rfl) (fun _ _ => rfl)) hfr (fun j _ => rfl)
          refine ⟨row2, ?_, rfl, fun x k _ hx j _ h2 => k2 j (by omega)⟩
          cases k1 with
          | step _ _ _ _ _ _ _ sz3 rows3 r3 b3 len3 cap3 m1 m2 m3 m4 =>
            simp only [List.getElem?_cons_zero, Option.some.injEq, L.sl.injEq, true_and] at m1
            obtain ⟨rfl, rfl⟩ := m1
            refine .step _ _ _ _ _ _ _ sz2 rows2 r3 b3 len3 cap3 (by rw [List.getElem?_set_ne hac]; exact g1) m2 ?_ m4
            rw [hBw c (List.getElem?_eq_some_iff.1 g1).1, u1]
            exact m3

end Go.VS
