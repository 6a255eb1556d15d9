/- Steps: what must hold behind an operation; operations that turn no place. -/
import Derived.Test.YtdoelepflcaijaaEngTaken
namespace Go.VS
open Go Go.RowKit
set_option linter.unusedSimpArgs false
set_option linter.unusedVariables false

variable {P : Program} {arg : Tmp → Value} {W w w' : World} {I I' : Nat → Prop} {O O' : Tmp → Nat → Prop} {s s' : RS} {vs : Array Value} {S : Nat → Prop} {c : CV} {x : X} {v : Value}

/-- From one world to a later one: what nobody here owned is as it was; nothing of others' has been got. -/
structure Ext (w : World) (I : Nat → Prop) (O : Tmp → Nat → Prop) (w' : World) (I' : Nat → Prop) (O' : Tmp → Nat → Prop) : Prop where
  imm : ∀ b, I b → I' b
  size : w.heap.size ≤ w'.heap.size
  kept : ∀ b, b < w.heap.size → (∀ t, ¬ O t b) → w'.heap[b]? = w.heap[b]?
  got : ∀ b, (∃ t, O' t b) ∨ I' b → (∃ t, O t b) ∨ I b ∨ w.heap.size ≤ b

theorem Ext.refl : Ext w I O w I O := ⟨fun _ h => h, Nat.le_refl _, fun _ _ _ => rfl, fun _ h => h.imp id .inl⟩
theorem Ext.trans {w'' : World} {I'' : Nat → Prop} {O'' : Tmp → Nat → Prop} (h : Ext w I O w' I' O') (hn : ∀ t b, O' t b → ¬ I' b) (k : Ext w' I' O' w'' I'' O'') : Ext w I O w'' I'' O'' := by
  refine ⟨fun b hb => k.imm b (h.imm b hb), Nat.le_trans h.size k.size, fun b hb hno => ?_, fun b hb => ?_⟩
  · refine (k.kept b (Nat.lt_of_lt_of_le hb h.size) fun t ht => ?_).trans (h.kept b hb hno)
    rcases h.got b (.inl ⟨t, ht⟩) with ⟨t', h'⟩ | h' | h'
    · exact hno t' h'
    · exact hn t b ht (h.imm b h')
    · omega
  · rcases k.got b hb with h' | h' | h'
    · exact h.got b (.inl h')
    · exact h.got b (.inr h')
    · exact .inr (.inr (Nat.le_trans h.size h'))
/-- What has been given away or lost since is no matter. -/
theorem Ext.of_out (h : Out O O' S) : Ext w I O w I O' :=
  ⟨fun _ h => h, Nat.le_refl _, fun _ _ _ => rfl, fun b hb => hb.elim (fun ⟨t, ht⟩ => .inl ⟨t, h.2.1 t b ht⟩) fun h => .inr (.inl h)⟩

theorem oper_value {o : Oper} {a : Act} {K : Act → World → Prop} {Q : Exit → Act → World → Prop} (h : (execOp a.eval o).run P w = .ok (.value v) w') (hk : K (a.put o.dst v) w') : o.wp P a w K Q := by
  unfold Oper.wp; rw [h]; exact hk
theorem oper_skip {o : Oper} {a : Act} {K : Act → World → Prop} {Q : Exit → Act → World → Prop} (h : (execOp a.eval o).run P w = .ok .skip w') (hk : K (a.put o.dst undef) w') : o.wp P a w K Q := by
  unfold Oper.wp; rw [h]; exact hk

/-- What holds behind an operation that has led to s'. -/
def Good (arg : Tmp → Value) (W : World) (I : Nat → Prop) (O : Tmp → Nat → Prop) (w : World) (a : Act) (s' : RS) (d : Option Tmp) (a' : Act) (w' : World) : Prop :=
  ∃ I' O', a'.defers = a.defers ∧ a'.tmps.size = a.tmps.size ∧ Rel arg W I' O' s' a'.tmps w' ∧ Ext w I O w' I' O' ∧ ∀ t, d ≠ some t → a'.tmps.getD t undef = a.tmps.getD t undef

theorem put_size (a : Act) (d : Option Tmp) (v : Value) : (a.put d v).tmps.size = a.tmps.size := by cases d <;> simp [Act.put]
theorem put_defers (a : Act) (d : Option Tmp) (v : Value) : (a.put d v).defers = a.defers := by cases d <;> rfl

/-- A value is laid into a slot; the world may have got new blocks. -/
theorem good_put {a : Act} {d : Tmp} {av : AV} {S : Nat → Prop} (h : Rel arg W I O s a.tmps w) (hd : d < a.tmps.size) (hw : Below w.heap.size w w')
    (hS : ∀ b, S b → b < w'.heap.size ∧ ¬ I b ∧ (∀ t, t ≠ d → ¬ O t b) ∧ ((∃ t, O t b) ∨ w.heap.size ≤ b)) (hav : RepA arg w' I s a.tmps av v S)
    (hfr : ∀ r p o, av = .ptr r p o → cleanP s.d r p = true → ∃ c, s.e.get r = .v c) :
    Good arg W I O w a (s.put d av) (some d) (a.put (some d) v) w' := by
  refine ⟨I, _, rfl, put_size .., h.step hd hw (fun b hb => ⟨(hS b hb).1, (hS b hb).2.1, (hS b hb).2.2.1⟩) hav hfr, ⟨fun _ h => h, hw.size, fun b hb _ => hw.block b hb, fun b hb => ?_⟩, fun t ht => ?_⟩
  · rcases hb with ⟨t, hb⟩ | hb
    · by_cases ht : t = d
      · simp only [ht, if_true] at hb
        rcases (hS b hb).2.2.2 with h | h
        · exact .inl h
        · exact .inr (.inr h)
      · simp only [ht, if_false] at hb; exact .inl ⟨t, hb⟩
    · exact .inr (.inl hb)
  · simp only [Act.put]
    rw [getD_set hd, if_neg (fun e => ht (by rw [e]))]
/-- .. that owns nothing. -/
theorem good_free {a : Act} {d : Tmp} {av : AV} (h : Rel arg W I O s a.tmps w) (hd : d < a.tmps.size) (hw : Below w.heap.size w w') (hav : RepA arg w' I s a.tmps av v (fun _ => False))
    (hfr : ∀ r p o, av = .ptr r p o → cleanP s.d r p = true → ∃ c, s.e.get r = .v c) :
    Good arg W I O w a (s.put d av) (some d) (a.put (some d) v) w' := good_put h hd hw (fun _ h => h.elim) hav hfr
theorem good_int {a : Act} {d : Tmp} {k : IntKind} {n : Int} (h : Rel arg W I O s a.tmps w) (hd : d < a.tmps.size) : Good arg W I O w a (s.put d (.v (.leaf (.int k n)))) (some d) (a.put (some d) (.int k n)) w :=
  good_free h hd (Below.refl _ _) ⟨rfl, .int ..⟩ (fun _ _ _ h => by cases h)
theorem good_bool {a : Act} {d : Tmp} {b : Bool} (h : Rel arg W I O s a.tmps w) (hd : d < a.tmps.size) : Good arg W I O w a (s.put d (.v (.leaf (.bool b)))) (some d) (a.put (some d) (.bool b)) w :=
  good_free h hd (Below.refl _ _) ⟨rfl, .bool ..⟩ (fun _ _ _ h => by cases h)
theorem good_str {a : Act} {d : Tmp} {b : ByteArray} (h : Rel arg W I O s a.tmps w) (hd : d < a.tmps.size) : Good arg W I O w a (s.put d (.v (.leaf (.str b)))) (some d) (a.put (some d) (.string b)) w :=
  good_free h hd (Below.refl _ _) ⟨rfl, .str ..⟩ (fun _ _ _ h => by cases h)

/-- Looking at scalars. -/
theorem look_leaf (h : Rel arg W I O s vs w) (hx : XV vs x v) {l : L} (hl : s.look (s.val x) = some (.leaf l)) : ∃ t S, v.oneCell' = true ∧ RepL w I l v S ∧ ∀ b, S b → O t b := by
  obtain ⟨t, S, h1, h2⟩ := h.look hx hl
  exact ⟨t, S, h1.1, h1.2, h2⟩
theorem look_int (h : Rel arg W I O s vs w) (hx : XV vs x v) {k : IntKind} {n : Int} (hl : s.look (s.val x) = some (.leaf (.int k n))) : v = .int k n := by
  obtain ⟨_, _, _, h2, _⟩ := look_leaf h hx hl
  cases h2; rfl
theorem look_bool (h : Rel arg W I O s vs w) (hx : XV vs x v) {b : Bool} (hl : s.look (s.val x) = some (.leaf (.bool b))) : v = .bool b := by
  obtain ⟨_, _, _, h2, _⟩ := look_leaf h hx hl
  cases h2; rfl
theorem look_str (h : Rel arg W I O s vs w) (hx : XV vs x v) {b : ByteArray} (hl : s.look (s.val x) = some (.leaf (.str b))) : v = .string b := by
  obtain ⟨_, _, _, h2, _⟩ := look_leaf h hx hl
  cases h2; rfl
theorem look_sl (h : Rel arg W I O s vs w) (hx : XV vs x v) {o : Bool} {sz : Nat} {rows : List (List L)} (hl : s.look (s.val x) = some (.leaf (.sl o sz rows))) : ∃ a cap, v = .slice a rows.length cap := by
  obtain ⟨_, _, _, h2, _⟩ := look_leaf h hx hl
  cases h2 <;> exact ⟨_, _, rfl⟩
theorem int_look {k : IntKind} {n : Int} (h : s.int x = some (k, n)) : s.look (s.val x) = some (.leaf (.int k n)) := by
  unfold RS.int at h
  split at h
  · rename_i k' n' hl
    simp only [Option.some.injEq, Prod.mk.injEq] at h
    obtain ⟨rfl, rfl⟩ := h
    exact hl
  · cases h
theorem int_val (h : Rel arg W I O s vs w) (hx : XV vs x v) {k : IntKind} {n : Int} (hl : s.int x = some (k, n)) : v = .int k n := look_int h hx (int_look hl)

/-- The operation on two leaves is the model's. -/
theorem vbin_run {op : BinOp} {a b r : L} {va vb : Value} {S S' : Nat → Prop} {t : TypeId} {x y : Operand} (ha : RepL w I a va S) (hb : RepL w I b vb S') (h : vbin op a b = some r) :
    ∃ v, (do eqGuard op t x y va vb; binOp op t va vb : Sem Value).run P w = .ok v w ∧ v.oneCell' = true ∧ RepL w I r v (fun _ => False) := by
  have hg : ∀ {u v : Value}, (∀ c, u ≠ .agg c) → u ≠ .nilIface → (eqGuard op t x y u v).run P w = .ok () w := by
    intro u v h1 h2
    cases u <;> first | exact absurd rfl (h1 _) | exact absurd rfl h2 | (cases op <;> cases v <;> rfl)
  cases a with
  | int k m =>
    cases b with
    | int k' n =>
      cases ha; cases hb
      rw [Sem.run_bind, hg (by intro c h; cases h) (by intro h; cases h), Result.andThen_ok]
      unfold vbin at h
      cases op <;> simp only at h <;> (try split at h) <;> (try split at h) <;> (try cases h) <;> (try subst_vars) <;>
        first
        | (refine ⟨_, ?_, rfl, .int ..⟩; simp_all [binOp, Op.shift, Op.intArith, Op.intDiv, Op.intBits, Op.intCmp]; done)
        | (refine ⟨_, ?_, rfl, .bool ..⟩; simp_all [binOp, Op.shift, Op.intArith, Op.intDiv, Op.intBits, Op.intCmp]; done)
        | (refine ⟨_, ?_, rfl, .int ..⟩; simp_all [binOp, Op.shift]; intro h; omega)
        | skip
    | _ => cases op <;> cases h
  | str m =>
    cases b with
    | str n =>
      cases ha; cases hb
      rw [Sem.run_bind, hg (by intro c h; cases h) (by intro h; cases h), Result.andThen_ok]
      unfold vbin at h
      cases op <;> simp only at h <;> (try split at h) <;> (try cases h) <;>
        first
        | (refine ⟨_, ?_, rfl, .str ..⟩; simp_all [binOp, Op.stringOp]; done)
        | (refine ⟨_, ?_, rfl, .bool ..⟩; simp_all [binOp, Op.stringOp]; done)
        | skip
    | _ => cases op <;> cases h
  | _ => cases op <;> cases h

end Go.VS
