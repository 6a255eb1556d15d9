/- Operations that turn no place: each leads from slots that stand for the frame to slots that do. -/
import Derived.Test.YtdoelepflcaijaaEngComp
namespace Go.VS
open Go Go.RowKit
set_option linter.unusedSimpArgs false
set_option linter.unusedVariables false

variable {P : Program} {arg : Tmp → Value} {W w w' : World} {I I' : Nat → Prop} {O O' : Tmp → Nat → Prop} {s s' : RS} {a : Act} {K : Act → World → Prop} {Q : Exit → Act → World → Prop} {G : Sigs} {F : Fns}

/-- What is to be shown of an operation. -/
def Sound1 (P : Program) (arg : Tmp → Value) (W : World) (G : Sigs) (F : Fns) (o : Oper) (vo : VOp) : Prop :=
  ∀ (I : Nat → Prop) (O : Tmp → Nat → Prop) (s s' : RS) (a : Act) (w : World) (K : Act → World → Prop) (Q : Exit → Act → World → Prop),
    Rel arg W I O s a.tmps w → (∀ d, vo.dst = some d → d < a.tmps.size) → vop G F s vo = some s' → (∀ a' w', Good arg W I O w a s' vo.dst a' w' → K a' w') → o.wp P a w K Q

theorem rel_ptr (h : Rel arg W I O s a.tmps w) {t r : Tmp} {p : List (Nat × Nat)} {o : Nat} (ht : s.e.get t = .ptr r p o) : RepA arg w I s a.tmps (.ptr r p o) (a.tmps.getD t undef) (fun _ => False) := by
  have := h.rep t
  rw [ht] at this
  exact this
theorem ptr_root (h : Rel arg W I O s a.tmps w) {t r : Tmp} {p : List (Nat × Nat)} {o : Nat} (ht : s.e.get t = .ptr r p o) (hc : cleanP s.d r p = true) : ∃ c, s.e.get r = .v c := by
  obtain ⟨_, _, _, ⟨c, h1, _⟩, _⟩ := rel_ptr h ht hc
  exact ⟨c, h1⟩
theorem rel_ld (h : Rel arg W I O s a.tmps w) {t r : Tmp} {p : List (Nat × Nat)} {o n : Nat} {g : Bool} (ht : s.e.get t = .ld r p o n g) : RepA arg w I s a.tmps (.ld r p o n g) (a.tmps.getD t undef) (fun _ => False) := by
  have := h.rep t
  rw [ht] at this
  exact this
theorem rel_iptr (h : Rel arg W I O s a.tmps w) {t : Tmp} {row : List L} {o : Nat} (ht : s.e.get t = .iptr row o) : RepA arg w I s a.tmps (.iptr row o) (a.tmps.getD t undef) (fun _ => False) := by
  have := h.rep t
  rw [ht] at this
  exact this

/-- The row of a whole root as a pointer or a loaded value. -/
theorem root_ld (h : Rel arg W I O s a.tmps w) {t : Tmp} {l : L} (ht : s.e.get t = .v (.leaf l)) : RepA arg w I s a.tmps (.ld t [] 0 1 false) (a.tmps.getD t undef) (fun _ => False) := by
  intro _
  refine ⟨_, _, ⟨_, ht, .nil ..⟩, by simp [CV.row], fun h => (by cases h), fun _ => ⟨rfl, rfl⟩⟩
theorem root_ldA (h : Rel arg W I O s a.tmps w) {t : Tmp} {ls : List L} (ht : s.e.get t = .v (.agg ls)) : RepA arg w I s a.tmps (.ld t [] 0 ls.length true) (a.tmps.getD t undef) (fun _ => False) := by
  intro _
  have hr := h.rep t
  rw [ht] at hr
  obtain ⟨cs, hv, h2, _⟩ := hr
  refine ⟨_, _, ⟨_, ht, .nil ..⟩, by simp [CV.row], fun _ => ⟨cs, hv, h2, fun j _ => ?_⟩, fun h => (by cases h)⟩
  rw [hv, Nat.zero_add]
  rfl
theorem root_ptr (h : Rel arg W I O s a.tmps w) {t : Tmp} {c : CV} (ht : s.e.get t = .v c) (hc : (∃ row, c = .box row) ∨ ∃ t0 row, c = .pbox t0 row) (off : Nat) :
    ∃ b, a.tmps.getD t undef = .pointer (some ⟨b, 0, none⟩) ∧ RepA arg w I s a.tmps (.ptr t [] off) (.pointer (some ⟨b, off, none⟩)) (fun _ => False) := by
  have hr := h.rep t
  rw [ht] at hr
  rcases hc with ⟨row, rfl⟩ | ⟨t0, row, rfl⟩
  · obtain ⟨b, cs, e, hv, _⟩ := hr
    refine ⟨b, hv, fun _ => ⟨b, 0, row, ⟨_, ht, ?_⟩, by rw [Nat.zero_add]⟩⟩
    rw [hv]
    exact .nil ..
  · obtain ⟨b, cs, e, hv, _⟩ := hr
    refine ⟨b, hv, fun _ => ⟨b, 0, row, ⟨_, ht, ?_⟩, by rw [Nat.zero_add]⟩⟩
    rw [hv]
    exact .nil ..

theorem exec_move {o : Oper} {x : Operand} (ho : o.op = .move x ∨ o.op = .assign x) : (execOp a.eval o).run P w = .ok (.value (a.eval x)) w := by
  rcases ho with ho | ho <;> simp [execOp, ho]

/-- Behind a take: what has been taken goes into a slot. -/
theorem good_takenA {d : Tmp} {av : AV} {S : Nat → Prop} {v : Value} (h : Rel arg W I O s a.tmps w) (hd : d < a.tmps.size) (hc : RepA arg w I s' a.tmps av v S) (hnp : ∀ r p o, av ≠ .ptr r p o) (h' : Rel arg W I O' s' a.tmps w) (ho : Out O O' S) :
    Good arg W I O w a (s'.put d av) (some d) (a.put (some d) v) w := by
  have hst := h'.step (d := d) (av := av) (v := v) (S := S) hd (Below.refl w.heap.size w) (fun b hb => by
    obtain ⟨t, ht⟩ := ho.1 b hb
    exact ⟨h.olt t b ht, h.notI t b ht, fun t' _ h' => ho.2.2 t' b h' hb⟩) hc (fun r p o e => absurd e (hnp r p o))
  refine ⟨I, _, rfl, put_size .., hst, ⟨fun _ h => h, Nat.le_refl _, fun _ _ _ => rfl, fun b hb => ?_⟩, fun t ht => ?_⟩
  · rcases hb with ⟨t, hb⟩ | hb
    · by_cases ht : t = d
      · simp only [ht, if_true] at hb; exact .inl (ho.1 b hb)
      · simp only [ht, if_false] at hb; exact .inl ⟨t, ho.2.1 t b hb⟩
    · exact .inr (.inl hb)
  · simp only [Act.put]
    rw [getD_set hd, if_neg (fun e => ht (by rw [e]))]
theorem good_taken {d : Tmp} {c : CV} {S : Nat → Prop} {v : Value} (h : Rel arg W I O s a.tmps w) (hd : d < a.tmps.size) (hc : RepC arg w I c v S) (h' : Rel arg W I O' s' a.tmps w) (ho : Out O O' S) :
    Good arg W I O w a (s'.put d (.v c)) (some d) (a.put (some d) v) w := good_takenA h hd hc (fun _ _ _ h => by cases h) h' ho

theorem sound_mv {o : Oper} {d : Tmp} {x : Operand} {X : VS.X} (ho : o.op = .move x) (hd : o.dst = some d) (hx : compX P o.type x = some X) : Sound1 P arg W G F o (.mv d X) := by
  intro I O s s' a w K Q h hdl hv hk
  replace hdl := hdl d rfl
  have hX := compX_val hx a
  refine oper_value (exec_move (.inl ho)) (hk _ _ ?_)
  rw [hd]
  show Good arg W I O w a s' (some d) _ _
  simp only [vop] at hv
  cases hval : s.val X with
  | v c =>
    rw [hval] at hv
    simp only at hv
    split at hv
    · rename_i hsh
      obtain rfl := (Option.some.inj hv).symm
      obtain ⟨t, S, h1, h2⟩ := h.look hX (c := c) (by rw [hval]; rfl)
      exact good_free h hdl (Below.refl _ _) (h1.unowned hsh) (fun _ _ _ h => by cases h)
    · cases X with
      | c c0 =>
        obtain rfl := (Option.some.inj hv).symm
        simp only [RS.val, AV.v.injEq] at hval
        subst hval
        exact good_free h hdl (Below.refl _ _) (hX arg w I) (fun _ _ _ h => by cases h)
      | t t =>
        simp only [XV] at hX
        rw [hX]
        simp only [RS.val] at hval
        cases c with
        | leaf l =>
          obtain rfl := (Option.some.inj hv).symm
          exact good_free h hdl (Below.refl _ _) (root_ld h hval) (fun _ _ _ h => by cases h)
        | agg ls =>
          obtain rfl := (Option.some.inj hv).symm
          exact good_free h hdl (Below.refl _ _) (root_ldA h hval) (fun _ _ _ h => by cases h)
        | box row =>
          obtain rfl := (Option.some.inj hv).symm
          obtain ⟨b, h1, h2⟩ := root_ptr h hval (.inl ⟨_, rfl⟩) 0
          rw [h1]
          exact good_free h hdl (Below.refl _ _) h2 (fun r p o he _ => by cases he; exact ⟨_, hval⟩)
        | pbox t0 row =>
          obtain rfl := (Option.some.inj hv).symm
          obtain ⟨b, h1, h2⟩ := root_ptr h hval (.inr ⟨_, _, rfl⟩) 0
          rw [h1]
          exact good_free h hdl (Below.refl _ _) h2 (fun r p o he _ => by cases he; exact ⟨_, hval⟩)
        | gone => cases hv
  | bad => rw [hval] at hv; cases hv
  | tup cs =>
    cases X with
    | c c0 => cases hval
    | t t =>
      rw [hval] at hv
      simp only at hv
      split at hv
      · cases hv
      · rename_i hdt
        obtain rfl := (Option.some.inj hv).symm
        simp only [RS.val] at hval
        simp only [XV] at hX
        rw [hX]
        have hr := h.rep t
        rw [hval] at hr
        refine good_takenA (S := O t) h hdl hr (fun _ _ _ h => by cases h) (h.strike t _ rfl) ⟨fun b hb => ⟨t, hb⟩, fun t' b hb => ?_, fun t' b hb hb' => ?_⟩
        · by_cases ht : t' = t
          · simp only [ht, if_true] at hb
          · simp only [ht, if_false] at hb; exact hb
        · by_cases ht : t' = t
          · simp only [ht, if_true] at hb
          · simp only [ht, if_false] at hb; exact ht (h.disj t' t b hb hb')
  | un =>
    cases X with
    | c c0 => cases hval
    | t t =>
      rw [hval] at hv
      obtain rfl := (Option.some.inj hv).symm
      simp only [RS.val] at hval
      simp only [XV] at hX
      rw [hX]
      have := h.rep t
      rw [hval] at this
      exact good_free h hdl (Below.refl _ _) this (fun _ _ _ h => by cases h)
  | ptr r p of =>
    cases X with
    | c c0 => cases hval
    | t t =>
      rw [hval] at hv
      obtain rfl := (Option.some.inj hv).symm
      simp only [RS.val] at hval
      simp only [XV] at hX
      rw [hX]
      exact good_free h hdl (Below.refl _ _) (rel_ptr h hval) (fun r p o he hc => by cases he; exact ptr_root h hval hc)
  | iptr row of =>
    cases X with
    | c c0 => cases hval
    | t t =>
      rw [hval] at hv
      obtain rfl := (Option.some.inj hv).symm
      simp only [RS.val] at hval
      simp only [XV] at hX
      rw [hX]
      exact good_free h hdl (Below.refl _ _) (rel_iptr h hval) (fun _ _ _ h => by cases h)
  | ld r p of n g =>
    cases X with
    | c c0 => cases hval
    | t t =>
      rw [hval] at hv
      obtain rfl := (Option.some.inj hv).symm
      simp only [RS.val] at hval
      simp only [XV] at hX
      rw [hX]
      exact good_free h hdl (Below.refl _ _) (rel_ld h hval) (fun _ _ _ h => by cases h)

theorem sound_asg {o : Oper} {d : Tmp} {x : Operand} {X : VS.X} (ho : o.op = .assign x) (hd : o.dst = some d) (hx : compX P o.type x = some X) : Sound1 P arg W G F o (.asg d X) := by
  intro I O s s' a w K Q h hdl hv hk
  replace hdl := hdl d rfl
  have hX := compX_val hx a
  refine oper_value (exec_move (.inr ho)) (hk _ _ ?_)
  rw [hd]
  show Good arg W I O w a s' (some d) _ _
  simp only [vop] at hv
  have htake : (match s.take X with | some (c, s') => some (s'.put d (.v c)) | none => none) = some s' → Good arg W I O w a s' (some d) (a.put (some d) (a.eval x)) w := by
    intro hv
    split at hv
    · rename_i c s1 ht
      obtain rfl := (Option.some.inj hv).symm
      obtain ⟨S, O', h1, h2, h3⟩ := h.take hX ht
      exact good_taken h hdl h1 h2 h3
    · cases hv
  cases hval : s.val X with
  | ptr r p of =>
    cases X with
    | c c0 => cases hval
    | t t =>
      rw [hval] at hv
      obtain rfl := (Option.some.inj hv).symm
      simp only [RS.val] at hval
      simp only [XV] at hX
      rw [hX]
      exact good_free h hdl (Below.refl _ _) (rel_ptr h hval) (fun r p o he hc => by cases he; exact ptr_root h hval hc)
  | iptr row of =>
    cases X with
    | c c0 => cases hval
    | t t =>
      rw [hval] at hv
      obtain rfl := (Option.some.inj hv).symm
      simp only [RS.val] at hval
      simp only [XV] at hX
      rw [hX]
      exact good_free h hdl (Below.refl _ _) (rel_iptr h hval) (fun _ _ _ h => by cases h)
  | _ => rw [hval] at hv; exact htake hv

theorem sound_bad {o : Oper} {d : Tmp} {x : Operand} (ho : o.op = .assign x) (hd : o.dst = some d) : Sound1 P arg W G F o (.bad d) := by
  intro I O s s' a w K Q h hdl hv hk
  replace hdl := hdl d rfl
  refine oper_value (exec_move (.inr ho)) (hk _ _ ?_)
  rw [hd]
  obtain rfl := (Option.some.inj hv).symm
  exact good_free h hdl (Below.refl _ _) trivial (fun _ _ _ h => by cases h)

theorem sound_pick {o : Oper} {d : Tmp} {c x y : Operand} {Xc Xx Xy : VS.X} (ho : o.op = .pick c x y) (hd : o.dst = some d) (hc : compX P 0 c = some Xc) (hx : compX P o.type x = some Xx) (hy : compX P o.type y = some Xy) :
    Sound1 P arg W G F o (.pick d Xc Xx Xy) := by
  intro I O s s' a w K Q h hdl hv hk
  replace hdl := hdl d rfl
  simp only [vop] at hv
  split at hv
  · rename_i t ht
    have hcv := look_bool h (compX_val hc a) ht
    split at hv
    · rename_i v hlv
      split at hv
      · rename_i hsh
        obtain rfl := (Option.some.inj hv).symm
        have hrun : (execOp a.eval o).run P w = .ok (.value (if t then a.eval x else a.eval y)) w := by
          simp [execOp, ho, hcv, asBool]
        refine oper_value hrun (hk _ _ ?_)
        rw [hd]
        cases t with
        | true =>
          obtain ⟨_, _, h1, _⟩ := h.look (compX_val hx a) hlv
          exact good_free h hdl (Below.refl _ _) (h1.unowned hsh) (fun _ _ _ h => by cases h)
        | false =>
          obtain ⟨_, _, h1, _⟩ := h.look (compX_val hy a) hlv
          exact good_free h hdl (Below.refl _ _) (h1.unowned hsh) (fun _ _ _ h => by cases h)
      · cases hv
    · cases hv
  · cases hv

theorem sound_bin {o : Oper} {d : Tmp} {op : BinOp} {t ty : TypeId} {x y : Operand} {X Y : VS.X} (ho : o.op = .binOp op t x y ty) (hd : o.dst = some d) (hx : compX P t x = some X) (hy : compX P t y = some Y) :
    Sound1 P arg W G F o (.bin d op X Y) := by
  intro I O s s' a w K Q h hdl hv hk
  replace hdl := hdl d rfl
  simp only [vop] at hv
  split at hv
  · rename_i la lb h1 h2
    split at hv
    · rename_i r hr
      obtain rfl := (Option.some.inj hv).symm
      obtain ⟨_, _, _, ra, _⟩ := look_leaf h (compX_val hx a) h1
      obtain ⟨_, _, _, rb, _⟩ := look_leaf h (compX_val hy a) h2
      obtain ⟨v, e1, e2, e3⟩ := vbin_run (P := P) (t := t) (x := x) (y := y) ra rb hr
      have hrun : (execOp a.eval o).run P w = .ok (.value v) w := by
        simp only [execOp, ho]
        rw [Sem.run_bind, e1]
        rfl
      refine oper_value hrun (hk _ _ ?_)
      rw [hd]
      exact good_free h hdl (Below.refl _ _) ⟨e2, e3⟩ (fun _ _ _ h => by cases h)
    · cases hv
  · cases hv

theorem sound_eqb {o : Oper} {d : Tmp} {op : BinOp} {neg : Bool} {t ty : TypeId} {x y : Operand} {X Y : VS.X} (ho : o.op = .binOp op t x y ty) (hd : o.dst = some d) (hx : compX P t x = some X) (hy : compX P t y = some Y)
    (ht : P.underlying t = some .bool) (hop : op = if neg then .neq else .eql) : Sound1 P arg W G F o (.eqb d neg X Y) := by
  intro I O s s' a w K Q h hdl hv hk
  replace hdl := hdl d rfl
  simp only [vop] at hv
  split at hv
  · rename_i p q h1 h2
    obtain rfl := (Option.some.inj hv).symm
    have hp := look_bool h (compX_val hx a) h1
    have hq := look_bool h (compX_val hy a) h2
    have heq : (Op.equal t (.bool p) (.bool q)).run P w = .ok (p == q) w := by
      have hu : (underlying t).run P w = .ok .bool w := by simp [underlying, ht]
      unfold Op.equal Op.maxDepth
      rw [show (10000 : Nat) = 9999 + 1 from rfl]
      unfold Op.equalIn
      rw [Sem.run_bind, hu]
      rfl
    have hrun : (execOp a.eval o).run P w = .ok (.value (.bool (if neg then !(p == q) else (p == q)))) w := by
      simp only [execOp, ho, hp, hq]
      subst hop
      cases neg
      · simp only [Bool.false_eq_true, if_false]
        rw [Sem.run_bind, Sem.run_bind, show (eqGuard .eql t x y (.bool p) (.bool q)).run P w = .ok () w from rfl, Result.andThen_ok]
        simp only [binOp]
        rw [Sem.run_bind, heq]
        rfl
      · simp only [if_true]
        rw [Sem.run_bind, Sem.run_bind, show (eqGuard .neq t x y (.bool p) (.bool q)).run P w = .ok () w from rfl, Result.andThen_ok]
        simp only [binOp]
        rw [Sem.run_bind, heq]
        rfl
    refine oper_value hrun (hk _ _ ?_)
    rw [hd]
    exact good_bool h hdl
  · cases hv

theorem sound_un {o : Oper} {d : Tmp} {op : UnOp} {t : TypeId} {x : Operand} {X : VS.X} (ho : o.op = .unOp op t x) (hd : o.dst = some d) (hx : compX P 0 x = some X) : Sound1 P arg W G F o (.un d op X) := by
  intro I O s s' a w K Q h hdl hv hk
  replace hdl := hdl d rfl
  simp only [vop] at hv
  split at hv
  · rename_i k n hl
    have hxv := look_int h (compX_val hx a) hl
    cases op <;> simp only at hv <;> try (cases hv; done)
    obtain rfl := (Option.some.inj hv).symm
    have hrun : (execOp a.eval o).run P w = .ok (.value (.int k (k.wrap (0 - n)))) w := by
      simp [execOp, ho, hxv, Op.unary, Op.intArith]
    refine oper_value hrun (hk _ _ ?_)
    rw [hd]
    exact good_int h hdl
  · rename_i b hl
    have hxv := look_bool h (compX_val hx a) hl
    cases op <;> simp only at hv <;> try (cases hv; done)
    obtain rfl := (Option.some.inj hv).symm
    have hrun : (execOp a.eval o).run P w = .ok (.value (.bool (!b))) w := by
      simp [execOp, ho, hxv, Op.unary]
    refine oper_value hrun (hk _ _ ?_)
    rw [hd]
    exact good_bool h hdl
  · cases hv

theorem sound_conv {o : Oper} {d : Tmp} {src dst : TypeId} {k j : IntKind} {x : Operand} {X : VS.X} (ho : o.op = .convert src dst x) (hd : o.dst = some d) (hs : P.underlying src = some (.int j)) (hdst : P.underlying dst = some (.int k)) (hx : compX P src x = some X) :
    Sound1 P arg W G F o (.conv d k X) := by
  intro I O s s' a w K Q h hdl hv hk
  replace hdl := hdl d rfl
  simp only [vop] at hv
  split at hv
  · rename_i k' n hl
    obtain rfl := (Option.some.inj hv).symm
    have hxv := int_val h (compX_val hx a) hl
    have hrun : (execOp a.eval o).run P w = .ok (.value (.int k (k.wrap n))) w := by
      simp [execOp, ho, hxv, convert, underlying, hs, hdst, Conv.intToInt]
    refine oper_value hrun (hk _ _ ?_)
    rw [hd]
    exact good_int h hdl
  · cases hv

theorem sound_min {o : Oper} {d : Tmp} {ts : Array TypeId} {x y : Operand} {X Y : VS.X} (ho : o.op = .call { callee := .builtin .min, args := #[x, y], argTypes := ts }) (hd : o.dst = some d) (hx : compX P 0 x = some X) (hy : compX P 0 y = some Y) :
    Sound1 P arg W G F o (.min d X Y) := by
  intro I O s s' a w K Q h hdl hv hk
  replace hdl := hdl d rfl
  simp only [vop] at hv
  split at hv
  · rename_i k p k' q h1 h2
    obtain rfl := (Option.some.inj hv).symm
    have hp := int_val h (compX_val hx a) h1
    have hq := int_val h (compX_val hy a) h2
    have hrun : (execOp a.eval o).run P w = .ok (.value (.int k (if q < p then q else p))) w := by
      simp [execOp, ho, resolve, invoke, builtin, hp, hq, Builtin.min_, Builtin.min2]
    refine oper_value hrun (hk _ _ ?_)
    rw [hd]
    exact good_int h hdl
  · cases hv

end Go.VS
