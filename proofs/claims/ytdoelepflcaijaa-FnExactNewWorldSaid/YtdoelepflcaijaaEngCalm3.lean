/- Operations, third part: texts, lengths, new boxes. -/
import Derived.Test.YtdoelepflcaijaaEngCalm2
namespace Go.VS
open Go Go.RowKit
set_option linter.unusedSimpArgs false
set_option linter.unusedVariables false

variable {P : Program} {arg : Tmp → Value} {W w w' : World} {I I' : Nat → Prop} {O O' : Tmp → Nat → Prop} {s s' : RS} {a : Act} {K : Act → World → Prop} {Q : Exit → Act → World → Prop} {G : Sigs} {F : Fns}

theorem bytes_get (b : ByteArray) (i : Nat) : b[i]? = b.data[i]? := by
  by_cases h : i < b.size
  · rw [getElem?_pos b i h, Array.getElem?_eq_getElem h]
    rfl
  · rw [getElem?_neg b i h, Array.getElem?_eq_none (Nat.le_of_not_lt h)]

theorem sound_byte {o : Oper} {d : Tmp} {t : TypeId} {x i : Operand} {X Y : VS.X} (ho : o.op = .index t x i) (hd : o.dst = some d) (hx : compX P t x = some X) (hi : compX P 0 i = some Y) (ht : P.underlying t = some .string) :
    Sound1 P arg W G F o (.byte d X Y) := by
  intro I O s s' a w K Q h hdl hv hk
  replace hdl := hdl d rfl
  simp only [vop] at hv
  split at hv
  · rename_i k n b h1 h2
    have hn := int_val h (compX_val hi a) h1
    have hb := look_str h (compX_val hx a) h2
    split at hv
    · rename_i h0
      split at hv
      · rename_i u hu
        obtain rfl := (Option.some.inj hv).symm
        have hrun : (execOp a.eval o).run P w = .ok (.value (.int .u8 u.toNat)) w := by
          simp only [execOp, ho, hn, hb, Instr.index, asIntOf]
          simp [run_underlying ht, h0, bytes_get, hu]
        refine oper_value hrun (hk _ _ ?_)
        rw [hd]
        exact good_int h hdl
      · cases hv
    · cases hv
  · cases hv

theorem sound_len {o : Oper} {d : Tmp} {t : TypeId} {x : Operand} {X : VS.X} {str : Bool} (ho : o.op = .call { callee := .builtin .len, args := #[x], argTypes := #[t] }) (hd : o.dst = some d) (hx : compX P t x = some X)
    (ht : if str then P.underlying t = some .string else ∃ e, P.underlying t = some (.slice e)) : Sound1 P arg W G F o (.len d X str) := by
  intro I O s s' a w K Q h hdl hv hk
  replace hdl := hdl d rfl
  simp only [vop] at hv
  split at hv
  · rename_i own sz rows hl
    cases str with
    | true => cases hv
    | false =>
      obtain rfl := (Option.some.inj hv).symm
      obtain ⟨ad, cap, hval⟩ := look_sl h (compX_val hx a) hl
      obtain ⟨e, ht⟩ := ht
      have hrun : (execOp a.eval o).run P w = .ok (.value (.int .i64 rows.length)) w := by
        simp [execOp, ho, hval, resolve, invoke, builtin, Builtin.len_, run_underlying ht, goInt]
      refine oper_value hrun (hk _ _ ?_)
      rw [hd]
      exact good_int h hdl
  · rename_i b hl
    cases str with
    | false => cases hv
    | true =>
      obtain rfl := (Option.some.inj hv).symm
      have hval := look_str h (compX_val hx a) hl
      have ht : P.underlying t = some .string := ht
      have hrun : (execOp a.eval o).run P w = .ok (.value (.int .i64 b.size)) w := by
        simp [execOp, ho, hval, resolve, invoke, builtin, Builtin.len_, run_underlying ht, goInt]
      refine oper_value hrun (hk _ _ ?_)
      rw [hd]
      exact good_int h hdl
  · cases hv

/-- A bound of a slice expression, as the model computes it. -/
theorem bound_val (h : Rel arg W I O s a.tmps w) {lo : Option Operand} {X : Option VS.X} {n dflt : Nat} (hx : lo.mapM (compX P 0) = some X) (hb : s.bound dflt X = some n) :
    (lo = none ∧ n = dflt) ∨ ∃ x k, lo = some x ∧ a.eval x = .int k (n : Int) := by
  cases lo with
  | none =>
    simp at hx
    subst hx
    simp [RS.bound] at hb
    exact .inl ⟨rfl, hb.symm⟩
  | some x =>
    simp only [Option.mapM_some, Option.map_eq_map, Option.map_eq_some_iff] at hx
    obtain ⟨x', hx', rfl⟩ := hx
    simp only [RS.bound] at hb
    split at hb
    · rename_i k m hm
      split at hb
      · rename_i h0
        have hv := int_val h (compX_val hx' a) hm
        obtain rfl := (Option.some.inj hb).symm
        exact .inr ⟨x, k, rfl, by rw [hv, Int.toNat_of_nonneg h0]⟩
      · cases hb
    · cases hb

theorem run_bounds {isSlice : Bool} {len cap l h : Nat} {lo hi : Option Value} (hlo : (lo = none ∧ l = 0) ∨ ∃ k, lo = some (.int k (l : Int))) (hhi : (hi = none ∧ h = len) ∨ ∃ k, hi = some (.int k (h : Int))) (h1 : l ≤ h) (h2 : h ≤ cap) :
    (Instr.sliceBounds isSlice len cap lo hi none).run P w = .ok (l, h, cap) w := by
  have e1 : ((l : Int) ≤ (h : Int)) := by omega
  have e2 : ((h : Int) ≤ (cap : Int)) := by omega
  rcases hlo with ⟨rfl, rfl⟩ | ⟨k, rfl⟩ <;> rcases hhi with ⟨rfl, rfl⟩ | ⟨k', rfl⟩ <;>
    simp [Instr.sliceBounds, Instr.sliceBound, asIntOf, h1, h2]

theorem sound_subStr {o : Oper} {d : Tmp} {t : TypeId} {x : Operand} {lo hi : Option Operand} {X : VS.X} {L H : Option VS.X} (ho : o.op = .slice t x lo hi none) (hd : o.dst = some d) (hx : compX P t x = some X)
    (hl : lo.mapM (compX P 0) = some L) (hh : hi.mapM (compX P 0) = some H) (ht : P.underlying t = some .string) : Sound1 P arg W G F o (.subStr d X L H) := by
  intro I O s s' a w K Q h hdl hv hk
  replace hdl := hdl d rfl
  simp only [vop] at hv
  split at hv
  · rename_i b hlk
    have hval := look_str h (compX_val hx a) hlk
    split at hv
    · rename_i l hi' h1 h2
      split at hv
      · rename_i hle
        obtain rfl := (Option.some.inj hv).symm
        have hb := run_bounds (P := P) (w := w) (isSlice := false) (len := b.size) (cap := b.size) (l := l) (h := hi') (lo := lo.map a.eval) (hi := hi.map a.eval)
          (by rcases bound_val h hl h1 with ⟨rfl, rfl⟩ | ⟨x, k, rfl, e⟩
              · exact .inl ⟨rfl, rfl⟩
              · exact .inr ⟨k, by simp [e]⟩)
          (by rcases bound_val h hh h2 with ⟨rfl, rfl⟩ | ⟨x, k, rfl, e⟩
              · exact .inl ⟨rfl, rfl⟩
              · exact .inr ⟨k, by simp [e]⟩) hle.1 hle.2
        have hrun : (execOp a.eval o).run P w = .ok (.value (.string (b.extract l hi'))) w := by
          simp only [execOp, ho, hval, Instr.sliceAt, Option.map_none]
          rw [Sem.run_bind, Sem.run_bind, run_underlying ht, Result.andThen_ok]
          simp only [Instr.slice]
          rw [Sem.run_bind, run_underlying ht, Result.andThen_ok]
          simp only [Option.isSome_none, Bool.false_eq_true, if_false]
          simp only [Sem.run_bind, hb, Result.andThen_ok, Sem.run_pure]
        refine oper_value hrun (hk _ _ ?_)
        rw [hd]
        exact good_str h hdl
      · cases hv
    · cases hv
  · cases hv

theorem sound_ext {o : Oper} {d : Tmp} {x : Operand} {X : VS.X} {i : Nat} (ho : o.op = .extract x i) (hd : o.dst = some d) (hx : compX P 0 x = some X) : Sound1 P arg W G F o (.ext d X i) := by
  intro I O s s' a w K Q h hdl hv hk
  replace hdl := hdl d rfl
  have hX := compX_val hx a
  simp only [vop] at hv
  cases X with
  | c c => cases hv
  | t t =>
    simp only [XV] at hX
    simp only at hv
    split at hv
    · rename_i cs hval
      split at hv
      · rename_i c hc
        have hr := h.rep t
        rw [hval] at hr
        obtain ⟨us, h1, h2, D, d1, d2, d3⟩ := hr
        obtain ⟨u, u1, u2⟩ := d3 i c hc
        have hrun : (execOp a.eval o).run P w = .ok (.value u) w := by
          simp [execOp, ho, hX, h1, Instr.extract, u1]
        refine oper_value hrun (hk _ _ ?_)
        rw [hd]
        split at hv
        · rename_i hsh
          obtain rfl := (Option.some.inj hv).symm
          exact good_free h hdl (Below.refl _ _) (u2.unowned hsh) (fun _ _ _ h => by cases h)
        · obtain rfl := (Option.some.inj hv).symm
          -- the component is taken out of the tuple
          let O' : Tmp → Nat → Prop := fun t' b => if t' = t then (O t b ∧ ¬ D i b) else O t' b
          have h' : Rel arg W I O' (s.put t (.tup (cs.set i .gone))) a.tmps w := by
            refine ⟨h.bel, h.old, h.ilt, fun t' b hb => ?_, fun t' b hb => ?_, fun t1 t2 b e1 e2 => ?_, fun t' => ?_⟩
            · simp only [O'] at hb; split at hb
              · exact h.olt t b hb.1
              · exact h.olt t' b hb
            · simp only [O'] at hb; split at hb
              · exact h.notI t b hb.1
              · exact h.notI t' b hb
            · have e1' : O t1 b := by simp only [O'] at e1; split at e1 <;> rename_i ht <;> first | (rw [ht]; exact e1.1) | exact e1
              have e2' : O t2 b := by simp only [O'] at e2; split at e2 <;> rename_i ht <;> first | (rw [ht]; exact e2.1) | exact e2
              exact h.disj t1 t2 b e1' e2'
            · have hg : (s.put t (.tup (cs.set i .gone))).e.get t' = if t' = t then .tup (cs.set i .gone) else s.e.get t' := by simp only [RS.put]; exact get_put ..
              have hpd : (s.put t (.tup (cs.set i .gone))).d = s.d := by simp only [RS.put, hval, AV.isV]; rfl
              rw [hg]
              by_cases ht : t' = t
              · subst ht
                simp only [if_true, O']
                refine ⟨us, h1, by rw [h2, List.length_set], fun j x => j ≠ i ∧ D j x, fun j x hx => ⟨d1 j x hx.2, fun hi => hx.1 (d2 j i x hx.2 hi)⟩, fun j j' x hx hx' => d2 j j' x hx.2 hx'.2, fun j c' hc' => ?_⟩
                by_cases hj : j = i
                · subst hj
                  rw [List.getElem?_set_self (List.getElem?_eq_some_iff.1 hc).1] at hc'
                  obtain rfl := (Option.some.inj hc').symm
                  exact ⟨u, u1, trivial⟩
                · rw [List.getElem?_set_ne (fun e => hj e.symm)] at hc'
                  obtain ⟨u', e1, e2⟩ := d3 j c' hc'
                  exact ⟨u', e1, e2.mono (fun _ h => h) fun x hx => ⟨hj, hx⟩⟩
              · simp only [ht, if_false, O']
                have hr := h.rep t'
                have hrt : ∀ r p B row, Roots w s.e a.tmps r p B row → Roots w (s.put t (.tup (cs.set i .gone))).e a.tmps r p B row := fun r p B row ⟨c, g1, g2⟩ => by
                  have hne : r ≠ t := fun e => by rw [e, hval] at g1; cases g1
                  exact ⟨c, by simp only [RS.put]; rw [get_put, if_neg hne]; exact g1, g2⟩
                cases hav : s.e.get t' with
                | ptr r p of =>
                  rw [hav] at hr
                  intro hc
                  rw [hpd] at hc
                  obtain ⟨b, o', row', k1, k2⟩ := hr hc
                  exact ⟨b, o', row', hrt _ _ _ _ k1, k2⟩
                | ld r p of n g =>
                  rw [hav] at hr
                  intro hc
                  rw [hpd] at hc
                  obtain ⟨B, row', k1, k2⟩ := hr hc
                  exact ⟨B, row', hrt _ _ _ _ k1, k2⟩
                | _ => rw [hav] at hr; exact hr
          exact good_taken (O' := O') h hdl u2 h' ⟨fun b hb => ⟨t, d1 i b hb⟩, fun t' b hb => (by simp only [O'] at hb; split at hb <;> rename_i ht <;> first | (rw [ht]; exact hb.1) | exact hb), fun t' b hb hb' => by
            simp only [O'] at hb
            split at hb
            · exact hb.2 hb'
            · rename_i ht; exact ht (h.disj t' t b hb (d1 i b hb'))⟩
      · cases hv
    · cases hv

/-- A new block with cells that are not shared. -/
theorem below_new (w : World) (ob : Obj) : Below w.heap.size w (w.alloc ob) := (Below.refl _ _).alloc (Nat.le_refl _) _
theorem new_at (w : World) (ob : Obj) : (w.alloc ob).heap[w.heap.size]? = some ob := heap_alloc_new w ob

theorem zeroRow_spec {t : TypeId} {zs : List L} (h : zeroRow P t = some zs) : ∃ i z, P.info? t = some i ∧ i.zero = some z ∧ zs.length = i.size ∧ z.cells.size = i.size ∧ (∀ (w : World) (I S : Nat → Prop), RepRow w I zs (fun j => z.cells[j]?) S) ∧
    ∀ (j : Nat) (l : L), zs[j]? = some l → ∃ v, z.cells[j]? = some v ∧ v.oneCell' = true ∧ ∀ (w : World) (I S : Nat → Prop), RepL w I l v S := by
  unfold zeroRow at h
  split at h
  · rename_i i ts hi hts
    split at h
    · rename_i z hz
      split at h
      · rename_i hc
        obtain rfl := (Option.some.inj h).symm
        refine ⟨i, z, hi, hz, by rw [constR_length, Array.length_toList]; exact hc.2, hc.2, fun w I S => constR_rep _ _ _ hc.1 _ _ _, fun j l hl => ?_⟩
        obtain ⟨v, t', h1, rfl⟩ := constR_get P ts _ j l hl
        rw [Array.getElem?_toList] at h1
        refine ⟨v, h1, ?_, fun w I S => constL_rep ..⟩
        have := hc.1
        rw [Array.all_eq_true] at this
        obtain ⟨hj, rfl⟩ := Array.getElem?_eq_some_iff.1 h1
        exact this j hj
      · cases h
    · cases h
  · cases h

theorem sound_alloc {o : Oper} {d : Tmp} {e : TypeId} {zs : List L} (ho : o.op = .alloc e) (hd : o.dst = some d) (hz : zeroRow P e = some zs) : Sound1 P arg W G F o (.alloc d zs) := by
  intro I O s s' a w K Q h hdl hv hk
  replace hdl := hdl d rfl
  obtain rfl := (Option.some.inj hv).symm
  obtain ⟨i, z, hi, hz1, hl, hs, hrep, _⟩ := zeroRow_spec hz
  have hrun : (execOp a.eval o).run P w = .ok (.value (.pointer (some ⟨w.heap.size, 0, none⟩))) (w.alloc (.cells z.cells e)) := by
    simp [execOp, ho, Instr.alloc, zeroValue, typeInfo, hi, hz1, newVar, newRow]
  refine oper_value hrun (hk _ _ ?_)
  rw [hd]
  refine good_put (S := fun b => b = w.heap.size) h hdl (below_new w _) (fun b hb => ?_) ⟨w.heap.size, z.cells, e, rfl, rfl, new_at w _, hs.trans hl.symm, hrep _ _ _⟩ (fun _ _ _ h => by cases h)
  subst hb
  exact ⟨by simp, fun hi => Nat.lt_irrefl _ (h.ilt _ hi), fun t _ ht => Nat.lt_irrefl _ (h.olt t _ ht), .inr (Nat.le_refl _)⟩

/-- The cells of a flat value. -/
theorem flat_cells {c : CV} {v : Value} {S : Nat → Prop} (h : RepC arg w I c v S) (hf : c.flat = true) : v.cells.size = c.row.length ∧ RepRow w I c.row (fun j => v.cells[j]?) S := by
  cases c with
  | leaf l =>
    have hc : v.cells = #[v] := by
      have := h.1
      cases v <;> first | rfl | cases this
    refine ⟨by rw [hc]; rfl, fun j x => j = 0 ∧ S x, fun j x h => h.2, fun j j' x h h' => h.1.trans h'.1.symm, fun j l' hl => ?_⟩
    cases j with
    | zero =>
      simp [CV.row] at hl
      subst hl
      exact ⟨v, by rw [hc]; rfl, h.1, h.2.mono (fun _ h => h) fun x hx => ⟨rfl, hx⟩⟩
    | succ j => simp [CV.row] at hl
  | agg ls =>
    obtain ⟨cs, rfl, h2, h3⟩ := h
    exact ⟨h2, h3⟩
  | _ => cases hf

/-- Behind a take: a new block that holds what was taken. -/
theorem good_taken_new {d : Tmp} {row : List L} {cs : Array Value} {S : Nat → Prop} {e : TypeId} (h : Rel arg W I O s a.tmps w) (hd : d < a.tmps.size) (hr : RepRow w I row (fun j => cs[j]?) S) (hl : cs.size = row.length) (h' : Rel arg W I O' s' a.tmps w) (ho : Out O O' S)
    {av : AV} {v : Value} (hav : ∀ w' : World, w'.heap[w.heap.size]? = some (.cells cs e (0, 0)) → RepRow w' I row (fun j => cs[j]?) S → (∀ x, S x → x ≠ w.heap.size) → RepA arg w' I s' a.tmps av v (fun x => S x ∨ x = w.heap.size))
    (hfr : ∀ r p o, av = .ptr r p o → cleanP s'.d r p = true → ∃ c, s'.e.get r = .v c) :
    Good arg W I O w a (s'.put d av) (some d) (a.put (some d) v) (w.alloc (.cells cs e)) := by
  have hlt : ∀ b, S b → b < w.heap.size := fun b hb => by obtain ⟨t, ht⟩ := ho.1 b hb; exact h.olt t b ht
  have hnI : ∀ b, S b → ¬ I b := fun b hb => by obtain ⟨t, ht⟩ := ho.1 b hb; exact h.notI t b ht
  have hst := h'.step (d := d) (av := av) (v := v) (S := fun x => S x ∨ x = w.heap.size) hd (below_new w (.cells cs e)) (fun b hb => by
    rcases hb with hb | rfl
    · exact ⟨Nat.lt_of_lt_of_le (hlt b hb) (by simp), hnI b hb, fun t' _ h' => ho.2.2 t' b h' hb⟩
    · exact ⟨by simp, fun hi => Nat.lt_irrefl _ (h.ilt _ hi), fun t _ ht => Nat.lt_irrefl _ (h'.olt t _ ht)⟩)
    (hav _ (new_at w _) (hr.world (fun _ _ => rfl) fun b hb => Below.heap_alloc w _ b (hb.elim (hlt b) (h.ilt b))) (fun x hx he => by have := hlt x hx; omega)) hfr
  refine ⟨I, _, rfl, put_size .., hst, ⟨fun _ h => h, by simp, fun b hb _ => Below.heap_alloc w _ b hb, fun b hb => ?_⟩, fun t ht => ?_⟩
  · rcases hb with ⟨t, hb⟩ | hb
    · by_cases ht : t = d
      · simp only [ht, if_true] at hb
        rcases hb with hb | rfl
        · exact .inl (ho.1 b hb)
        · exact .inr (.inr (Nat.le_refl _))
      · simp only [ht, if_false] at hb; exact .inl ⟨t, ho.2.1 t b hb⟩
    · exact .inr (.inl hb)
  · simp only [Act.put]
    rw [getD_set hd, if_neg (fun e => ht (by rw [e]))]

theorem exec_box {o : Oper} {e : TypeId} {x : Operand} (ho : o.op = .box e x) : (execOp a.eval o).run P w = .ok (.value (.pointer (some ⟨w.heap.size, 0, none⟩))) (w.alloc (.cells (a.eval x).cells e)) := by
  simp [execOp, ho, Instr.box, newVar, newRow]

theorem sound_box {o : Oper} {d : Tmp} {e : TypeId} {x : Operand} {X : VS.X} (ho : o.op = .box e x) (hd : o.dst = some d) (hx : compX P e x = some X) : Sound1 P arg W G F o (.box d X) := by
  intro I O s s' a w K Q h hdl hv hk
  replace hdl := hdl d rfl
  have hX := compX_val hx a
  refine oper_value (exec_box ho) (hk _ _ ?_)
  rw [hd]
  simp only [vop] at hv
  have key : ∀ c s1, s.take X = some (c, s1) → c.flat = true → Good arg W I O w a (s1.put d (.v (.box c.row))) (some d) (a.put (some d) (.pointer (some ⟨w.heap.size, 0, none⟩))) (w.alloc (.cells (a.eval x).cells e)) := by
    intro c s1 ht hf
    obtain ⟨S, O', h1, h2, h3⟩ := h.take hX ht
    obtain ⟨q1, q2⟩ := flat_cells h1 hf
    exact good_taken_new h hdl q2 q1 h2 h3 (fun w' hb hr hne => ⟨w.heap.size, _, e, rfl, .inr rfl, hb, q1, hr.mono (fun _ h => h) fun x hx => ⟨.inl hx, hne x hx⟩⟩) (fun _ _ _ h => by cases h)
  split at hv
  · rename_i l s1 ht
    obtain rfl := (Option.some.inj hv).symm
    exact key _ _ ht rfl
  · rename_i ls s1 ht
    obtain rfl := (Option.some.inj hv).symm
    exact key _ _ ht rfl
  · cases hv

theorem sound_boxM {o : Oper} {d : Tmp} {e : TypeId} {t : Tmp} (ho : o.op = .box e (.tmp t)) (hd : o.dst = some d) (harg : ∀ (a : Act), a.tmps.getD t undef = arg t → True) :
    ∀ (I : Nat → Prop) (O : Tmp → Nat → Prop) (s s' : RS) (a : Act) (w : World) (K : Act → World → Prop) (Q : Exit → Act → World → Prop),
    Rel arg W I O s a.tmps w → (∀ d', (VOp.boxM d t).dst = some d' → d' < a.tmps.size) → a.tmps.getD t undef = arg t → vop G F s (.boxM d t) = some s' → (∀ a' w', Good arg W I O w a s' (VOp.boxM d t).dst a' w' → K a' w') → o.wp P a w K Q := by
  intro I O s s' a w K Q h hdl harg hv hk
  replace hdl := hdl d rfl
  refine oper_value (exec_box ho) (hk _ _ ?_)
  rw [hd]
  simp only [vop] at hv
  split at hv
  · rename_i ls hval
    split at hv
    · cases hv
    · rename_i hdt
      obtain rfl := (Option.some.inj hv).symm
      have hr := h.rep t
      rw [hval] at hr
      obtain ⟨cs, hvv, h2, h3⟩ := hr
      have he : a.eval (.tmp t) = .agg cs := hvv
      rw [he]
      refine good_taken_new (S := O t) (row := ls) h hdl h3 h2 (h.strike t _ rfl) ⟨fun b hb => ⟨t, hb⟩, fun t' b hb => ?_, fun t' b hb hb' => ?_⟩ (fun w' hb hr hne => ⟨w.heap.size, cs, e, rfl, .inr rfl, hb, h2, hr.mono (fun _ h => h) (fun x hx => ⟨.inl hx, hne x hx⟩), harg.symm.trans hvv⟩) (fun _ _ _ h => by cases h)
      · by_cases ht : t' = t
        · simp only [ht, if_true] at hb
        · simp only [ht, if_false] at hb; exact hb
      · by_cases ht : t' = t
        · simp only [ht, if_true] at hb
        · simp only [ht, if_false] at hb; exact ht (h.disj t' t b hb hb')
  · cases hv

end Go.VS
