/- Operations that turn no place, second part: reading memory, new blocks. -/
import Derived.Test.YtdoelepflcaijaaEngCalm
namespace Go.VS
open Go Go.RowKit
set_option linter.unusedSimpArgs false
set_option linter.unusedVariables false

variable {P : Program} {arg : Tmp → Value} {W w w' : World} {I I' : Nat → Prop} {O O' : Tmp → Nat → Prop} {s s' : RS} {a : Act} {K : Act → World → Prop} {Q : Exit → Act → World → Prop} {G : Sigs} {F : Fns}

theorem add_at (b q j : Nat) : (⟨b, q, none⟩ : Addr).add j = ⟨b, q + j, none⟩ := by
  unfold Addr.add
  split <;> simp_all

/-- The place of an address, in memory. -/
theorem place_addr (h : Rel arg W I O s a.tmps w) {X : VS.X} {v : Value} (hX : XV a.tmps X v) {r : Tmp} {p : List (Nat × Nat)} {o : Nat} (hp : s.place X = some (r, p, o)) :
    ∃ b o' row', Roots w s.e a.tmps r p (.addr b o') row' ∧ v = .pointer (some ⟨b, o' + o, none⟩) := by
  cases X with
  | c c => cases hp
  | t t =>
    simp only [XV] at hX
    subst hX
    simp only [RS.place] at hp
    split at hp
    · rename_i row hg
      simp only [Option.some.injEq, Prod.mk.injEq] at hp
      obtain ⟨rfl, rfl, rfl⟩ := hp
      have hr := h.rep t
      rw [hg] at hr
      obtain ⟨b, cs, e, hv, _⟩ := hr
      refine ⟨b, 0, row, ⟨_, hg, ?_⟩, hv⟩
      rw [hv]
      exact .nil ..
    · rename_i t0 row hg
      simp only [Option.some.injEq, Prod.mk.injEq] at hp
      obtain ⟨rfl, rfl, rfl⟩ := hp
      have hr := h.rep t
      rw [hg] at hr
      obtain ⟨b, cs, e, hv, _⟩ := hr
      refine ⟨b, 0, row, ⟨_, hg, ?_⟩, hv⟩
      rw [hv]
      exact .nil ..
    · rename_i r' p' o' hg
      split at hp
      · rename_i hc
        simp only [Option.some.injEq, Prod.mk.injEq] at hp
        obtain ⟨rfl, rfl, rfl⟩ := hp
        obtain ⟨b, o2, row', h1, h2⟩ := rel_ptr h hg hc
        exact ⟨b, o2, row', h1, h2⟩
      · cases hp
    · cases hp

theorem run_isAgg {t : TypeId} {g : Bool} (hg : aggB P t = some g) : (isAgg t).run P w = .ok g w := by
  unfold aggB at hg
  cases hu : P.underlying t with
  | none => rw [hu] at hg; cases hg
  | some D =>
    rw [hu] at hg
    simp only [Option.map_some, Option.some.injEq] at hg
    unfold isAgg underlying
    simp only [Sem.run_bind, run_program, Result.andThen_ok, hu]
    cases D <;> subst hg <;> rfl
theorem run_sizeOf {t : TypeId} {n : Nat} (hn : sizeB P t = some n) : (sizeOf t).run P w = .ok n w := by
  unfold sizeB at hn
  cases hi : P.info? t with
  | none => rw [hi] at hn; cases hn
  | some i =>
    rw [hi] at hn
    simp only [Option.map_some, Option.some.injEq] at hn
    unfold sizeOf typeInfo
    simp [hi, hn]

/-- Cells that are there are loaded. -/
theorem run_loadVar_at {t : TypeId} {n : Nat} {g : Bool} (hn : sizeB P t = some n) (hg : aggB P t = some g) (h1 : g = true ∨ n = 1) (b q : Nat) (hc : ∀ j, j < n → ∃ v, w.cell? ⟨b, q + j, none⟩ = some v) :
    ∃ v, (loadVar t ⟨b, q, none⟩).run P w = .ok v w ∧ Loaded (fun j => w.cell? ⟨b, q + j, none⟩) 0 n g v := by
  cases g with
  | false =>
    have hn1 : n = 1 := h1.resolve_left (by simp)
    obtain ⟨v, hv⟩ := hc 0 (by omega)
    rw [Nat.add_zero] at hv
    refine ⟨v, ?_, And.intro (fun h => by cases h) (fun _ => ⟨hn1, by simpa using hv⟩)⟩
    unfold loadVar
    rw [Sem.run_bind, run_isAgg hg, Result.andThen_ok]
    simp [run_load, hv]
  | true =>
    let cs : List Value := (List.range n).map fun j => (w.cell? ⟨b, q + j, none⟩).getD undef
    have hlen : cs.length = n := by simp [cs]
    have hget : ∀ j, j < n → cs[j]? = w.cell? ⟨b, q + j, none⟩ := fun j hj => by
      obtain ⟨v, hv⟩ := hc j hj
      simp [cs, hj, hv]
    have hl := run_loadCells_list (P := P) w ⟨b, q, none⟩ cs (fun j v hj => by
      have hjn : j < n := by rw [← hlen]; exact (List.getElem?_eq_some_iff.1 hj).1
      rw [add_at, ← hget j hjn]
      exact hj)
    refine ⟨.agg cs.toArray, ?_, And.intro (fun _ => ⟨cs.toArray, rfl, by simp [hlen], fun j hj => ?_⟩) (fun h => by cases h)⟩
    · unfold loadVar
      rw [Sem.run_bind, run_isAgg hg, Result.andThen_ok]
      simp only [if_true]
      rw [Sem.run_bind, run_sizeOf hn, Result.andThen_ok, Sem.run_bind, ← hlen, hl]
      rfl
    · rw [Nat.zero_add]
      simpa using hget j hj

theorem loaded_shift {f g : Nat → Option Value} {o n : Nat} {agg : Bool} {v : Value} (h : Loaded f 0 n agg v) (hfg : ∀ j, f j = g (o + j)) : Loaded g o n agg v := by
  refine ⟨fun ha => ?_, fun ha => ?_⟩
  · obtain ⟨cs, h1, h2, h3⟩ := h.1 ha
    exact ⟨cs, h1, h2, fun j hj => by rw [h3 j hj, hfg]; congr 1; omega⟩
  · obtain ⟨h1, h2⟩ := h.2 ha
    refine ⟨h1, ?_⟩
    rw [← h2, hfg]
    rfl

theorem row_cells {row : List L} {get : Nat → Option Value} {S : Nat → Prop} (h : RepRow w I row get S) {j : Nat} (hj : j < row.length) : ∃ v, get j = some v ∧ v.oneCell' = true := by
  obtain ⟨D, _, _, h3⟩ := h
  obtain ⟨v, h1, h2, _⟩ := h3 j _ (List.getElem?_eq_getElem hj)
  exact ⟨v, h1, h2⟩

theorem sound_load {o : Oper} {d : Tmp} {t : TypeId} {x : Operand} {X : VS.X} {n : Nat} {g : Bool} (ho : o.op = .load t x) (hd : o.dst = some d) (hx : compX P 0 x = some X) (hn : sizeB P t = some n) (hg : aggB P t = some g) (h1 : g = true ∨ n = 1) :
    Sound1 P arg W G F o (.load d X n g) := by
  intro I O s s' a w K Q h hdl hv hk
  replace hdl := hdl d rfl
  have hX := compX_val hx a
  have hn1 : g = false → n = 1 := fun hf => h1.resolve_left (by simp [hf])
  simp only [vop] at hv
  split at hv
  · rename_i r p off hpl
    obtain ⟨b, o', row', hroot, hval⟩ := place_addr h hX hpl
    split at hv
    · rename_i row hsl
      obtain ⟨c, B', S', hc, f1, f2, f3, f4, f5⟩ := h.slot hsl
      obtain ⟨rfl, rfl⟩ := hroot.unique hc f1
      split at hv
      · rename_i c0 hcells
        obtain ⟨hrow, hfit⟩ := cells_row hcells hn1
        obtain ⟨v, hrun, hl⟩ := run_loadVar_at (P := P) (w := w) hn hg h1 b (o' + off) (fun j hj => by
          obtain ⟨v, hv, _⟩ := row_cells f2 (j := off + j) (by omega)
          exact ⟨v, by rw [Nat.add_assoc]; exact hv⟩)
        have hl' : Loaded ((Base.addr b o').get w) off n g v := loaded_shift hl (fun j => by simp only [Base.get, Nat.add_assoc])
        have hex : (execOp a.eval o).run P w = .ok (.value v) w := by
          simp only [execOp, ho, hval, Instr.loadAt, Instr.sureAddr, Sem.run_bind, Sem.run_pure, Result.andThen_ok, hrun]
        refine oper_value hex (hk _ _ ?_)
        rw [hd]
        split at hv
        · rename_i hsh
          obtain rfl := (Option.some.inj hv).symm
          exact good_free h hdl (Below.refl _ _) ((cells_rep (arg := arg) f2 hcells hl').unowned hsh) (fun _ _ _ h => by cases h)
        · obtain rfl := (Option.some.inj hv).symm
          exact good_free h hdl (Below.refl _ _) (fun _ => ⟨_, row', hroot, hfit, hl'⟩) (fun _ _ _ h => by cases h)
      · cases hv
    · cases hv
  · rename_i hpl
    split at hv
    · rename_i row off hval
      split at hv
      · rename_i c0 hcells
        split at hv
        case isFalse => cases hv
        obtain rfl := (Option.some.inj hv).symm
        cases X with
        | c c => cases hval
        | t t0 =>
          simp only [RS.val] at hval
          simp only [XV] at hX
          obtain ⟨b, o', hI, hvv, hrep⟩ := rel_iptr h hval
          obtain ⟨hrow, hfit⟩ := cells_row hcells hn1
          obtain ⟨v, hrun, hl⟩ := run_loadVar_at (P := P) (w := w) hn hg h1 b (o' + off) (fun j hj => by
            obtain ⟨v, hv, _⟩ := row_cells hrep (j := off + j) (by omega)
            exact ⟨v, by rw [Nat.add_assoc]; exact hv⟩)
          have hl' : Loaded ((Base.addr b o').get w) off n g v := loaded_shift hl (fun j => by simp only [Base.get, Nat.add_assoc])
          have hex : (execOp a.eval o).run P w = .ok (.value v) w := by
            simp only [execOp, ho, hX, hvv, Instr.loadAt, Instr.sureAddr, Sem.run_bind, Sem.run_pure, Result.andThen_ok, hrun]
          refine oper_value hex (hk _ _ ?_)
          rw [hd]
          exact good_free h hdl (Below.refl _ _) (cells_rep (arg := arg) hrep hcells hl') (fun _ _ _ h => by cases h)
      · cases hv
    · cases hv

theorem sound_nil {o : Oper} {d : Tmp} {x : Operand} {X : VS.X} (ho : o.op = .nilCheck x) (hd : o.dst = some d) (hx : compX P 0 x = some X) : Sound1 P arg W G F o (.nil d X) := by
  intro I O s s' a w K Q h hdl hv hk
  replace hdl := hdl d rfl
  have hX := compX_val hx a
  have hex : ∀ q, a.eval x = .pointer (some q) → (execOp a.eval o).run P w = .ok (.value (.pointer (some q))) w := fun q hq => by simp [execOp, ho, hq]
  simp only [vop] at hv
  cases X with
  | c c => simp only [RS.val] at hv; cases c <;> cases hv
  | t t =>
    simp only [XV] at hX
    simp only [RS.val] at hv
    cases hval : s.e.get t with
    | v c =>
      rw [hval] at hv
      cases c with
      | box row =>
        obtain rfl := (Option.some.inj hv).symm
        obtain ⟨b, h1, h2⟩ := root_ptr h hval (.inl ⟨_, rfl⟩) 0
        refine oper_value (hex _ (hX.trans h1)) (hk _ _ ?_)
        rw [hd]
        exact good_free h hdl (Below.refl _ _) h2 (fun r p o he _ => by cases he; exact ⟨_, hval⟩)
      | pbox t0 row =>
        obtain rfl := (Option.some.inj hv).symm
        obtain ⟨b, h1, h2⟩ := root_ptr h hval (.inr ⟨_, _, rfl⟩) 0
        refine oper_value (hex _ (hX.trans h1)) (hk _ _ ?_)
        rw [hd]
        exact good_free h hdl (Below.refl _ _) h2 (fun r p o he _ => by cases he; exact ⟨_, hval⟩)
      | _ => cases hv
    | ptr r p of =>
      rw [hval] at hv
      simp only at hv
      split at hv
      · rename_i hcl
        obtain rfl := (Option.some.inj hv).symm
        obtain ⟨b, o', row', k1, k2⟩ := rel_ptr h hval hcl
        refine oper_value (hex _ (hX.trans k2)) (hk _ _ ?_)
        rw [hd, ← k2]
        exact good_free h hdl (Below.refl _ _) (rel_ptr h hval) (fun r p o he hc => by cases he; exact ptr_root h hval hc)
      · cases hv
    | iptr row of =>
      rw [hval] at hv
      obtain rfl := (Option.some.inj hv).symm
      obtain ⟨b, o', h1, h2, h3⟩ := rel_iptr h hval
      refine oper_value (hex _ (hX.trans h2)) (hk _ _ ?_)
      rw [hd]
      exact good_free h hdl (Below.refl _ _) ⟨b, o', h1, rfl, h3⟩ (fun _ _ _ h => by cases h)
    | _ => rw [hval] at hv; cases hv

theorem sound_fld {o : Oper} {d : Tmp} {t : TypeId} {x : Operand} {f : Nat} {X : VS.X} {fs : Array Field} {fd : Field} {n : Nat} (ho : o.op = .fieldAddr t x f) (hd : o.dst = some d) (hx : compX P 0 x = some X)
    (ht : P.underlying t = some (.struct fs)) (hf : fs[f]? = some fd) (hn : sizeB P fd.type = some (n + 1)) : Sound1 P arg W G F o (.fld d X fd.offset) := by
  intro I O s s' a w K Q h hdl hv hk
  replace hdl := hdl d rfl
  have hX := compX_val hx a
  have hex : ∀ b q, a.eval x = .pointer (some ⟨b, q, none⟩) → (execOp a.eval o).run P w = .ok (.value (.pointer (some ⟨b, q + fd.offset, none⟩))) w := fun b q hq => by
    have hsz := run_sizeOf (w := w) hn
    simp only [execOp, ho, hq, Instr.fieldAt]
    rw [Sem.run_bind, Sem.run_bind, run_underlying ht, Result.andThen_ok]
    simp only [hf, Instr.sureAddr, Sem.run_bind, Sem.run_pure, Result.andThen_ok, fieldPlace, hsz]
    simp [add_at]
  simp only [vop] at hv
  cases X with
  | c c => simp only [RS.val] at hv; cases c <;> cases hv
  | t t0 =>
    simp only [XV] at hX
    simp only [RS.val] at hv
    cases hval : s.e.get t0 with
    | v c =>
      rw [hval] at hv
      cases c with
      | box row =>
        obtain rfl := (Option.some.inj hv).symm
        obtain ⟨b, h1, h2⟩ := root_ptr h hval (.inl ⟨_, rfl⟩) fd.offset
        refine oper_value (hex _ _ (hX.trans h1)) (hk _ _ ?_)
        rw [hd, Nat.zero_add]
        exact good_free h hdl (Below.refl _ _) h2 (fun r p o he _ => by cases he; exact ⟨_, hval⟩)
      | pbox t1 row =>
        obtain rfl := (Option.some.inj hv).symm
        obtain ⟨b, h1, h2⟩ := root_ptr h hval (.inr ⟨_, _, rfl⟩) fd.offset
        refine oper_value (hex _ _ (hX.trans h1)) (hk _ _ ?_)
        rw [hd, Nat.zero_add]
        exact good_free h hdl (Below.refl _ _) h2 (fun r p o he _ => by cases he; exact ⟨_, hval⟩)
      | _ => cases hv
    | ptr r p of =>
      rw [hval] at hv
      simp only at hv
      split at hv
      · rename_i hcl
        obtain rfl := (Option.some.inj hv).symm
        obtain ⟨b, o', row', k1, k2⟩ := rel_ptr h hval hcl
        refine oper_value (hex _ _ (hX.trans k2)) (hk _ _ ?_)
        rw [hd]
        exact good_free h hdl (Below.refl _ _) (fun _ => ⟨b, o', row', k1, by rw [Nat.add_assoc]⟩) (fun r p o he hc => by cases he; exact ptr_root h hval hc)
      · cases hv
    | iptr row of =>
      rw [hval] at hv
      obtain rfl := (Option.some.inj hv).symm
      obtain ⟨b, o', h1, h2, h3⟩ := rel_iptr h hval
      refine oper_value (hex _ _ (hX.trans h2)) (hk _ _ ?_)
      rw [hd]
      exact good_free h hdl (Below.refl _ _) ⟨b, o', h1, by rw [Nat.add_assoc], h3⟩ (fun _ _ _ h => by cases h)
    | _ => rw [hval] at hv; cases hv

theorem sound_idx {o : Oper} {d : Tmp} {t e : TypeId} {x i : Operand} {X Y : VS.X} {sz : Nat} (ho : o.op = .indexAddr t x i) (hd : o.dst = some d) (hx : compX P t x = some X) (hi : compX P 0 i = some Y)
    (ht : P.underlying t = some (.slice e)) (hn : sizeB P e = some sz) : Sound1 P arg W G F o (.idx d X Y sz) := by
  intro I O s s' a w K Q h hdl hv hk
  replace hdl := hdl d rfl
  have hX := compX_val hx a
  have hex : ∀ b q len cap k (n : Int), a.eval x = .slice (some ⟨b, q, none⟩) len cap → a.eval i = .int k n → 0 ≤ n → n.toNat < len → (execOp a.eval o).run P w = .ok (.value (.pointer (some ⟨b, q + n.toNat * sz, none⟩))) w := fun b q len cap k n hq hi0 h0 h1 => by
    have hsz := run_sizeOf (w := w) hn
    have hlt : n < (len : Int) := by omega
    simp only [execOp, ho, hq, hi0, Instr.indexAt, asIntOf]
    simp [run_underlying ht, hsz, h0, hlt, add_at]
  simp only [vop] at hv
  split at hv
  · rename_i k n hint
    have hiv := int_val h (compX_val hi a) hint
    split at hv
    · rename_i own sz' rows hlk
      split at hv
      · rename_i hcond
        obtain ⟨h0, rfl⟩ := hcond
        split at hv
        · rename_i row hrow
          have hlt := (List.getElem?_eq_some_iff.1 hrow).1
          split at hv
          · rename_i hown
            subst hown
            cases X with
            | c c => cases hv
            | t t0 =>
              simp only [XV] at hX
              simp only at hv
              simp only [RS.val] at hlk
              cases hval : s.e.get t0 with
              | v c =>
                rw [hval] at hv hlk
                obtain rfl := (Option.some.inj hv).symm
                simp only [RS.look, Option.some.injEq] at hlk
                subst hlk
                have hr := h.rep t0
                rw [hval] at hr
                obtain ⟨_, hr2⟩ := hr
                cases hvv : a.tmps.getD t0 undef with
                | slice ad len cap =>
                  rw [hvv] at hr2
                  cases hr2 with
                  | nil => simp at hrow
                  | own _ _ _ b _ cs e' cv D hS hlen hcap hb hcs hsz hcv hD hdis hrep =>
                    refine oper_value (hex b 0 _ _ _ _ (hX.trans hvv) hiv h0 hlt) (hk _ _ ?_)
                    rw [hd, Nat.zero_add]
                    refine good_free h hdl (Below.refl _ _) (fun _ => ⟨b, n.toNat * sz', row, ⟨_, hval, ?_⟩, by simp⟩) (fun r p o he hc => by cases he; exact ⟨_, hval⟩)
                    rw [hvv]
                    exact .step _ _ _ _ _ _ _ sz' rows row b _ _ rfl hrow rfl (.nil ..)
                | _ => rw [hvv] at hr2; cases hr2
              | ld r p of n2 g =>
                rw [hval] at hv hlk
                obtain rfl := (Option.some.inj hv).symm
                have hl0 := hlk
                simp only [RS.look] at hlk
                split at hlk
                · rename_i hcl
                  split at hlk
                  · rename_i row1 hsl
                    obtain ⟨B, row', k1, k0, k2, k3⟩ := rel_ld h hval hcl
                    obtain ⟨c1, B', S', hc, f1, f2, f3, f4, f5⟩ := h.slot hsl
                    obtain ⟨rfl, rfl⟩ := k1.unique hc f1
                    cases g with
                    | true =>
                      simp only [cellsOf, if_true] at hlk
                      split at hlk <;> cases hlk
                    | false =>
                      obtain ⟨hn1, hcell⟩ := k3 rfl
                      simp only [cellsOf, if_false, Bool.false_eq_true] at hlk
                      split at hlk
                      · rename_i l hl
                        simp only [Option.some.injEq, CV.leaf.injEq] at hlk
                        subst hlk
                        obtain ⟨D, d1, d2, d3⟩ := f2
                        obtain ⟨u, u1, u2, u3⟩ := d3 of _ hl
                        rw [hcell] at u1
                        obtain rfl := Option.some.inj u1
                        cases hvv : a.tmps.getD t0 undef with
                        | slice ad len cap =>
                          rw [hvv] at u3 hcell
                          cases u3 with
                          | nil => simp at hrow
                          | own _ _ _ b _ cs e' cv D' hS hlen hcap hb hcs hsz hcv hD hdis hrep =>
                            refine oper_value (hex b 0 _ _ _ _ (hX.trans hvv) hiv h0 hlt) (hk _ _ ?_)
                            rw [hd, Nat.zero_add]
                            refine good_free h hdl (Below.refl _ _) (fun _ => ⟨b, n.toNat * sz', row, ⟨c1, hc, ?_⟩, by simp⟩) (fun r p o he hc' => by cases he; exact ⟨_, hc⟩)
                            exact f1.append (.step _ _ _ _ _ _ _ sz' rows row b _ _ hl hrow hcell (.nil ..))
                        | _ => rw [hvv] at u3; cases u3
                      · cases hlk
                  · cases hlk
                · cases hlk
              | _ => rw [hval] at hv; cases hv
          · rename_i hown
            obtain rfl := (Option.some.inj hv).symm
            have hof : own = false := by simpa using hown
            subst hof
            obtain ⟨_, S, _, hr2, _⟩ := look_leaf h hX hlk
            cases hvv : a.eval x with
            | slice ad len cap =>
              rw [hvv] at hr2
              cases hr2 with
              | nil => simp at hrow
              | imm _ _ _ b q _ cv hI hsz hcv hrep =>
                refine oper_value (hex b q _ _ _ _ hvv hiv h0 hlt) (hk _ _ ?_)
                rw [hd]
                refine good_free h hdl (Below.refl _ _) ⟨b, q + n.toNat * sz', hI, rfl, fun _ _ => False, fun _ _ h => h.elim, fun _ _ _ h => h.elim, fun j l hl => ?_⟩ (fun _ _ _ h => by cases h)
                have hjl := (List.getElem?_eq_some_iff.1 hl).1
                have hrl := hsz _ _ hrow
                have hc' := hcv n.toNat j hlt (by omega)
                refine ⟨cv n.toNat j, ?_, hc'.2, hrep _ _ _ _ hrow hl⟩
                simp only [Base.get, Nat.add_assoc]
                exact hc'.1
            | _ => rw [hvv] at hr2; cases hr2
        · cases hv
      · cases hv
    · cases hv
  · cases hv

end Go.VS
