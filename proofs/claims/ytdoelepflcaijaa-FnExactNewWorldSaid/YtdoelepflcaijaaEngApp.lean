/- Operations, sixth part: slices of slices; append. -/
import Derived.Test.YtdoelepflcaijaaEngStore
namespace Go.VS
open Go Go.RowKit
set_option linter.unusedSimpArgs false
set_option linter.unusedVariables false

variable {P : Program} {arg : Tmp → Value} {W w w' : World} {I I' : Nat → Prop} {O O' : Tmp → Nat → Prop} {s s' : RS} {a : Act} {K : Act → World → Prop} {Q : Exit → Act → World → Prop} {G : Sigs} {F : Fns}

/-- A part of an immutable slice. -/
theorem imm_part {sz l h len cap : Nat} {rows : List (List L)} {ad : Option Addr} {S S' : Nat → Prop} (hr : RepL w I (.sl false sz rows) (.slice ad len cap) S) (h1 : l ≤ h) (h2 : h ≤ rows.length) :
    RepL w I (.sl false sz ((rows.take h).drop l)) (.slice (if cap = l then ad else ad.map (·.add (l * sz))) (h - l) (cap - l)) S' := by
  have hlen : ((rows.take h).drop l).length = h - l := by rw [List.length_drop, List.length_take]; omega
  by_cases he : h = l
  · subst he
    have : (rows.take h).drop h = [] := List.drop_eq_nil_of_le (by rw [List.length_take]; omega)
    rw [this, Nat.sub_self]
    exact .nil _ _ _ _ _ (fun h => by cases h)
  · cases hr with
    | nil => simp at h2; omega
    | imm _ _ _ b o _ cv hI hsz hcv hrep hlc =>
      have hne : ¬ cap = l := by omega
      rw [if_neg hne, Option.map_some, add_at, ← hlen]
      refine .imm sz _ _ b (o + l * sz) _ (fun i j => cv (l + i) j) hI (fun i r hr => ?_) (fun i j hi hj => ?_) (fun i j r lf hr hl => ?_) (by rw [hlen]; omega)
      · rw [List.getElem?_drop] at hr
        have hi : l + i < h := by have := (List.getElem?_eq_some_iff.1 hr).1; rw [List.length_take] at this; omega
        rw [List.getElem?_take_of_lt hi] at hr
        exact hsz _ r hr
      · rw [hlen] at hi
        have := hcv (l + i) j (by omega) hj
        rw [show o + ((l + i) * sz + j) = o + l * sz + (i * sz + j) by rw [Nat.add_mul]; omega] at this
        exact this
      · rw [List.getElem?_drop] at hr
        have hi : l + i < h := by have := (List.getElem?_eq_some_iff.1 hr).1; rw [List.length_take] at this; omega
        rw [List.getElem?_take_of_lt hi] at hr
        exact hrep _ j r lf hr hl

theorem sl_cap {own : Bool} {sz len cap : Nat} {ad : Option Addr} {rows : List (List L)} {S : Nat → Prop} (h : RepL w I (.sl own sz rows) (.slice ad len cap) S) : rows.length ≤ cap ∧ len = rows.length := by
  cases h with
  | nil => exact ⟨Nat.zero_le _, rfl⟩
  | own _ _ _ b _ cs e cv D hS hlen => exact ⟨hlen, rfl⟩
  | imm _ _ _ b o _ cv hI hsz hcv hrep hlc => exact ⟨hlc, rfl⟩

theorem exec_subSl {o : Oper} {t e : TypeId} {x : Operand} {lo hi : Option Operand} {L H : Option VS.X} {sz l h n cap : Nat} {ad : Option Addr} (hrel : Rel arg W I O s a.tmps w) (ho : o.op = .slice t x lo hi none) (ht : P.underlying t = some (.slice e)) (hsz : sizeB P e = some sz)
    (hl : lo.mapM (compX P 0) = some L) (hh : hi.mapM (compX P 0) = some H) (hv : a.eval x = .slice ad n cap) (h1 : s.bound 0 L = some l) (h2 : s.bound n H = some h) (h3 : l ≤ h) (h4 : h ≤ cap) :
    (execOp a.eval o).run P w = .ok (.value (.slice (if cap = l then ad else ad.map (·.add (l * sz))) (h - l) (cap - l))) w := by
  have hb := run_bounds (P := P) (w := w) (isSlice := true) (len := n) (cap := cap) (l := l) (h := h) (lo := lo.map a.eval) (hi := hi.map a.eval)
    (by rcases bound_val hrel hl h1 with ⟨rfl, rfl⟩ | ⟨x, k, rfl, e⟩
        · exact .inl ⟨rfl, rfl⟩
        · exact .inr ⟨k, by simp [e]⟩)
    (by rcases bound_val hrel hh h2 with ⟨rfl, rfl⟩ | ⟨x, k, rfl, e⟩
        · exact .inl ⟨rfl, rfl⟩
        · exact .inr ⟨k, by simp [e]⟩) h3 h4
  simp only [execOp, ho, hv, Instr.sliceAt, Option.map_none]
  rw [Sem.run_bind, Sem.run_bind, run_underlying ht, Result.andThen_ok]
  simp only [Instr.slice]
  rw [Sem.run_bind, run_underlying ht, Result.andThen_ok]
  simp only [Sem.run_bind, hb, Result.andThen_ok, Sem.run_pure, run_sizeOf hsz]

theorem sound_subSl {o : Oper} {d : Tmp} {t e : TypeId} {x : Operand} {lo hi : Option Operand} {X : VS.X} {L H : Option VS.X} {sz : Nat} (ho : o.op = .slice t x lo hi none) (hd : o.dst = some d) (hx : compX P t x = some X)
    (hl : lo.mapM (compX P 0) = some L) (hh : hi.mapM (compX P 0) = some H) (ht : P.underlying t = some (.slice e)) (hsz : sizeB P e = some sz) : Sound1 P arg W G F o (.subSl d X L H sz) := by
  intro I O s s' a w K Q h hdl hv hk
  replace hdl := hdl d rfl
  have hX := compX_val hx a
  simp only [vop] at hv
  split at hv
  · rename_i own sz' rows hlk
    obtain ⟨tt, S, hone, hr, hSO⟩ := look_leaf h hX hlk
    obtain ⟨ad, cap, hval⟩ := look_sl h hX hlk
    rw [hval] at hr
    have hcap := (sl_cap hr).1
    split at hv
    · rename_i l hi' h1 h2
      by_cases hcond : sz' = sz ∧ l ≤ hi' ∧ hi' ≤ rows.length
      case neg => rw [if_neg hcond] at hv; cases hv
      rw [if_pos hcond] at hv
      obtain ⟨rfl, h3, h4⟩ := hcond
      refine oper_value (exec_subSl h ho ht hsz hl hh hval h1 h2 h3 (by omega)) (hk _ _ ?_)
      rw [hd]
      cases own with
      | false =>
        obtain rfl := (Option.some.inj hv).symm
        exact good_free h hdl (Below.refl _ _) ⟨rfl, imm_part hr h3 h4⟩ (fun _ _ _ h => by cases h)
      | true =>
        simp only [if_true] at hv
        split at hv
        · rename_i r p c hpl
          split at hv
          · rename_i s1 hpk
            obtain rfl := (Option.some.inj hv).symm
            -- the leaf in its place
            have hplace : ∃ row, slotAt s.e r p = some row ∧ row[c]? = some (.sl true sz' rows) ∧ ∀ B row', Roots w s.e a.tmps r p B row' → B.get w c = some (a.eval x) := by
              cases X with
              | c c0 => cases hpl
              | t t0 =>
                simp only [XV] at hX
                simp only [RS.val] at hlk
                simp only at hpl
                split at hpl
                · rename_i l0 hg
                  simp only [Option.some.injEq, Prod.mk.injEq] at hpl
                  obtain ⟨rfl, rfl, rfl⟩ := hpl
                  rw [hg] at hlk
                  simp only [RS.look, Option.some.injEq, CV.leaf.injEq] at hlk
                  subst hlk
                  refine ⟨[.sl true sz' rows], by simp [slotAt, rowOf, hg, CV.row, VS.rowAt], rfl, fun B row' ⟨c2, g1, g2⟩ => ?_⟩
                  rw [hg] at g1
                  obtain rfl := AV.v.inj g1
                  cases g2
                  rw [hX]
                  rfl
                · rename_i r' p' o' n' g hg
                  simp only [Option.some.injEq, Prod.mk.injEq] at hpl
                  obtain ⟨rfl, rfl, rfl⟩ := hpl
                  rw [hg] at hlk
                  simp only [RS.look] at hlk
                  split at hlk
                  · rename_i hcl
                    split at hlk
                    · rename_i row hsl
                      cases g with
                      | true => simp only [cellsOf, if_true] at hlk; split at hlk <;> cases hlk
                      | false =>
                        simp only [cellsOf, if_false, Bool.false_eq_true] at hlk
                        split at hlk
                        · rename_i l0 hl0
                          simp only [Option.some.injEq, CV.leaf.injEq] at hlk
                          subst hlk
                          refine ⟨row, hsl, hl0, fun B row' hro => ?_⟩
                          obtain ⟨B2, row2, k1, k0, k2, k3⟩ := rel_ld h hg hcl
                          obtain ⟨c2, g1, g2⟩ := hro
                          obtain ⟨rfl, _⟩ := k1.unique g1 g2
                          rw [hX]
                          exact (k3 rfl).2
                        · cases hlk
                    · cases hlk
                  · cases hlk
                · cases hpl
            obtain ⟨row, hsl, hrc, hcell⟩ := hplace
            obtain ⟨c0, B', S', hc0, f1, f2, f3, f4, f5⟩ := h.slot hsl
            have hBc := hcell B' row ⟨c0, hc0, f1⟩
            have hrr := h.rep r
            rw [hc0] at hrr
            obtain ⟨D, d1, d2, d3⟩ := f2
            obtain ⟨u, u1, u2, u3⟩ := d3 c _ hrc
            rw [hBc] at u1
            obtain rfl := Option.some.inj u1
            let I' : Nat → Prop := fun x => I x ∨ D c x
            have hclt : c < row.length := (List.getElem?_eq_some_iff.1 hrc).1
            have hnew : RepRow w I' (patch row c [.sl false sz' (freezeRR rows)]) (B'.get w) (fun x => ∃ j, j ≠ c ∧ D j x) := by
              refine ⟨fun j x => j ≠ c ∧ D j x, fun j x hx => ⟨j, hx⟩, fun j j' x hx hx' => d2 j j' x hx.2 hx'.2, fun j lf hlf => ?_⟩
              rw [patch_get _ _ _ _ (by simp; omega)] at hlf
              by_cases hj : j = c
              · subst hj
                rw [if_pos (by simp), Nat.sub_self] at hlf
                obtain rfl := Option.some.inj hlf
                refine ⟨a.eval x, hBc, u2, ?_⟩
                have := u3.freeze (I' := I') (S' := fun _ => False) (fun b hb => .inr hb) (fun b hb => .inl hb)
                exact this.mono (fun _ h => h) (fun _ h => h.elim)
              · rw [if_neg (by simp; omega)] at hlf
                obtain ⟨v', v1, v2, v3⟩ := d3 j lf hlf
                exact ⟨v', v1, v2, v3.mono (fun _ h => .inl h) fun x hx => ⟨hj, hx⟩⟩
            have hDO : ∀ x, D c x → O r x := fun x hx => (f3 x (d1 c x hx)).1
            have hbo : ∀ b o', B' = .addr b o' → ∃ cs e, w.heap[b]? = some (.cells cs e (0, 0)) := fun b o' hB => by
              by_cases hp : p = []
              · subst hp
                have hbase : c0.base (a.tmps.getD r undef) = .addr b o' := by
                  rw [← hB]
                  generalize c0.base (a.tmps.getD r undef) = BB at f1
                  generalize c0.row = rr at f1
                  cases f1; rfl
                obtain ⟨_, _, cs, e, m, _⟩ := base_owned hrr hbase
                exact ⟨cs, e, m⟩
              · obtain ⟨b2, o2, cs, e, k1, _, _, k4, _⟩ := f4 hp
                rw [k1] at hB
                injection hB with h1 h2
                exact ⟨cs, e, h1 ▸ k4⟩
            have hk' := h.poke (w' := w) (I' := I') (T := fun x => ∃ j, j ≠ c ∧ D j x) (N := fun _ => False) (o := c) (ls := [.sl false sz' (freezeRR rows)]) hc0 f1 f3
              (fun hp b o' hB => by
                obtain ⟨b2, o2, cs, e, k1, k2, k3, _⟩ := f4 hp
                rw [k1] at hB
                injection hB with h1 h2
                subst h1
                refine ⟨k2, k3, fun o3 hb => ?_⟩
                obtain ⟨B3, S3, g1, g2, g3, g4, _⟩ := follow p (RepC.root hrr) f1.rowAt
                obtain ⟨rfl, _⟩ := g1.same f1
                obtain ⟨b5, o5, cs5, e5, m1, m2, _⟩ := g4 hp
                rw [k1] at m1
                injection m1 with m1 _
                subst m1
                exact m2.2 o3 hb)
              f5 hpk (by simp; omega) hnew (fun x ⟨j, _, hx⟩ => .inl (d1 j x hx)) (fun x hx => hx.elim) h.bel (Nat.le_refl _) (fun _ h => .inl h) (fun x hx => hx.elim (h.ilt x) fun hx => h.olt r x (hDO x hx))
              (fun x hx hn => .inr (by
                have hx := hx.resolve_left hn
                exact ⟨hDO x hx, d1 c x hx, fun ⟨j, hj, hjx⟩ => hj (d2 j c x hjx hx)⟩))
              (fun _ _ _ => rfl) (fun b o' hB => by
                obtain ⟨cs, e, m⟩ := hbo b o' hB
                exact ⟨cs, cs, e, m, m, rfl, fun _ _ => rfl⟩) (fun _ _ _ _ _ _ => rfl)
            simp only [List.length_cons, List.length_nil, Nat.zero_add] at hk'
            have hfr : RepL w I' (.sl false sz' (freezeRR rows)) (.slice ad rows.length cap) (fun _ => False) := by
              have := u3.freeze (I' := I') (S' := fun _ => False) (fun b hb => .inr hb) (fun b hb => .inl hb)
              rw [hval] at this
              exact this
            have hpart := imm_part (S' := fun _ => False) hfr h3 (by rw [freezeRR_length]; exact h4)
            obtain ⟨I2, O2, z1, z2, z3, z4, z5⟩ := good_free (av := .v (.leaf _)) hk' hdl (Below.refl _ _) ⟨rfl, hpart⟩ (fun _ _ _ h => by cases h)
            refine ⟨I2, O2, z1, z2, z3, Ext.trans ⟨fun _ h => .inl h, Nat.le_refl _, fun _ _ _ => rfl, fun b hb => ?_⟩ hk'.notI z4, z5⟩
            rcases hb with ⟨t, hb⟩ | hb | hb
            · by_cases ht : t = r
              · simp only [ht, if_true] at hb
                rcases hb with (hb | hb) | ⟨o2, hb⟩
                · exact .inl ⟨r, hb.1.1⟩
                · exact hb.elim
                · exact .inl ⟨r, (base_owned hrr hb).1⟩
              · simp only [ht, if_false] at hb
                exact .inl ⟨t, hb⟩
            · exact .inr (.inl hb)
            · exact .inl ⟨r, hDO b hb⟩
          · cases hv
        · cases hv
    · cases hv
  · cases hv

/-- The cells of a slice, as a list; and they are there. -/
def CellsAt (w : World) (v : Value) (n sz : Nat) (xs : List Value) : Prop :=
  xs.length = n * sz ∧ ∃ ad cap, v = .slice ad n cap ∧ (n = 0 ∨ ∃ b q, ad = some ⟨b, q, none⟩ ∧ ∀ (j : Nat) u, xs[j]? = some u → w.cell? ⟨b, q + j, none⟩ = some u)
theorem run_first {v : Value} {n sz : Nat} {xs : List Value} (h : CellsAt w v n sz xs) : (Builtin.firstCells sz n v).run P w = .ok xs.toArray w := by
  obtain ⟨hl, ad, cap, rfl, hc⟩ := h
  rcases hc with rfl | ⟨b, q, rfl, hc⟩
  · simp at hl
    subst hl
    cases ad with
    | none => rfl
    | some ad => simp [Builtin.firstCells, loadCells, loadCellsFrom]
  · exact run_firstCells_some (P := P) w sz n ⟨b, q, none⟩ n cap xs hl (fun j u hj => by rw [add_at]; exact hc j u hj)

/-- Rows out of cells. -/
theorem div_mod_row {k n sz : Nat} (hs : 0 < sz) (hk : k < n * sz) : k / sz < n ∧ k % sz < sz ∧ k = k / sz * sz + k % sz := by
  refine ⟨Nat.div_lt_of_lt_mul (by rwa [Nat.mul_comm]), Nat.mod_lt _ hs, ?_⟩
  rw [Nat.mul_comm]
  exact (Nat.div_add_mod k sz).symm

/-- A slice's cells as a list, with what they hold. -/
theorem sl_list {own : Bool} {sz : Nat} {rows : List (List L)} {v : Value} {S : Nat → Prop} (h : RepL w I (.sl own sz rows) v S) (hs : 0 < sz) :
    ∃ xs, CellsAt w v rows.length sz xs ∧ (∀ u ∈ xs, u.oneCell' = true) ∧ ∃ D : Nat → Nat → Nat → Prop, (∀ i j x, D i j x → S x) ∧ (∀ i j i' j' x, D i j x → D i' j' x → i = i' ∧ j = j') ∧
      (∀ (i : Nat) r, rows[i]? = some r → r.length = sz) ∧ ∀ (i j : Nat) r l, rows[i]? = some r → r[j]? = some l → ∃ u, xs[i * sz + j]? = some u ∧ RepL w I l u (D i j) := by
  cases h with
  | nil o _ _ ad cap hn =>
    exact ⟨[], ⟨by simp, ad, cap, rfl, .inl rfl⟩, (fun u hu => by cases hu), fun _ _ _ => False, fun _ _ _ h => h.elim, fun _ _ _ _ _ h => h.elim, fun i r hr => by simp at hr, fun i j r l hr => by simp at hr⟩
  | own _ _ _ b cap cs e cv D hS hlen hcap hb hcs hsz hcv hD hdis hrep =>
    have hle : rows.length * sz ≤ cs.size := by rw [hcs]; exact Nat.mul_le_mul_right sz hlen
    refine ⟨cs.toList.take (rows.length * sz), ⟨by rw [List.length_take]; exact Nat.min_eq_left (by simpa using hle), _, cap, rfl, .inr ⟨b, 0, rfl, fun j u hj => ?_⟩⟩, fun u hu => ?_, D, fun i j x hx => (hD i j x hx).1, hdis, hsz, fun i j r l hr hl => ?_⟩
    · have hjl : j < rows.length * sz := by have := (List.getElem?_eq_some_iff.1 hj).1; rw [List.length_take] at this; omega
      rw [List.getElem?_take_of_lt hjl, Array.getElem?_toList] at hj
      rw [Nat.zero_add, cell_of hb]
      exact hj
    · obtain ⟨k, hk, rfl⟩ := List.mem_iff_getElem.1 hu
      have hkl : k < rows.length * sz := by rw [List.length_take] at hk; omega
      obtain ⟨g1, g2, g3⟩ := div_mod_row hs hkl
      have := hcv _ _ g1 g2
      rw [← g3] at this
      rw [List.getElem_take, Array.getElem_toList]
      obtain ⟨hlt, he⟩ := Array.getElem?_eq_some_iff.1 this.1
      rw [he]
      exact this.2
    · have hi := (List.getElem?_eq_some_iff.1 hr).1
      have hj : j < sz := by rw [← hsz i r hr]; exact (List.getElem?_eq_some_iff.1 hl).1
      have hk : i * sz + j < rows.length * sz := by
        have : (i + 1) * sz ≤ rows.length * sz := Nat.mul_le_mul_right sz hi
        rw [Nat.add_mul, Nat.one_mul] at this
        omega
      refine ⟨cv i j, ?_, hrep i j r l hr hl⟩
      rw [List.getElem?_take_of_lt hk, Array.getElem?_toList]
      exact (hcv i j hi hj).1
  | imm _ _ _ b o cap cv hI hsz hcv hrep hlc =>
    let xs : List Value := (List.range (rows.length * sz)).map fun k => cv (k / sz) (k % sz)
    have hxl : xs.length = rows.length * sz := by simp [xs]
    have hxg : ∀ k, k < rows.length * sz → xs[k]? = some (cv (k / sz) (k % sz)) := fun k hk => by simp [xs, hk]
    refine ⟨xs, ⟨hxl, _, cap, rfl, .inr ⟨b, o, rfl, fun j u hj => ?_⟩⟩, fun u hu => ?_, fun _ _ _ => False, fun _ _ _ h => h.elim, fun _ _ _ _ _ h => h.elim, hsz, fun i j r l hr hl => ?_⟩
    · have hjl : j < rows.length * sz := by rw [← hxl]; exact (List.getElem?_eq_some_iff.1 hj).1
      rw [hxg j hjl] at hj
      obtain rfl := Option.some.inj hj
      obtain ⟨g1, g2, g3⟩ := div_mod_row hs hjl
      have := (hcv _ _ g1 g2).1
      rw [← g3] at this
      exact this
    · obtain ⟨k, hk, rfl⟩ := List.mem_iff_getElem.1 hu
      rw [hxl] at hk
      obtain ⟨g1, g2, g3⟩ := div_mod_row hs hk
      have := (hcv _ _ g1 g2).2
      simpa [xs] using this
    · have hi := (List.getElem?_eq_some_iff.1 hr).1
      have hj : j < sz := by rw [← hsz i r hr]; exact (List.getElem?_eq_some_iff.1 hl).1
      have hk : i * sz + j < rows.length * sz := by
        have : (i + 1) * sz ≤ rows.length * sz := Nat.mul_le_mul_right sz hi
        rw [Nat.add_mul, Nat.one_mul] at this
        omega
      refine ⟨cv i j, ?_, hrep i j r l hr hl⟩
      rw [hxg _ hk]
      have e1 : (i * sz + j) / sz = i := by rw [Nat.mul_comm, Nat.mul_add_div hs, Nat.div_eq_of_lt hj, Nat.add_zero]
      have e2 : (i * sz + j) % sz = j := by rw [Nat.mul_comm, Nat.mul_add_mod, Nat.mod_eq_of_lt hj]
      rw [e1, e2]

/-- What is appended: so many elements, their cells; the same in a world that has the same blocks. -/
structure Source (P : Program) (u : TypeId) (x : Value) (m sz : Nat) (news : List Value) (w : World) : Prop where
  notInt : ∃ D, P.underlying u = some D ∧ ∀ k, D ≠ .int k
  len : (Builtin.lenOf x).run P w = .ok m w
  cells : news.length = m * sz
  first : (Builtin.firstCells sz m x).run P w = .ok news.toArray w
  first' : (Builtin.firstCells sz m x).run P w.drew = .ok news.toArray w.drew
  one : ∀ v ∈ news, v.oneCell' = true

theorem append_room {t u ty e : TypeId} {i : TypeInfo} {x : Value} {b n cap m : Nat} {cs : Array Value} {e' : TypeId} {news : List Value} (ht : P.underlying t = some (.slice e)) (hi : P.info? e = some i) (hs : Source P u x m i.size news w)
    (hb : w.heap[b]? = some (.cells cs e' (0, 0))) (hroom : n + m ≤ cap) (hfit : n * i.size + news.length ≤ cs.size) :
    (Builtin.append_ #[t, u] ty #[.slice (some ⟨b, 0, none⟩) n cap, x]).run P w = .ok (.slice (some ⟨b, 0, none⟩) (n + m) cap) (w.setRow b (cs.toList.take (n * i.size) ++ news ++ cs.toList.drop (n * i.size + news.length)).toArray) := by
  obtain ⟨D, hD, hDi⟩ := hs.notInt
  have hst := run_storeCells_at P b (n * i.size) e' news 0 cs w hb (by simpa using hfit) hs.one
  simp only [Nat.add_zero] at hst
  have hz : (match D with | .int _ => true | _ => false) = false := by cases D <;> first | rfl | exact absurd rfl (hDi _)
  simp [Builtin.append_, run_underlying ht, run_underlying hD, sizeOf, typeInfo, hi, hz, hs.len, hroom, hs.first, add_at, hst]

theorem append_grow {t u ty e : TypeId} {i : TypeInfo} {z : Value} {x : Value} {v : Value} {n m : Nat} {cap : Nat} {ad : Option Addr} {olds news : List Value} (ht : P.underlying t = some (.slice e)) (hi : P.info? e = some i) (hz : i.zero = some z) (hs : Source P u x m i.size news w)
    (hold : (Builtin.firstCells i.size n (.slice ad n cap)).run P w.drew = .ok olds.toArray w.drew) (hg : cap < n + m) (h63 : n + m ≤ maxLen) (hb : (n + m) * i.bytes ≤ 140737488355328) :
    (Builtin.append_ #[t, u] ty #[.slice ad n cap, x]).run P w = .ok (.slice (some ⟨w.heap.size, 0, none⟩) (n + m) (grownCap w (n + m) cap e))
      (w.drew.alloc (.cells (olds.toArray ++ news.toArray ++ Builtin.zeroCells z.cells (grownCap w (n + m) cap e - (n + m))) e)) := by
  obtain ⟨D, hD, hDi⟩ := hs.notInt
  have hn : ¬ (n + m ≤ cap) := by omega
  have h63' : ¬ (9223372036854775807 < ((n : Int) + (m : Int))) := by unfold maxLen at h63; omega
  have h48' : ¬ (281474976710656 < Builtin.nextslicecap (n + m) cap * i.bytes) := by have := growslice_fits hg hb; omega
  have hzz : (match D with | .int _ => true | _ => false) = false := by cases D <;> first | rfl | exact absurd rfl (hDi _)
  simp [Builtin.append_, run_underlying ht, run_underlying hD, sizeOf, typeInfo, zeroValue, hi, hz, hzz, hs.len, hn, h63', h48', Question.forced, hs.first', hold, newRow, grownCap]
  congr 2
  apply Array.ext'
  simp [List.append_assoc]

theorem CellsAt.drew {v : Value} {n sz : Nat} {xs : List Value} (h : CellsAt w v n sz xs) : CellsAt w.drew v n sz xs := by
  obtain ⟨hl, ad, cap, rfl, hc⟩ := h
  exact ⟨hl, ad, cap, rfl, hc⟩
theorem source_slice {u e' : TypeId} {v : Value} {m sz : Nat} {xs : List Value} (hu : P.underlying u = some (.slice e')) (h : CellsAt w v m sz xs) (h1 : ∀ u ∈ xs, u.oneCell' = true) : Source P u v m sz xs w := by
  refine ⟨⟨_, hu, fun k h => by cases h⟩, ?_, h.1, run_first h, run_first h.drew, h1⟩
  obtain ⟨hl, ad, cap, rfl, hc⟩ := h
  rfl
theorem source_str {u : TypeId} {b : ByteArray} (hu : P.underlying u = some .string) : Source P u (.string b) b.size 1 (b.data.toList.map fun x => Value.int .u8 x.toNat) w := by
  have hex : b.extract 0 b.size = b := by
    apply ByteArray.ext
    rw [ByteArray.data_extract]
    exact Array.extract_eq_self_of_le (Nat.le_refl _)
  refine ⟨⟨_, hu, fun k h => by cases h⟩, rfl, (by rw [List.length_map, Array.length_toList, Nat.mul_one]; rfl), ?_, ?_, fun v hv => ?_⟩
  · simp only [Builtin.firstCells, hex, Sem.run_pure]
    congr 1
    apply Array.ext'
    simp
  · simp only [Builtin.firstCells, hex, Sem.run_pure]
    congr 1
    apply Array.ext'
    simp
  · obtain ⟨x, _, rfl⟩ := List.mem_map.1 hv
    rfl

/-- What has been appended, in rows. -/
structure Rows2 (w : World) (I : Nat → Prop) (sz : Nat) (rows2 : List (List L)) (news : List Value) (S2 : Nat → Prop) : Prop where
  len : news.length = rows2.length * sz
  one : ∀ v ∈ news, v.oneCell' = true
  ex : ∃ D : Nat → Nat → Nat → Prop, (∀ i j x, D i j x → S2 x) ∧ (∀ i j i' j' x, D i j x → D i' j' x → i = i' ∧ j = j') ∧
      (∀ (i : Nat) r, rows2[i]? = some r → r.length = sz) ∧ ∀ (i j : Nat) r l, rows2[i]? = some r → r[j]? = some l → ∃ u, news[i * sz + j]? = some u ∧ RepL w I l u (D i j)

theorem Rows2.world {sz : Nat} {rows2 : List (List L)} {news : List Value} {S2 : Nat → Prop} (h : Rows2 w I sz rows2 news S2) (hw : ∀ b, S2 b ∨ I b → w'.heap[b]? = w.heap[b]?) : Rows2 w' I sz rows2 news S2 := by
  obtain ⟨h1, h2, D, d1, d2, d3, d4⟩ := h
  refine ⟨h1, h2, D, d1, d2, d3, fun i j r l hr hl => ?_⟩
  obtain ⟨u, u1, u2⟩ := d4 i j r l hr hl
  exact ⟨u, u1, u2.world fun b hb => hw b (hb.imp (d1 i j b) id)⟩

/-- Rows behind rows. -/
theorem Rows2.append {sz : Nat} {rows rows2 : List (List L)} {xs news : List Value} {S S2 : Nat → Prop} (hs : 0 < sz) (h : Rows2 w I sz rows xs S) (k : Rows2 w I sz rows2 news S2) (hd : ∀ x, S2 x → ¬ S x) : Rows2 w I sz (rows ++ rows2) (xs ++ news) (fun x => S x ∨ S2 x) := by
  obtain ⟨h1, h2, D, d1, d2, d3, d4⟩ := h
  obtain ⟨k1, k2, E, e1, e2, e3, e4⟩ := k
  refine ⟨by rw [List.length_append, List.length_append, h1, k1, Nat.add_mul], fun v hv => (List.mem_append.1 hv).elim (h2 v) (k2 v), fun i j x => if i < rows.length then D i j x else E (i - rows.length) j x, fun i j x hx => ?_, fun i j i' j' x hx hx' => ?_, fun i r hr => ?_, fun i j r l hr hl => ?_⟩
  · simp only at hx
    split at hx
    · exact .inl (d1 i j x hx)
    · exact .inr (e1 _ j x hx)
  · simp only at hx hx'
    split at hx <;> split at hx'
    · exact d2 i j i' j' x hx hx'
    · exact absurd (d1 _ _ x hx) (hd x (e1 _ _ x hx'))
    · exact absurd (d1 _ _ x hx') (hd x (e1 _ _ x hx))
    · have := e2 _ _ _ _ x hx hx'
      exact ⟨by omega, this.2⟩
  · by_cases hi : i < rows.length
    · rw [List.getElem?_append_left hi] at hr
      exact d3 i r hr
    · rw [List.getElem?_append_right (by omega)] at hr
      exact e3 _ r hr
  · by_cases hi : i < rows.length
    · rw [List.getElem?_append_left hi] at hr
      obtain ⟨u, u1, u2⟩ := d4 i j r l hr hl
      refine ⟨u, ?_, by simp only [if_pos hi]; exact u2⟩
      rw [List.getElem?_append_left (List.getElem?_eq_some_iff.1 u1).1]
      exact u1
    · rw [List.getElem?_append_right (by omega)] at hr
      obtain ⟨u, u1, u2⟩ := e4 _ j r l hr hl
      refine ⟨u, ?_, by simp only [if_neg hi]; exact u2⟩
      have hle : xs.length ≤ i * sz + j := by
        rw [h1]
        have : rows.length * sz ≤ i * sz := Nat.mul_le_mul_right sz (by omega)
        omega
      rw [List.getElem?_append_right hle, h1]
      rw [← u1]
      congr 1
      rw [Nat.sub_mul]
      have : rows.length * sz ≤ i * sz := Nat.mul_le_mul_right sz (by omega)
      omega

/-- Rows at the head of a block are an owned slice. -/
theorem Rows2.own {sz : Nat} {rows : List (List L)} {xs : List Value} {S : Nat → Prop} {b cap : Nat} {cs : Array Value} {e : TypeId} (h : Rows2 w I sz rows xs S) (hs : 0 < sz) (hb : w.heap[b]? = some (.cells cs e (0, 0))) (hcap : rows.length ≤ cap) (hm : cap ≤ maxLen) (hcs : cs.size = cap * sz)
    (hx : ∀ k, k < xs.length → cs[k]? = xs[k]?) (hne : ∀ x, S x → x ≠ b) : RepL w I (.sl true sz rows) (.slice (some ⟨b, 0, none⟩) rows.length cap) (fun x => S x ∨ x = b) := by
  obtain ⟨h1, h2, D, d1, d2, d3, d4⟩ := h
  have hk : ∀ i j, i < rows.length → j < sz → i * sz + j < xs.length := fun i j hi hj => by
    rw [h1]
    have : (i + 1) * sz ≤ rows.length * sz := Nat.mul_le_mul_right sz hi
    rw [Nat.add_mul, Nat.one_mul] at this
    omega
  refine .own sz rows _ b cap cs e (fun i j => (xs[i * sz + j]?).getD undef) D (.inr rfl) hcap hm hb hcs d3 (fun i j hi hj => ?_) (fun i j x hx => ⟨.inl (d1 i j x hx), hne x (d1 i j x hx)⟩) d2 (fun i j r l hr hl => ?_)
  · have hlt := hk i j hi hj
    rw [hx _ hlt, List.getElem?_eq_getElem hlt]
    exact ⟨rfl, h2 _ (List.getElem_mem hlt)⟩
  · obtain ⟨u, u1, u2⟩ := d4 i j r l hr hl
    rw [u1]
    exact u2

/-- The appended slice goes into a slot. -/
theorem good_app {d : Tmp} {t u e : TypeId} {i : TypeInfo} {z : Value} {rows rows2 : List (List L)} {news : List Value} {S S2 : Nat → Prop} {v x : Value} (h : Rel arg W I O s a.tmps w) (hd : d < a.tmps.size)
    (ht : P.underlying t = some (.slice e)) (hi : P.info? e = some i) (hz : i.zero = some z) (hzs : z.cells.size = i.size) (hpos : 0 < i.size)
    (hv : RepL w I (.sl true i.size rows) v S) (h' : Rel arg W I O' s' a.tmps w) (ho : Out O O' (fun y => S y ∨ S2 y)) (hd2 : ∀ y, S2 y → ¬ S y)
    (hs : Source P u x rows2.length i.size news w) (hr2 : Rows2 w I i.size rows2 news S2) (hb : (rows.length + rows2.length) * i.bytes ≤ 140737488355328) (hmax : rows.length + rows2.length ≤ maxLen) (ty : TypeId) :
    ∃ v' w', (Builtin.append_ #[t, u] ty #[v, x]).run P w = .ok v' w' ∧ Good arg W I O w a (s'.put d (.v (.leaf (.sl true i.size (rows ++ rows2))))) (some d) (a.put (some d) v') w' := by
  have hlt : ∀ b, S b ∨ S2 b → b < w.heap.size := fun b hb => by obtain ⟨t, ht⟩ := ho.1 b hb; exact h.olt t b ht
  have hnI : ∀ b, S b ∨ S2 b → ¬ I b := fun b hb => by obtain ⟨t, ht⟩ := ho.1 b hb; exact h.notI t b ht
  obtain ⟨xs, hxs, hone, D, d1, d2, d3, d4⟩ := sl_list hv hpos
  have hr1 : Rows2 w I i.size rows xs S := ⟨hxs.1, hone, D, d1, d2, d3, d4⟩
  -- the new slot, once the value lies as it should in a later world
  have fin : ∀ (v' : Value) (w' : World) (T : Nat → Prop), Below W.heap.size W w' → w.heap.size ≤ w'.heap.size → (∀ b, b < w.heap.size → ¬ (S b ∨ S2 b) → w'.heap[b]? = w.heap[b]?) → (∀ b, T b → S b ∨ S2 b ∨ (w.heap.size ≤ b ∧ b < w'.heap.size)) →
      v'.oneCell' = true → RepL w' I (.sl true i.size (rows ++ rows2)) v' T → Good arg W I O w a (s'.put d (.v (.leaf (.sl true i.size (rows ++ rows2))))) (some d) (a.put (some d) v') w' := by
    intro v' w' T hbel hsz hkept hT h1 hrep
    -- the others do not see the change
    have h'' : Rel arg W I O' s' a.tmps w' := by
      refine ⟨hbel, h'.old, fun b hb => Nat.lt_of_lt_of_le (h'.ilt b hb) hsz, fun t b hb => Nat.lt_of_lt_of_le (h'.olt t b hb) hsz, h'.notI, h'.disj, fun t => ?_⟩
      have hk : ∀ b, (∃ t, O' t b) ∨ I b → w'.heap[b]? = w.heap[b]? := fun b hb => hkept b (hb.elim (fun ⟨t, ht⟩ => h'.olt t b ht) (h'.ilt b)) (fun hs => hb.elim (fun ⟨t, ht⟩ => ho.2.2 t b ht hs) (hnI b hs))
      have hr := h'.rep t
      have hroot : ∀ r p B row, Roots w s'.e a.tmps r p B row → Roots w' s'.e a.tmps r p B row ∧ ∀ j, j < row.length → B.get w' j = B.get w j := fun r p B row ⟨c, g1, g2⟩ => by
        have hrr := h'.rep r
        rw [g1] at hrr
        obtain ⟨k1, k2⟩ := g2.world (w' := w') (RepC.root hrr) (fun y hy => hk y (.inl ⟨r, hy.1⟩)) (fun j _ => by
          cases hb : c.base (a.tmps.getD r undef) with
          | vals cs => rfl
          | addr b o2 => exact World.cell?_of_block (w := w) (w' := w') (a := ⟨b, o2 + j, none⟩) (hk b (.inl ⟨r, (base_owned hrr hb).1⟩)))
        exact ⟨⟨c, g1, k1⟩, k2⟩
      cases hav : s'.e.get t with
      | bad => trivial
      | un => rw [hav] at hr; exact hr
      | v c => rw [hav] at hr; exact RepC.world hr fun b hb => hk b (hb.imp (fun h => ⟨t, h⟩) id)
      | tup cs =>
        rw [hav] at hr
        obtain ⟨us, h1, h2, D, d1, d2, d3⟩ := hr
        refine ⟨us, h1, h2, D, d1, d2, fun j c hc => ?_⟩
        obtain ⟨u, u1, u2⟩ := d3 j c hc
        exact ⟨u, u1, u2.world fun b hb => hk b (hb.imp (fun h => ⟨t, d1 j b h⟩) id)⟩
      | iptr row o =>
        rw [hav] at hr
        obtain ⟨b, o', h1, h2, h3⟩ := hr
        exact ⟨b, o', h1, h2, h3.world (fun j _ => World.cell?_of_block (w := w) (w' := w') (a := ⟨b, o' + j, none⟩) (hk b (.inr h1))) fun y hy => hk y (.inr (hy.resolve_left id))⟩
      | ptr r p o =>
        rw [hav] at hr
        intro hc
        obtain ⟨b, o', row', k1, k2⟩ := hr hc
        exact ⟨b, o', row', (hroot _ _ _ _ k1).1, k2⟩
      | ld r p o n g =>
        rw [hav] at hr
        intro hc
        obtain ⟨B, row', k1, k0, k2, k3⟩ := hr hc
        obtain ⟨q1, q2⟩ := hroot _ _ _ _ k1
        refine ⟨B, row', q1, k0, fun ha => ?_, fun ha => ?_⟩
        · obtain ⟨cs, m1, m2, m3⟩ := k2 ha
          exact ⟨cs, m1, m2, fun j hj => (m3 j hj).trans (q2 (o + j) (by omega)).symm⟩
        · obtain ⟨m1, m2⟩ := k3 ha
          exact ⟨m1, (q2 o (by omega)).trans m2⟩
    have hst := h''.step (d := d) (av := .v (.leaf (.sl true i.size (rows ++ rows2)))) (v := v') (S := T) hd (Below.refl _ _) (fun b hb => by
      rcases hT b hb with hb | hb | hb
      · exact ⟨Nat.lt_of_lt_of_le (hlt b (.inl hb)) hsz, hnI b (.inl hb), fun t _ ht => ho.2.2 t b ht (.inl hb)⟩
      · exact ⟨Nat.lt_of_lt_of_le (hlt b (.inr hb)) hsz, hnI b (.inr hb), fun t _ ht => ho.2.2 t b ht (.inr hb)⟩
      · exact ⟨hb.2, fun hi => by have := h.ilt b hi; omega, fun t _ ht => by have := h'.olt t b ht; omega⟩) ⟨h1, hrep⟩ (fun _ _ _ h => by cases h)
    refine ⟨I, _, rfl, put_size .., hst, ⟨fun _ h => h, hsz, fun b hb hno => hkept b hb fun hs => by obtain ⟨t, ht⟩ := ho.1 b hs; exact hno t ht, fun b hb => ?_⟩, fun t ht => ?_⟩
    · rcases hb with ⟨t, hb⟩ | hb
      · by_cases ht : t = d
        · simp only [ht, if_true] at hb
          rcases hT b hb with hb | hb | hb
          · exact .inl (ho.1 b (.inl hb))
          · exact .inl (ho.1 b (.inr hb))
          · exact .inr (.inr hb.1)
        · simp only [ht, if_false] at hb; exact .inl ⟨t, ho.2.1 t b hb⟩
      · exact .inr (.inl hb)
    · simp only [Act.put]
      rw [getD_set hd, if_neg (fun e => ht (by rw [e]))]
  have hall := hr1.append hpos hr2 hd2
  have hlen : (xs ++ news).length = (rows.length + rows2.length) * i.size := by rw [hall.len, List.length_append]
  -- a new block
  have grow : ∀ ad cap, v = .slice ad rows.length cap → cap < rows.length + rows2.length → ∃ v' w', (Builtin.append_ #[t, u] ty #[v, x]).run P w = .ok v' w' ∧ Good arg W I O w a (s'.put d (.v (.leaf (.sl true i.size (rows ++ rows2))))) (some d) (a.put (some d) v') w' := by
    intro ad cap hvv hcap
    have hfo := run_first (P := P) hxs.drew
    rw [hvv] at hfo
    have hrun := append_grow (P := P) (v := v) (ty := ty) ht hi hz hs hfo hcap hmax hb
    refine ⟨_, _, by rw [hvv]; exact hrun, ?_⟩
    have hge := grownCap_ge w (rows.length + rows2.length) cap e
    have hle := grownCap_le_maxLen w (rows.length + rows2.length) cap e hmax
    have hnew := new_at w.drew (.cells (xs.toArray ++ news.toArray ++ Builtin.zeroCells z.cells (grownCap w (rows.length + rows2.length) cap e - (rows.length + rows2.length))) e)
    refine fin _ _ (fun y => (S y ∨ S2 y) ∨ y = w.heap.size) ?_ (by simp) (fun b hb _ => Below.heap_alloc w.drew _ b hb) (fun b hb => ?_) rfl ?_
    · exact (h.bel.drew).alloc (by simpa using h.bel.size) _
    · rcases hb with (hb | hb) | rfl
      · exact .inl hb
      · exact .inr (.inl hb)
      · exact .inr (.inr ⟨Nat.le_refl _, by simp⟩)
    · have hw' := hall.world (w' := w.drew.alloc (.cells (xs.toArray ++ news.toArray ++ Builtin.zeroCells z.cells (grownCap w (rows.length + rows2.length) cap e - (rows.length + rows2.length))) e)) (fun b hb => Below.heap_alloc w.drew _ b (hb.elim (hlt b) (h.ilt b)))
      have := hw'.own (b := w.heap.size) (cap := grownCap w (rows.length + rows2.length) cap e) hpos hnew (by rw [List.length_append]; exact hge) hle (by
        rw [List.length_append] at hlen
        simp only [Array.size_append, List.size_toArray, size_zeroCells, hzs]
        rw [hlen, ← Nat.add_mul]
        congr 1
        omega) (fun k hk => by
        rw [show xs.toArray ++ news.toArray = (xs ++ news).toArray by simp, Array.getElem?_append_left (by simpa using hk), List.getElem?_toArray]) (fun y hy he => by have := hlt y hy; omega)
      rw [List.length_append] at this
      exact this
  cases hv with
  | nil _ _ _ ad cap hn =>
    obtain ⟨rfl, rfl⟩ := hn rfl
    by_cases hm : rows2.length = 0
    · -- nothing behind nothing
      have h2 : rows2 = [] := List.eq_nil_of_length_eq_zero hm
      subst h2
      obtain ⟨D', hD', hDi⟩ := hs.notInt
      have hz' : (match D' with | .int _ => true | _ => false) = false := by cases D' <;> first | rfl | exact absurd rfl (hDi _)
      have hrun : (Builtin.append_ #[t, u] ty #[.slice none 0 0, x]).run P w = .ok (.slice none 0 0) w := by
        have hl := hs.len
        have hf := hs.first
        simp only [List.length_nil] at hl hf
        simp [Builtin.append_, run_underlying ht, run_underlying hD', sizeOf, typeInfo, hi, hz', hl, hf]
      exact ⟨_, _, hrun, fin _ _ (fun _ => False) h.bel (Nat.le_refl _) (fun _ _ _ => rfl) (fun _ h => h.elim) rfl (.nil _ _ _ _ _ (fun _ => ⟨rfl, rfl⟩))⟩
    · exact grow none 0 rfl (by simp only [List.length_nil]; omega)
  | own _ _ _ b cap cs e' cv D0 hS hlen0 hcap hb0 hcs hsz hcv hD hdis hrep =>
    by_cases hroom : rows.length + rows2.length ≤ cap
    · have hfit : rows.length * i.size + news.length ≤ cs.size := by
        rw [hr2.len, hcs, ← Nat.add_mul]
        exact Nat.mul_le_mul_right _ hroom
      have hrun := append_room (P := P) (ty := ty) ht hi hs hb0 hroom hfit
      refine ⟨_, _, hrun, ?_⟩
      generalize hcs' : (cs.toList.take (rows.length * i.size) ++ news ++ cs.toList.drop (rows.length * i.size + news.length)).toArray = cs'
      have hb' : (w.setRow b cs').heap[b]? = some (.cells cs' e' (0, 0)) := setRow_heap w b cs cs' e' _ hb0
      have hoth : ∀ k, k ≠ b → (w.setRow b cs').heap[k]? = w.heap[k]? := fun k hk => setRow_other w b k cs' hk
      have hcsz : cs'.size = cap * i.size := by
        rw [← hcs', ← hcs]
        simp only [List.size_toArray, List.length_append, List.length_take, List.length_drop, Array.length_toList]
        omega
      -- the block's own rows, nested blocks apart
      let S0 : Nat → Prop := fun y => S y ∧ y ≠ b
      have hxs0 : xs = cs.toList.take (rows.length * i.size) := by
        obtain ⟨g1, ad, cap2, g2, g3⟩ := hxs
        simp only [Value.slice.injEq] at g2
        obtain ⟨rfl, _, rfl⟩ := g2
        apply List.ext_getElem?
        intro k
        by_cases hk : k < rows.length * i.size
        · have hkx : k < xs.length := by omega
          rcases g3 with g3 | ⟨b2, q2, g4, g5⟩
          · rw [g3] at hk; simp at hk
          · simp only [Option.some.injEq, Addr.mk.injEq] at g4
            obtain ⟨rfl, rfl, _⟩ := g4
            have := g5 k _ (List.getElem?_eq_getElem hkx)
            rw [Nat.zero_add, cell_of hb0] at this
            rw [List.getElem?_eq_getElem hkx, List.getElem?_take_of_lt hk, Array.getElem?_toList, this]
        · rw [List.getElem?_eq_none (by omega), List.getElem?_eq_none (by rw [List.length_take]; omega)]
      have hr0 : Rows2 w I i.size rows xs S0 := by
        refine ⟨hxs.1, hone, D0, fun i' j y hy => hD i' j y hy, hdis, hsz, fun i' j r l hr hl => ⟨cv i' j, ?_, hrep i' j r l hr hl⟩⟩
        have hi' := (List.getElem?_eq_some_iff.1 hr).1
        have hj : j < i.size := by rw [← hsz i' r hr]; exact (List.getElem?_eq_some_iff.1 hl).1
        have hk : i' * i.size + j < rows.length * i.size := by
          have : (i' + 1) * i.size ≤ rows.length * i.size := Nat.mul_le_mul_right _ hi'
          rw [Nat.add_mul, Nat.one_mul] at this
          omega
        rw [hxs0, List.getElem?_take_of_lt hk, Array.getElem?_toList]
        exact (hcv i' j hi' hj).1
      have hbS : b < w.heap.size := hlt b (.inl hS)
      have hall0 := hr0.append hpos hr2 (fun y hy hs => hd2 y hy hs.1)
      have hw' := hall0.world (w' := w.setRow b cs') (fun y hy => hoth y fun he => by
        rcases hy with (hy | hy) | hy
        · exact hy.2 he
        · exact hd2 y hy (he ▸ hS)
        · exact hnI b (.inl hS) (he ▸ hy))
      refine fin _ _ (fun y => (S0 y ∨ S2 y) ∨ y = b) ?_ (by simp) (fun y _ hno => hoth y fun he => hno (.inl (he ▸ hS))) (fun y hy => ?_) rfl ?_
      · exact below_setRow h.bel b (Nat.le_of_not_lt fun hlt' => hnI b (.inl hS) (h.old b hlt')) cs'
      · rcases hy with (hy | hy) | rfl
        · exact .inl hy.1
        · exact .inr (.inl hy)
        · exact .inl hS
      · have := hw'.own (b := b) (cap := cap) hpos hb' (by rw [List.length_append]; exact hroom) hcap hcsz (fun k hk => by
          rw [List.length_append] at hk
          have hxl : xs.length = rows.length * i.size := hxs.1
          rw [← hcs', List.getElem?_toArray, ← hxs0, List.getElem?_append_left (by rw [List.length_append]; exact hk)]) (fun y hy he => by
          rcases hy with hy | hy
          · exact hy.2 he
          · exact hd2 y hy (he ▸ hS))
        rw [List.length_append] at this
        exact this
    · exact grow _ _ rfl (by omega)

theorem strRows_rows2 (b : ByteArray) : Rows2 w I 1 (strRows b) (b.data.toList.map fun x => Value.int .u8 x.toNat) (fun _ => False) := by
  refine ⟨by simp [strRows], fun v hv => ?_, fun _ _ _ => False, fun _ _ _ h => h.elim, fun _ _ _ _ _ h => h.elim, fun i r hr => ?_, fun i j r l hr hl => ?_⟩
  · obtain ⟨x, _, rfl⟩ := List.mem_map.1 hv
    rfl
  · simp only [strRows, List.getElem?_map, Option.map_eq_some_iff] at hr
    obtain ⟨x, _, rfl⟩ := hr
    rfl
  · simp only [strRows, List.getElem?_map, Option.map_eq_some_iff] at hr
    obtain ⟨x, hx, rfl⟩ := hr
    cases j with
    | zero =>
      simp at hl
      subst hl
      exact ⟨.int .u8 x.toNat, by simp [hx], .int ..⟩
    | succ j => simp at hl

theorem sound_app {o : Oper} {d : Tmp} {t u e : TypeId} {i : TypeInfo} {z : Value} {x y : Operand} {X Y : VS.X} {str : Bool} (ho : o.op = .call { callee := .builtin .append, args := #[x, y], argTypes := #[t, u] }) (hd : o.dst = some d) (hx : compX P t x = some X) (hy : compX P t y = some Y)
    (ht : P.underlying t = some (.slice e)) (hi : P.info? e = some i) (hz : i.zero = some z) (hzs : z.cells.size = i.size) (hpos : 0 < i.size) (hby : 0 < i.bytes) (hu : if str then P.underlying u = some .string else ∃ e', P.underlying u = some (.slice e')) :
    Sound1 P arg W G F o (.app d X Y i.size i.bytes str) := by
  intro I O s s' a w K Q h hdl hv hk
  replace hdl := hdl d rfl
  have hX := compX_val hx a
  have hY := compX_val hy a
  have hmx : ∀ k, k * i.bytes ≤ 140737488355328 → k ≤ maxLen := fun k hk => by have := Nat.le_trans (Nat.le_mul_of_pos_right k hby) hk; unfold maxLen; omega
  simp only [vop] at hv
  have key : ∀ (s2 : RS) (O2 : Tmp → Nat → Prop) (rows rows2 : List (List L)) (news : List Value) (S S2 : Nat → Prop), RepL w I (.sl true i.size rows) (a.eval x) S → Rel arg W I O2 s2 a.tmps w → Out O O2 (fun y => S y ∨ S2 y) → (∀ y, S2 y → ¬ S y) →
      Source P u (a.eval y) rows2.length i.size news w → Rows2 w I i.size rows2 news S2 → (rows.length + rows2.length) * i.bytes ≤ 140737488355328 → rows.length + rows2.length ≤ maxLen → s' = s2.put d (.v (.leaf (.sl true i.size (rows ++ rows2)))) → o.wp P a w K Q := by
    intro s2 O2 rows rows2 news S S2 r1 r2 r3 r4 r5 r6 r7 r8 r9
    obtain ⟨v', w', hrun, hg⟩ := good_app (P := P) (t := t) (u := u) (x := a.eval y) h hdl ht hi hz hzs hpos r1 r2 r3 r4 r5 r6 r7 r8 o.type
    have hex : (execOp a.eval o).run P w = .ok (.value v') w' := by
      simp only [execOp, ho, resolve, invoke, builtin, Sem.run_bind, Sem.run_pure, Result.andThen_ok, List.map_toArray, List.map_cons, List.map_nil, hrun]
    refine oper_value hex (hk _ _ ?_)
    rw [hd, r9]
    exact hg
  split at hv
  · rename_i sz' rows s1 htk
    obtain ⟨S, O1, ⟨_, r1⟩, r2, r3⟩ := h.take hX htk
    split at hv
    · rename_i b hlk
      split at hv
      · rename_i hc
        obtain ⟨rfl, rfl, hsz1, hb⟩ := hc
        have hyv := look_str r2 hY hlk
        have hlen : (strRows b).length = b.size := by simp [strRows]
        refine key s1 O1 rows (strRows b) (b.data.toList.map fun x => Value.int .u8 x.toNat) S (fun _ => False) r1 r2 ⟨fun y hy => hy.elim (r3.1 y) (fun h => h.elim), r3.2.1, fun t y h1 h2 => h2.elim (r3.2.2 t y h1) id⟩ (fun _ h => h.elim) ?_ ?_ (by rw [hlen]; exact hb) ?_ (Option.some.inj hv).symm
        · rw [hyv, hlen, hsz1]
          exact source_str hu
        · rw [hsz1]; exact strRows_rows2 b
        · rw [hlen]; exact hmx _ hb
      · cases hv
    · rename_i sz2 rows2 hlk
      split at hv
      · rename_i hc
        obtain ⟨rfl, rfl, rfl, hb⟩ := hc
        obtain ⟨_, S2, _, q2, _⟩ := look_leaf r2 hY hlk
        have q3 := q2.unowned (S' := fun _ => False) rfl
        obtain ⟨xs2, x1, x2, D, d1, d2, d3, d4⟩ := sl_list q3 hpos
        obtain ⟨e2, hu⟩ := hu
        exact key s1 O1 rows rows2 xs2 S (fun _ => False) r1 r2 ⟨fun y hy => hy.elim (r3.1 y) (fun h => h.elim), r3.2.1, fun t y h1 h2 => h2.elim (r3.2.2 t y h1) id⟩ (fun _ h => h.elim) (source_slice hu x1 x2) ⟨x1.1, x2, D, d1, d2, d3, d4⟩ hb (hmx _ hb) (Option.some.inj hv).symm
      · cases hv
    · rename_i hlk
      split at hv
      · rename_i o2 sz2 rows2 s2 htk2
        split at hv
        · rename_i hc
          obtain ⟨rfl, rfl, rfl, hb⟩ := hc
          obtain ⟨S2, O2, ⟨_, q1⟩, q2, q3⟩ := r2.take hY htk2
          obtain ⟨xs2, x1, x2, D, d1, d2, d3, d4⟩ := sl_list q1 hpos
          obtain ⟨e2, hu⟩ := hu
          exact key s2 O2 rows rows2 xs2 S S2 r1 q2 (r3.trans q3) (r3.apart q3) (source_slice hu x1 x2) ⟨x1.1, x2, D, d1, d2, d3, d4⟩ hb (hmx _ hb) (Option.some.inj hv).symm
        · cases hv
      · cases hv
    · cases hv
  · cases hv

end Go.VS
