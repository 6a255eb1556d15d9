/- Operations, fifth part: structs compared; a store. -/
import Derived.Test.YtdoelepflcaijaaEngMade
namespace Go.VS
open Go Go.RowKit
set_option linter.unusedSimpArgs false
set_option linter.unusedVariables false

variable {P : Program} {arg : Tmp → Value} {W w w' : World} {I I' : Nat → Prop} {O O' : Tmp → Nat → Prop} {s s' : RS} {a : Act} {K : Act → World → Prop} {Q : Exit → Act → World → Prop} {G : Sigs} {F : Fns}

theorem eqLs_int {es : List EK} {l1 l2 : List L} {r : Bool} (h : eqLs (.int :: es) l1 l2 = some r) : ∃ k p xs q ys r', l1 = .int k p :: xs ∧ l2 = .int k q :: ys ∧ eqLs es xs ys = some r' ∧ r = ((p == q) && r') := by
  cases l1 with
  | nil => cases l2 <;> simp [eqLs] at h
  | cons x xs =>
    cases l2 with
    | nil => cases x <;> simp [eqLs] at h
    | cons y ys =>
      cases x <;> cases y <;> simp only [eqLs] at h <;> try (cases h; done)
      split at h
      · rename_i hk
        subst hk
        rw [Option.map_eq_some_iff] at h
        obtain ⟨r', h1, h2⟩ := h
        exact ⟨_, _, _, _, _, r', rfl, rfl, h1, h2.symm⟩
      · cases h
theorem eqLs_str {es : List EK} {l1 l2 : List L} {r : Bool} (h : eqLs (.str :: es) l1 l2 = some r) : ∃ p xs q ys r', l1 = .str p :: xs ∧ l2 = .str q :: ys ∧ eqLs es xs ys = some r' ∧ r = ((p.toList == q.toList) && r') := by
  cases l1 with
  | nil => cases l2 <;> simp [eqLs] at h
  | cons x xs =>
    cases l2 with
    | nil => cases x <;> simp [eqLs] at h
    | cons y ys =>
      cases x <;> cases y <;> simp only [eqLs] at h <;> try (cases h; done)
      rw [Option.map_eq_some_iff] at h
      obtain ⟨r', h1, h2⟩ := h
      exact ⟨_, _, _, _, r', rfl, rfl, h1, h2.symm⟩
theorem eqLs_bool {es : List EK} {l1 l2 : List L} {r : Bool} (h : eqLs (.bool :: es) l1 l2 = some r) : ∃ p xs q ys r', l1 = .bool p :: xs ∧ l2 = .bool q :: ys ∧ eqLs es xs ys = some r' ∧ r = ((p == q) && r') := by
  cases l1 with
  | nil => cases l2 <;> simp [eqLs] at h
  | cons x xs =>
    cases l2 with
    | nil => cases x <;> simp [eqLs] at h
    | cons y ys =>
      cases x <;> cases y <;> simp only [eqLs] at h <;> try (cases h; done)
      rw [Option.map_eq_some_iff] at h
      obtain ⟨r', h1, h2⟩ := h
      exact ⟨_, _, _, _, r', rfl, rfl, h1, h2.symm⟩

theorem eqLs_run {xs ys : Array Value} (d : Nat) : ∀ (fs : List Field) (i : Nat) (es : List EK) (l1 l2 : List L) (r : Bool), flatFs P i fs = some es → eqLs es l1 l2 = some r →
    (∀ (j : Nat) l, l1[j]? = some l → ∃ v, xs[i + j]? = some v ∧ ∃ S, RepL w I l v S) → (∀ (j : Nat) l, l2[j]? = some l → ∃ v, ys[i + j]? = some v ∧ ∃ S, RepL w I l v S) →
    (Op.eqFields (d + 1) xs ys fs).run P w = .ok r w
  | [], i, es, l1, l2, r, hf, he, _, _ => by
    simp only [flatFs, Option.some.injEq] at hf
    subst hf
    cases l1 with
    | nil =>
      cases l2 with
      | nil => simp only [eqLs, Option.some.injEq] at he; subst he; rfl
      | cons => simp [eqLs] at he
    | cons => simp [eqLs] at he
  | f :: fs, i, es, l1, l2, r, hf, he, h1, h2 => by
    simp only [flatFs] at hf
    split at hf
    · rename_i hc
      obtain ⟨ho, hnm⟩ := hc
      have hpart : ∀ (zs : Array Value) (v : Value), P.underlying f.type = some .string ∨ P.underlying f.type = some .bool ∨ (∃ k, P.underlying f.type = some (.int k)) → zs[i]? = some v → (part f.type zs f.offset).run P w = .ok v w := by
        intro zs v hu hz
        have hg : aggB P f.type = some false := by
          unfold aggB
          rcases hu with hu | hu | ⟨k, hu⟩ <;> rw [hu] <;> rfl
        unfold part
        rw [Sem.run_bind, run_isAgg hg, Result.andThen_ok]
        simp [ho, hz]
      have shift : ∀ (zs : Array Value) (l : L) (ls : List L), (∀ (j : Nat) l', (l :: ls)[j]? = some l' → ∃ v, zs[i + j]? = some v ∧ ∃ S, RepL w I l' v S) → ∀ (j : Nat) l', ls[j]? = some l' → ∃ v, zs[i + 1 + j]? = some v ∧ ∃ S, RepL w I l' v S := by
        intro zs l ls h j l' hl
        have := h (j + 1) l' (by simpa using hl)
        rwa [show i + (j + 1) = i + 1 + j by omega] at this
      unfold Op.eqFields
      rw [if_pos hnm]
      cases hu : P.underlying f.type with
      | none => rw [hu] at hf; cases hf
      | some D =>
        cases hfs : flatFs P (i + 1) fs with
        | none => rw [hu, hfs] at hf; cases D <;> cases hf
        | some es' =>
          rw [hu, hfs] at hf
          cases D with
          | int k =>
            obtain rfl := Option.some.inj hf
            obtain ⟨k1, p, xs', q, ys', r', rfl, rfl, hr', rfl⟩ := eqLs_int he
            obtain ⟨v1, v1h, _, v1r⟩ := h1 0 _ rfl
            obtain ⟨v2, v2h, _, v2r⟩ := h2 0 _ rfl
            cases v1r; cases v2r
            rw [Nat.add_zero] at v1h v2h
            rw [Sem.run_bind, hpart xs _ (.inr (.inr ⟨k, hu⟩)) v1h, Result.andThen_ok, Sem.run_bind, hpart ys _ (.inr (.inr ⟨k, hu⟩)) v2h, Result.andThen_ok, Sem.run_bind, run_equalIn_int w d f.type k1 k p q hu, Result.andThen_ok]
            have ih := eqLs_run d fs (i + 1) _ xs' ys' r' hfs hr' (shift _ _ _ h1) (shift _ _ _ h2)
            cases hpq : (p == q)
            · simp
            · simp [ih]
          | string =>
            obtain rfl := Option.some.inj hf
            obtain ⟨p, xs', q, ys', r', rfl, rfl, hr', rfl⟩ := eqLs_str he
            obtain ⟨v1, v1h, _, v1r⟩ := h1 0 _ rfl
            obtain ⟨v2, v2h, _, v2r⟩ := h2 0 _ rfl
            cases v1r; cases v2r
            rw [Nat.add_zero] at v1h v2h
            rw [Sem.run_bind, hpart xs _ (.inl hu) v1h, Result.andThen_ok, Sem.run_bind, hpart ys _ (.inl hu) v2h, Result.andThen_ok, Sem.run_bind, run_equalIn_string w d f.type p q hu, Result.andThen_ok]
            have ih := eqLs_run d fs (i + 1) _ xs' ys' r' hfs hr' (shift _ _ _ h1) (shift _ _ _ h2)
            cases hpq : (p.toList == q.toList)
            · simp
            · simp [ih]
          | bool =>
            obtain rfl := Option.some.inj hf
            obtain ⟨p, xs', q, ys', r', rfl, rfl, hr', rfl⟩ := eqLs_bool he
            obtain ⟨v1, v1h, _, v1r⟩ := h1 0 _ rfl
            obtain ⟨v2, v2h, _, v2r⟩ := h2 0 _ rfl
            cases v1r; cases v2r
            rw [Nat.add_zero] at v1h v2h
            rw [Sem.run_bind, hpart xs _ (.inr (.inl hu)) v1h, Result.andThen_ok, Sem.run_bind, hpart ys _ (.inr (.inl hu)) v2h, Result.andThen_ok, Sem.run_bind, run_equalIn_bool' w d f.type p q hu, Result.andThen_ok]
            have ih := eqLs_run d fs (i + 1) _ xs' ys' r' hfs hr' (shift _ _ _ h1) (shift _ _ _ h2)
            cases hpq : (p == q)
            · simp
            · simp [ih]
          | _ => cases hf
    · cases hf

theorem look_agg (h : Rel arg W I O s a.tmps w) {X : VS.X} {v : Value} (hX : XV a.tmps X v) {ls : List L} (hl : s.look (s.val X) = some (.agg ls)) : ∃ cs, v = .agg cs ∧ ∀ (j : Nat) l, ls[j]? = some l → ∃ u, cs[j]? = some u ∧ ∃ S, RepL w I l u S := by
  obtain ⟨t, S, ⟨cs, h1, h2, D, d1, d2, d3⟩, _⟩ := h.look hX hl
  refine ⟨cs, h1, fun j l hl => ?_⟩
  obtain ⟨u, u1, _, u2⟩ := d3 j l hl
  exact ⟨u, u1, _, u2⟩

theorem sound_eqs {o : Oper} {d : Tmp} {op : BinOp} {neg : Bool} {t ty : TypeId} {x y : Operand} {X Y : VS.X} {fs : Array Field} {es : List EK} (ho : o.op = .binOp op t x y ty) (hd : o.dst = some d) (hx : compX P t x = some X) (hy : compX P t y = some Y)
    (ht : P.underlying t = some (.struct fs)) (hfl : flatB P t fs = some es) (hop : op = if neg then .neq else .eql) : Sound1 P arg W G F o (.eqs d neg es X Y) := by
  intro I O s s' a w K Q h hdl hv hk
  replace hdl := hdl d rfl
  simp only [vop] at hv
  split at hv
  · rename_i l1 l2 h1 h2
    split at hv
    · rename_i r hr
      obtain rfl := (Option.some.inj hv).symm
      obtain ⟨c1, e1, g1⟩ := look_agg h (compX_val hx a) h1
      obtain ⟨c2, e2, g2⟩ := look_agg h (compX_val hy a) h2
      unfold flatB at hfl
      split at hfl
      · rename_i hc
        have hfo : P.fieldsOf t = fs := by unfold Program.fieldsOf; rw [ht]
        have hrun0 : (Op.equalIn 10000 t (.agg c1) (.agg c2)).run P w = .ok r w := by
          rw [show (10000 : Nat) = 9999 + 1 from rfl, run_equalIn_struct w 9999 t c1 c2 (by rw [hfo]; exact ht) hc.1, hfo]
          exact eqLs_run 9998 fs.toList 0 es l1 l2 r hfl hr (fun j l hl => by rw [Nat.zero_add]; exact g1 j l hl) (fun j l hl => by rw [Nat.zero_add]; exact g2 j l hl)
        have hrun : (execOp a.eval o).run P w = .ok (.value (.bool (if neg then !r else r))) w := by
          simp only [execOp, ho, e1, e2]
          rw [Sem.run_bind, Sem.run_bind, run_eqGuard_agg w op t x y c1 c2 hc.2, Result.andThen_ok]
          subst hop
          cases neg
          · simp only [Bool.false_eq_true, if_false, run_eql_struct, hrun0, Result.andThen_ok]
            rfl
          · simp only [if_true, run_neq_struct, hrun0, Result.andThen_ok]
            rfl
        refine oper_value hrun (hk _ _ ?_)
        rw [hd]
        exact good_bool h hdl
      · cases hfl
    · cases hv
  · cases hv

/-- Leaves laid over leaves, where both lie somewhere. -/
theorem RepRow.patch {row ls : List L} {get g1 get' : Nat → Option Value} {S S1 : Nat → Prop} {off : Nat} (h : RepRow w I row get S) (h1 : RepRow w I ls g1 S1) (hfit : off + ls.length ≤ row.length) (hd : ∀ x, S1 x → ¬ S x)
    (hg : ∀ j, j < row.length → get' j = if off ≤ j ∧ j < off + ls.length then g1 (j - off) else get j) : RepRow w I (VS.patch row off ls) get' (fun x => S x ∨ S1 x) := by
  obtain ⟨D, d1, d2, d3⟩ := h
  obtain ⟨E, e1, e2, e3⟩ := h1
  refine ⟨fun j x => if off ≤ j ∧ j < off + ls.length then E (j - off) x else D j x, fun j x hx => ?_, fun j j' x hx hx' => ?_, fun j l hlj => ?_⟩
  · simp only at hx
    split at hx
    · exact .inr (e1 _ x hx)
    · exact .inl (d1 _ x hx)
  · simp only at hx hx'
    split at hx <;> split at hx'
    · have := e2 _ _ x hx hx'; omega
    · exact absurd (d1 _ x hx') (hd x (e1 _ x hx))
    · exact absurd (d1 _ x hx) (hd x (e1 _ x hx'))
    · exact d2 _ _ x hx hx'
  · have hjl : j < row.length := by have := (List.getElem?_eq_some_iff.1 hlj).1; rwa [patch_length] at this
    rw [patch_get ls row off j hfit] at hlj
    rw [hg j hjl]
    by_cases hj : off ≤ j ∧ j < off + ls.length
    · rw [if_pos hj] at hlj
      rw [if_pos hj]
      obtain ⟨v, v1, v2, v3⟩ := e3 _ l hlj
      refine ⟨v, v1, v2, ?_⟩
      simp only [if_pos hj]
      exact v3
    · rw [if_neg hj] at hlj
      rw [if_neg hj]
      obtain ⟨v, v1, v2, v3⟩ := d3 _ l hlj
      refine ⟨v, v1, v2, ?_⟩
      simp only [if_neg hj]
      exact v3

theorem below_setRow {B : Nat} {w0 : World} (h : Below B w0 w) (g : Nat) (hg : B ≤ g) (cs : Array Value) : Below B w0 (w.setRow g cs) :=
  h.trans ⟨rfl, rfl, rfl, by simp, fun k hk => setRow_other w g k cs (by omega)⟩

theorem sound_store {o : Oper} {t : TypeId} {ad x : Operand} {A X : VS.X} {n : Nat} (ho : o.op = .store t ad x) (hd : o.dst = none) (hA : compX P 0 ad = some A) (hx : compX P t x = some X) (hn : sizeB P t = some n) :
    Sound1 P arg W G F o (.store A X n) := by
  intro I O s s' a w K Q h _ hv hk
  simp only [vop] at hv
  split at hv
  · rename_i c s1 ht
    split at hv
    · cases hv
    · rename_i hc
      simp only [not_or, Bool.not_eq_false, Decidable.not_not] at hc
      obtain ⟨hflat, hlen⟩ := hc
      obtain ⟨S1, O1, r1, r2, r3⟩ := h.take (compX_val hx a) ht
      obtain ⟨q1, q2⟩ := flat_cells r1 hflat
      split at hv
      · rename_i r p off hpl
        obtain ⟨b, o', row', hroot, hval⟩ := place_addr r2 (compX_val hA a) hpl
        split at hv
        · rename_i row hsl
          by_cases hcond : off + n ≤ row.length ∧ (p = [] → (s1.e.get r).isBox = true)
          case neg => rw [if_neg hcond] at hv; cases hv
          rw [if_pos hcond] at hv
          obtain ⟨hfit, hbox⟩ := hcond
          split at hv
          · rename_i s2 hpk
            obtain rfl := (Option.some.inj hv).symm
            obtain ⟨c0, B', S', hc0, f1, f2, f3, f4, f5⟩ := r2.slot hsl
            have hB := hroot.unique hc0 f1
            obtain ⟨hB, rfl⟩ := hB
            subst hB
            have hrc := r2.rep r
            rw [hc0] at hrc
            -- the block
            have hblk : ∃ cs e, w.heap[b]? = some (.cells cs e (0, 0)) ∧ o' + row'.length ≤ cs.size ∧ O1 r b ∧ ¬ S' b ∧ ∀ o2, p ≠ [] → c0.base (a.tmps.getD r undef) ≠ .addr b o2 := by
              by_cases hp : p = []
              · subst hp
                have hbase : c0.base (a.tmps.getD r undef) = .addr b o' ∧ c0.row = row' := by
                  generalize c0.base (a.tmps.getD r undef) = BB at f1
                  generalize c0.row = rr at f1
                  cases f1
                  exact ⟨rfl, rfl⟩
                obtain ⟨m1, m2, cs, e, m3, m4⟩ := base_owned hrc hbase.1
                rw [hbase.2] at m4
                exact ⟨cs, e, m3, by omega, m1, fun hs => (f3 b hs).2 o' hbase.1, fun _ h => absurd rfl h⟩
              · obtain ⟨b2, o2, cs, e, k1, k2, k3, k4, k5⟩ := f4 hp
                injection k1 with k1 k1'
                subst k1; subst k1'
                refine ⟨cs, e, k4, k5, k2, k3, fun o3 _ hb => ?_⟩
                obtain ⟨B3, S3, g1, g2, g3, g4, _⟩ := follow p (RepC.root hrc) f1.rowAt
                obtain ⟨rfl, _⟩ := g1.same f1
                obtain ⟨b5, o5, cs5, e5, m1, m2, _⟩ := g4 hp
                injection m1 with m1 _
                subst m1
                exact m2.2 o3 hb
            obtain ⟨cs, e, hb, hsize, hOb, hSb, hnbase⟩ := hblk
            have hvs : (a.eval x).cells.size = n := q1.trans hlen
            have hone : ∀ v ∈ (a.eval x).cells.toList, v.oneCell' = true := by
              intro v hv
              obtain ⟨j, hj, rfl⟩ := List.mem_iff_getElem.1 hv
              obtain ⟨u, u1, u2⟩ := row_cells q2 (j := j) (by simpa [q1] using hj)
              have he : (a.eval x).cells.toList[j] = u := (List.getElem_eq_iff hj).2 (by rw [Array.getElem?_toList]; exact u1)
              rw [he]
              exact u2
            have hst := run_storeCells_at P b (o' + off) e (a.eval x).cells.toList 0 cs w hb (by rw [Array.length_toList, hvs]; omega) hone
            simp only [Nat.add_zero, Array.length_toList, hvs] at hst
            generalize hcs' : ((cs.toList.take (o' + off) ++ (a.eval x).cells.toList ++ cs.toList.drop (o' + off + n)).toArray) = cs' at hst
            have hcsz : cs'.size = cs.size := by
              rw [← hcs']
              simp only [List.size_toArray, List.length_append, List.length_take, List.length_drop, Array.length_toList, hvs]
              omega
            have hget : ∀ k, cs'[k]? = if o' + off ≤ k ∧ k < o' + off + n then (a.eval x).cells[k - (o' + off)]? else cs[k]? := by
              intro k
              rw [← hcs', List.getElem?_toArray]
              by_cases h1 : k < o' + off
              · rw [List.append_assoc, List.getElem?_append_left (by simp; omega), List.getElem?_take_of_lt h1, if_neg (by omega), Array.getElem?_toList]
              · by_cases h2 : k < o' + off + n
                · rw [List.getElem?_append_left (by simp; omega), List.getElem?_append_right (by simp; omega), if_pos ⟨by omega, h2⟩, Array.getElem?_toList]
                  congr 1
                  simp
                  omega
                · rw [List.getElem?_append_right (by simp; omega), List.getElem?_drop, if_neg (by omega), Array.getElem?_toList]
                  congr 1
                  simp
                  omega
            have hrun : (execOp a.eval o).run P w = .ok .skip (w.setRow b cs') := by
              simp only [execOp, ho, hval, Instr.storeAt, Instr.sureAddr, storeVar]
              simp only [Sem.run_bind, Sem.run_pure, Result.andThen_ok, run_sizeOf hn, hvs, ne_eq, not_true, if_false, hst]
            have hb' : (w.setRow b cs').heap[b]? = some (.cells cs' e (0, 0)) := setRow_heap w b cs cs' e _ hb
            have hoth : ∀ k, k ≠ b → (w.setRow b cs').heap[k]? = w.heap[k]? := fun k hk => setRow_other w b k cs' hk
            have hS1 : ∀ y, S1 y → y ≠ b := fun y hy he => r3.2.2 r b hOb (he ▸ hy)
            have hIb : ¬ I b := r2.notI r b hOb
            have hnew : RepRow (w.setRow b cs') I (patch row' off c.row) ((Base.addr b o').get (w.setRow b cs')) (fun y => S' y ∨ S1 y) := by
              refine RepRow.patch (get := (Base.addr b o').get w) (g1 := fun j => (a.eval x).cells[j]?) (f2.world (fun _ _ => rfl) fun y hy => hoth y (hy.elim (fun hy he => hSb (he ▸ hy)) fun hy he => hIb (he ▸ hy))) (q2.world (fun _ _ => rfl) fun y hy => hoth y (hy.elim (hS1 y) fun hy he => hIb (he ▸ hy))) (by omega) (fun y hy hs => r3.2.2 r y (f3 y hs).1 hy) (fun j hj => ?_)
              simp only [Base.get]
              rw [cell_of hb', cell_of hb, hget (o' + j), hlen]
              by_cases hj : off ≤ j ∧ j < off + n
              · rw [if_pos (by omega), if_pos hj]
                congr 1
                omega
              · rw [if_neg (by omega), if_neg hj]
            have hk' := r2.poke (w' := w.setRow b cs') (I' := I) (T := fun y => S' y ∨ S1 y) (N := S1) (o := off) (ls := c.row) hc0 f1 f3 (fun hp b2 o2 hB => by
                injection hB with hB _
                subst hB
                exact ⟨hOb, hSb, fun o3 => hnbase o3 hp⟩) f5 hpk (by omega) hnew (fun _ h => h) (fun y hy => ⟨by obtain ⟨t, ht⟩ := r3.1 y hy; simpa using h.olt t y ht, (by obtain ⟨t, ht⟩ := r3.1 y hy; exact h.notI t y ht), fun t ht => r3.2.2 t y ht hy⟩)
                (below_setRow r2.bel b (Nat.le_of_not_lt fun hlt => hIb (r2.old b hlt)) cs') (by simp) (fun _ h => h) (fun y hy => by simpa using r2.ilt y hy) (fun y hy hn => absurd hy hn)
                (fun y hy _ => hoth y fun he => hy o' (by rw [he])) (fun b2 o2 hB => by
                  injection hB with hB1 hB2
                  subst hB1; subst hB2
                  refine ⟨cs, cs', e, hb, hb', hcsz, fun k hkk => ?_⟩
                  rw [hget k, if_neg (by omega)])
                (fun hp t row0 hcc => by
                  have := hbox hp
                  rw [hc0, hcc] at this
                  cases this)
            rw [hlen] at hk'
            refine oper_skip hrun (hk _ _ ?_)
            rw [hd]
            refine ⟨I, _, rfl, rfl, hk', ⟨fun _ h => h, by simp, fun y hy hno => hoth y fun he => hno r (r3.2.1 r y (he ▸ hOb)), fun y hy => ?_⟩, fun _ _ => rfl⟩
            rcases hy with ⟨t, hy⟩ | hy
            · by_cases ht : t = r
              · simp only [ht, if_true] at hy
                rcases hy with (hy | hy) | ⟨o2, hy⟩
                · exact .inl ⟨r, r3.2.1 r y hy.1.1⟩
                · exact .inl (r3.1 y hy)
                · exact .inl ⟨r, r3.2.1 r y (base_owned hrc hy).1⟩
              · simp only [ht, if_false] at hy
                exact .inl ⟨t, r3.2.1 t y hy⟩
            · exact .inr (.inl hy)
          · cases hv
        · cases hv
      · cases hv
  · cases hv

end Go.VS
