/- Operations, fourth part: composites. -/
import Derived.Test.YtdoelepflcaijaaEngCalm3
import Derived.Great.BuildSlice
import Derived.Laws.MakeOwn
import Derived.Laws.BytesString
namespace Go.VS
open Go Go.RowKit
set_option linter.unusedSimpArgs false
set_option linter.unusedVariables false

variable {P : Program} {arg : Tmp → Value} {W w w' : World} {I I' : Nat → Prop} {O O' : Tmp → Nat → Prop} {s s' : RS} {a : Act} {K : Act → World → Prop} {Q : Exit → Act → World → Prop} {G : Sigs} {F : Fns}

/-- Cells laid over cells from 'off' on. -/
theorem lay_size (off : Nat) : ∀ (vs : List Value) (k : Nat) (cs : Array Value), ((vs.zipIdx k).foldl (fun cs (x : Value × Nat) => cs.setIfInBounds (off + x.2) x.1) cs).size = cs.size
  | [], _, _ => rfl
  | v :: vs, k, cs => by
    simp only [List.zipIdx_cons, List.foldl_cons]
    rw [lay_size off vs (k + 1)]
    simp
theorem lay_get (off : Nat) : ∀ (vs : List Value) (k : Nat) (cs : Array Value) (j : Nat), off + k + vs.length ≤ cs.size →
    ((vs.zipIdx k).foldl (fun cs (x : Value × Nat) => cs.setIfInBounds (off + x.2) x.1) cs)[j]? = if off + k ≤ j ∧ j < off + k + vs.length then vs[j - (off + k)]? else cs[j]?
  | [], k, cs, j, h => by
    simp only [List.zipIdx_nil, List.foldl_nil, List.length_nil, Nat.add_zero]
    rw [if_neg (by omega)]
  | v :: vs, k, cs, j, h => by
    rw [List.length_cons] at h ⊢
    simp only [List.zipIdx_cons, List.foldl_cons]
    rw [lay_get off vs (k + 1) _ j (by simp; omega)]
    by_cases h1 : off + k ≤ j ∧ j < off + k + (vs.length + 1)
    · rw [if_pos h1]
      by_cases h2 : j = off + k
      · subst h2
        rw [if_neg (by omega), Nat.sub_self, Array.getElem?_setIfInBounds_self_of_lt (by omega)]
        rfl
      · rw [if_pos (by omega), show j - (off + k) = (j - (off + (k + 1))) + 1 by omega, List.getElem?_cons_succ]
    · rw [if_neg h1, if_neg (by omega), Array.getElem?_setIfInBounds_ne (by omega)]

/-- Leaves laid over leaves, and cells over cells. -/
theorem patch_rep {row ls : List L} {cs vs : Array Value} {S S1 : Nat → Prop} {off : Nat} (h : RepRow w I row (fun j => cs[j]?) S) (h1 : RepRow w I ls (fun j => vs[j]?) S1) (hl : vs.size = ls.length) (hcs : cs.size = row.length) (hfit : off + ls.length ≤ row.length) (hd : ∀ x, S1 x → ¬ S x) :
    RepRow w I (patch row off ls) (fun j => (vs.toList.zipIdx.foldl (fun cs (x : Value × Nat) => cs.setIfInBounds (off + x.2) x.1) cs)[j]?) (fun x => S x ∨ S1 x) := by
  obtain ⟨D, d1, d2, d3⟩ := h
  obtain ⟨E, e1, e2, e3⟩ := h1
  refine ⟨fun j x => if off ≤ j ∧ j < off + ls.length then E (j - off) x else D j x, fun j x hx => ?_, fun j j' x hx hx' => ?_, fun j l hlj => ?_⟩
  · simp only at hx
    split at hx
    · exact .inr (e1 _ x hx)
    · exact .inl (d1 _ x hx)
  · simp only at hx hx'
    split at hx <;> split at hx'
    · have := e2 _ _ x hx hx'; omega
    · exact absurd (d1 _ x hx') (hd x (e1 _ x hx))
    · exact absurd (d1 _ x hx) (hd x (e1 _ x hx'))
    · exact d2 _ _ x hx hx'
  · rw [patch_get ls row off j hfit] at hlj
    have hg := lay_get off vs.toList 0 cs j (by rw [Array.length_toList]; omega)
    simp only [Nat.add_zero, Array.length_toList, hl] at hg
    simp only [hg]
    by_cases hj : off ≤ j ∧ j < off + ls.length
    · rw [if_pos hj] at hlj
      rw [if_pos hj]
      obtain ⟨v, v1, v2, v3⟩ := e3 _ l hlj
      refine ⟨v, by rw [Array.getElem?_toList]; exact v1, v2, ?_⟩
      simp only [if_pos hj]
      exact v3
    · rw [if_neg hj] at hlj
      rw [if_neg hj]
      obtain ⟨v, v1, v2, v3⟩ := d3 _ l hlj
      refine ⟨v, v1, v2, ?_⟩
      simp only [if_neg hj]
      exact v3

theorem Out.refl : Out O O (fun _ => False) := ⟨fun _ h => h.elim, fun _ _ h => h, fun _ _ _ h => h⟩
theorem Out.trans {O'' : Tmp → Nat → Prop} {S S' : Nat → Prop} (h : Out O O' S) (k : Out O' O'' S') : Out O O'' (fun x => S x ∨ S' x) :=
  ⟨fun b hb => hb.elim (h.1 b) fun hb => by obtain ⟨t, ht⟩ := k.1 b hb; exact ⟨t, h.2.1 t b ht⟩, fun t b hb => h.2.1 t b (k.2.1 t b hb), fun t b hb hs => hs.elim (h.2.2 t b (k.2.1 t b hb)) (k.2.2 t b hb)⟩
theorem Out.apart {S S' : Nat → Prop} {O'' : Tmp → Nat → Prop} (h : Out O O' S) (k : Out O' O'' S') : ∀ x, S' x → ¬ S x := fun x hx hs => by obtain ⟨t, ht⟩ := k.1 x hx; exact h.2.2 t x ht hs

/-- Taking the parts of a struct one by one. -/
theorem parts_sound (fs : Array Field) : ∀ (ps : List (Nat × Operand)) (Ps : List (Nat × Nat × VS.X)) (s s' : RS) (O : Tmp → Nat → Prop) (row row' : List L) (cs : Array Value) (S : Nat → Prop),
    ps.mapM (compPart P fs) = some Ps → s.parts Ps row = some (row', s') → Rel arg W I O s a.tmps w → RepRow w I row (fun j => cs[j]?) S → cs.size = row.length → (∀ x, S x → ∀ t, ¬ O t x) →
    ∀ place : Nat → Option (Nat × Nat), (∀ i f, fs[i]? = some f → ∀ n, sizeB P f.type = some n → place i = some (f.offset, n)) →
    ∃ cs' S1 O', Instr.fill place cs (ps.map fun q => (q.1, a.eval q.2)) = some cs' ∧ cs'.size = row'.length ∧ row'.length = row.length ∧ RepRow w I row' (fun j => cs'[j]?) (fun x => S x ∨ S1 x) ∧ Rel arg W I O' s' a.tmps w ∧ Out O O' S1
  | [], Ps, s, s', O, row, row', cs, S, hP, hp, h, hr, hcs, hS, place, hpl => by
    simp at hP
    subst hP
    simp only [RS.parts, Option.some.injEq, Prod.mk.injEq] at hp
    obtain ⟨rfl, rfl⟩ := hp
    exact ⟨cs, fun _ => False, O, rfl, hcs, rfl, hr.mono (fun _ h => h) fun _ h => .inl h, h, Out.refl⟩
  | q :: ps, Ps, s, s', O, row, row', cs, S, hP, hp, h, hr, hcs, hS, place, hpl => by
    simp only [List.mapM_cons, Option.bind_eq_bind, Option.bind_eq_some_iff, Option.pure_def, Option.some.injEq] at hP
    obtain ⟨q', hq, Ps', hPs, rfl⟩ := hP
    unfold compPart at hq
    split at hq
    · rename_i f hf
      split at hq
      · rename_i n x hn hx
        obtain rfl := (Option.some.inj hq).symm
        simp only [RS.parts] at hp
        split at hp
        · rename_i c s1 ht
          split at hp
          · rename_i hc
            obtain ⟨hflat, hcn, hfit⟩ := hc
            obtain ⟨S1, O1, r1, r2, r3⟩ := h.take (compX_val hx a) ht
            obtain ⟨q1, q2⟩ := flat_cells r1 hflat
            have hap : ∀ x, S1 x → ¬ S x := fun x hx hs => by obtain ⟨t, ht⟩ := r3.1 x hx; exact hS x hs t ht
            have hpr := patch_rep (off := f.offset) hr q2 q1 hcs (by omega) hap
            obtain ⟨cs', S2, O', f1, f2, f3, f4, f5, f6⟩ := parts_sound fs ps Ps' s1 s' O1 _ row' _ _ hPs hp r2 hpr (by rw [patch_length]; have := lay_size f.offset (a.eval q.2).cells.toList 0 cs; simpa using this.trans hcs) (fun x hx t ht => hx.elim (fun hx => hS x hx t (r3.2.1 t x ht)) (r3.2.2 t x ht)) place hpl
            refine ⟨cs', fun x => S1 x ∨ S2 x, O', ?_, f2, f3.trans (patch_length _ _ _), f4.mono (fun _ h => h) (fun x hx => by rcases hx with (h | h) | h <;> simp [h]), f5, r3.trans f6⟩
            simp only [List.map_cons, Instr.fill, hpl _ _ hf _ hn]
            rw [if_neg (by
              simp only [Bool.or_eq_true, decide_eq_true_eq, ne_eq, bne_iff_ne, not_or, Decidable.not_not, Nat.not_lt]
              omega)]
            simp only [← Array.foldl_toList, Array.toList_zipIdx]
            exact f1
          · cases hp
        · cases hp
      · cases hq
    · cases hq

theorem run_mapM_list {α β : Type} {f : α → β} {g : α → Sem β} : ∀ (l : List α), (∀ x ∈ l, (g x).run P w = .ok (f x) w) → (l.mapM g).run P w = .ok (l.map f) w
  | [], _ => rfl
  | x :: l, h => by
    rw [List.mapM_cons, Sem.run_bind, h x (List.mem_cons_self), Result.andThen_ok, Sem.run_bind, run_mapM_list l (fun y hy => h y (List.mem_cons_of_mem _ hy)), Result.andThen_ok]
    rfl
theorem run_mapM {α β : Type} {f : α → β} {g : α → Sem β} {xs : Array α} (h : ∀ x ∈ xs, (g x).run P w = .ok (f x) w) : (xs.mapM g).run P w = .ok (xs.map f) w := by
  rw [Array.mapM_eq_mapM_toList, Sem.run_map, run_mapM_list xs.toList (fun x hx => h x (by simpa using hx)), Result.andThen_ok, ← Array.toList_map]

theorem sound_build {o : Oper} {d : Tmp} {t : TypeId} {parts : Array (Nat × Operand)} {fs : Array Field} {zs : List L} {Ps : List (Nat × Nat × VS.X)} (ho : o.op = .build t parts) (hd : o.dst = some d) (ht : P.underlying t = some (.struct fs)) (hz : zeroRow P t = some zs)
    (hP : parts.toList.mapM (compPart P fs) = some Ps) (hall : (fs.all fun f => (sizeB P f.type).isSome) = true) : Sound1 P arg W G F o (.build d zs Ps) := by
  intro I O s s' a w K Q h hdl hv hk
  replace hdl := hdl d rfl
  simp only [vop] at hv
  split at hv
  · rename_i row s1 hp
    obtain rfl := (Option.some.inj hv).symm
    obtain ⟨i, z, hi, hz1, hl, hs, hrep, _⟩ := zeroRow_spec hz
    have hsome : ∀ f ∈ fs, ∃ n, sizeB P f.type = some n := fun f hf => by
      rw [Array.all_eq_true] at hall
      obtain ⟨j, hj, rfl⟩ := Array.mem_iff_getElem.1 hf
      exact Option.isSome_iff_exists.1 (hall j hj)
    obtain ⟨cs', S1, O', f1, f2, f3, f4, f5, f6⟩ := parts_sound (a := a) (w := w) fs parts.toList Ps s s1 O zs row z.cells (fun _ => False) hP hp h (hrep _ _ _) (hs.trans hl.symm) (fun _ h => h.elim) ((fs.map fun f => (f.offset, (sizeB P f.type).getD 0))[·]?) (fun i f hf n hn => by simp [hf, hn])
    have hmap : (fs.mapM fun f => do pure (f.offset, ← sizeOf f.type) : Sem (Array (Nat × Nat))).run P w = .ok (fs.map fun f => (f.offset, (sizeB P f.type).getD 0)) w :=
      run_mapM (fun f hf => by
        obtain ⟨n, hn⟩ := hsome f hf
        rw [Sem.run_bind, run_sizeOf hn, Result.andThen_ok, hn]
        rfl)
    have hrun : (execOp a.eval o).run P w = .ok (.value (.agg cs')) w := by
      have hpar : (parts.map fun (x : Nat × Operand) => (x.1, a.eval x.2)).toList = parts.toList.map fun q => (q.1, a.eval q.2) := by simp
      simp only [execOp, ho, Instr.build, Sem.run_bind, zeroValue, typeInfo, run_program, Result.andThen_ok, hi, Sem.run_pure, hz1, run_underlying ht, hmap]
      simp only [hpar, f1, Sem.run_pure, Result.andThen_ok]
    refine oper_value hrun (hk _ _ ?_)
    rw [hd]
    refine good_taken h hdl ⟨cs', rfl, f2, f4⟩ f5 ?_
    exact ⟨fun b hb => hb.elim (fun h => h.elim) (f6.1 b), f6.2.1, fun t b hb hs => hs.elim (fun h => h.elim) (f6.2.2 t b hb)⟩
  · cases hv

/-- Several rows of one width, end to end. -/
theorem mod_row (z : Array Value) {sz j i : Nat} (hs : z.size = sz) (hj : j < sz) : z[(i * sz + j) % z.size]! = z[j]! := by
  rw [hs, Nat.mul_comm, Nat.mul_add_mod, Nat.mod_eq_of_lt hj]
theorem made_get {z : Array Value} {n sz : Nat} (hs : z.size = sz) (i j : Nat) (hi : i < n) (hj : j < sz) : ((Array.range (n * sz)).map (z[· % z.size]!))[i * sz + j]? = z[j]? := by
  have hlt : i * sz + j < n * sz := by
    have : (i + 1) * sz ≤ n * sz := Nat.mul_le_mul_right sz hi
    rw [Nat.add_mul, Nat.one_mul] at this
    omega
  rw [Array.getElem?_map, Array.getElem?_range, if_pos hlt]
  simp only [Option.map_some]
  rw [mod_row z hs hj, getElem!_pos z j (by omega), Array.getElem?_eq_getElem (by omega)]

/-- Rows of leaves behind cells: row i lies from i * sz on. -/
def RepRows (w : World) (I : Nat → Prop) (sz : Nat) (rows : List (List L)) (cs : Array Value) (S : Nat → Prop) : Prop :=
  (∀ (i : Nat) r, rows[i]? = some r → r.length = sz) ∧ cs.size = rows.length * sz ∧
  ∃ D : Nat → Nat → Nat → Prop, (∀ i j x, D i j x → S x) ∧ (∀ i j i' j' x, D i j x → D i' j' x → i = i' ∧ j = j') ∧ ∀ (i j : Nat) r l, rows[i]? = some r → r[j]? = some l → ∃ v, cs[i * sz + j]? = some v ∧ v.oneCell' = true ∧ RepL w I l v (D i j)

theorem RepRows.world {sz : Nat} {rows : List (List L)} {cs : Array Value} {S : Nat → Prop} (h : RepRows w I sz rows cs S) (hw : ∀ b, S b ∨ I b → w'.heap[b]? = w.heap[b]?) : RepRows w' I sz rows cs S := by
  obtain ⟨h1, h2, D, d1, d2, d3⟩ := h
  refine ⟨h1, h2, D, d1, d2, fun i j r l hr hl => ?_⟩
  obtain ⟨v, v1, v2, v3⟩ := d3 i j r l hr hl
  exact ⟨v, v1, v2, v3.world fun b hb => hw b (hb.imp (d1 i j b) id)⟩

/-- A block of rows is an owned slice. -/
theorem RepRows.own {sz : Nat} {rows : List (List L)} {cs : Array Value} {S : Nat → Prop} {b : Nat} {e : TypeId} (h : RepRows w I sz rows cs S) (hb : w.heap[b]? = some (.cells cs e (0, 0))) (hn : rows.length ≤ maxLen) (hne : ∀ x, S x → x ≠ b) :
    RepL w I (.sl true sz rows) (.slice (some ⟨b, 0, none⟩) rows.length rows.length) (fun x => S x ∨ x = b) := by
  obtain ⟨h1, h2, D, d1, d2, d3⟩ := h
  refine .own sz rows _ b rows.length cs e (fun i j => (cs[i * sz + j]?).getD undef) D (.inr rfl) (Nat.le_refl _) hn hb h2 h1 (fun i j hi hj => ?_) (fun i j x hx => ⟨.inl (d1 i j x hx), hne x (d1 i j x hx)⟩) d2 (fun i j r l hr hl => ?_)
  · have hr := h1 i _ (List.getElem?_eq_getElem hi)
    obtain ⟨v, v1, v2, _⟩ := d3 i j _ _ (List.getElem?_eq_getElem hi) (List.getElem?_eq_getElem (by omega : j < rows[i].length))
    rw [v1]
    exact ⟨rfl, v2⟩
  · obtain ⟨v, v1, v2, v3⟩ := d3 i j r l hr hl
    rw [v1]
    exact v3

theorem zero_rows {zs : List L} {z : Value} {n : Nat} (hz : ∀ (w : World) (I S : Nat → Prop), RepRow w I zs (fun j => z.cells[j]?) S) (hl : z.cells.size = zs.length) (w : World) (I S : Nat → Prop) :
    RepRows w I zs.length (List.replicate n zs) ((Array.range (n * zs.length)).map (z.cells[· % z.cells.size]!)) S := by
  refine ⟨fun i r hr => ?_, by simp, fun _ _ _ => False, fun _ _ _ h => h.elim, fun _ _ _ _ _ h => h.elim, fun i j r l hr hlj => ?_⟩
  · rw [List.getElem?_replicate] at hr
    split at hr
    · rw [← Option.some.inj hr]
    · cases hr
  · rw [List.getElem?_replicate] at hr
    split at hr
    · rename_i hi
      obtain rfl := Option.some.inj hr
      obtain ⟨D, _, _, d3⟩ := hz w I (fun _ => False)
      obtain ⟨v, v1, v2, _⟩ := d3 j l hlj
      obtain ⟨E, e1, _, e3⟩ := hz w I (fun _ => False)
      obtain ⟨v', w1, w2, w3⟩ := e3 j l hlj
      refine ⟨v', ?_, w2, w3.mono (fun _ h => h) (e1 j)⟩
      rw [made_get hl i j hi (List.getElem?_eq_some_iff.1 hlj).1]
      exact w1
    · cases hr

/-- One row of rows changed. -/
theorem rows_set {sz i : Nat} {rows : List (List L)} {ls : List L} {cs vs : Array Value} {S S1 : Nat → Prop} (h : RepRows w I sz rows cs S) (h1 : RepRow w I ls (fun j => vs[j]?) S1) (hl : vs.size = ls.length) (hsz : ls.length = sz) (hi : i < rows.length) (hd : ∀ x, S1 x → ¬ S x) :
    RepRows w I sz (rows.set i ls) (vs.toList.zipIdx.foldl (fun cs (x : Value × Nat) => cs.setIfInBounds (i * sz + x.2) x.1) cs) (fun x => S x ∨ S1 x) := by
  obtain ⟨h1', h2, D, d1, d2, d3⟩ := h
  obtain ⟨E, e1, e2, e3⟩ := h1
  have hfit : i * sz + sz ≤ cs.size := by
    rw [h2]
    have : (i + 1) * sz ≤ rows.length * sz := Nat.mul_le_mul_right sz hi
    rw [Nat.add_mul, Nat.one_mul] at this
    exact this
  have hg := fun j => lay_get (i * sz) vs.toList 0 cs j (by rw [Array.length_toList]; omega)
  simp only [Nat.add_zero, Array.length_toList, hl, hsz] at hg
  refine ⟨fun i' r hr => ?_, ?_, fun i' j x => if i' = i then E j x else D i' j x, fun i' j x hx => ?_, fun i1 j1 i2 j2 x hx hx' => ?_, fun i' j r l hr hlj => ?_⟩
  · by_cases hii : i' = i
    · subst hii
      rw [List.getElem?_set_self hi] at hr
      rw [← Option.some.inj hr, hsz]
    · rw [List.getElem?_set_ne (fun e => hii e.symm)] at hr
      exact h1' i' r hr
  · have := lay_size (i * sz) vs.toList 0 cs
    rw [this, h2, List.length_set]
  · simp only at hx
    split at hx
    · exact .inr (e1 _ x hx)
    · exact .inl (d1 _ _ x hx)
  · simp only at hx hx'
    split at hx <;> split at hx' <;> rename_i g1 g2
    · exact ⟨g1.trans g2.symm, e2 _ _ x hx hx'⟩
    · exact absurd (d1 _ _ x hx') (hd x (e1 _ x hx))
    · exact absurd (d1 _ _ x hx) (hd x (e1 _ x hx'))
    · exact d2 _ _ _ _ x hx hx'
  · by_cases hii : i' = i
    · subst hii
      rw [List.getElem?_set_self hi] at hr
      obtain rfl := Option.some.inj hr
      have hj := (List.getElem?_eq_some_iff.1 hlj).1
      obtain ⟨v, v1, v2, v3⟩ := e3 j l hlj
      refine ⟨v, ?_, v2, by simp only [if_true]; exact v3⟩
      rw [hg, if_pos (by omega), show i' * sz + j - i' * sz = j by omega, Array.getElem?_toList]
      exact v1
    · rw [List.getElem?_set_ne (fun e => hii e.symm)] at hr
      have hrl := h1' i' r hr
      have hj := (List.getElem?_eq_some_iff.1 hlj).1
      obtain ⟨v, v1, v2, v3⟩ := d3 i' j r l hr hlj
      refine ⟨v, ?_, v2, by simp only [if_neg hii]; exact v3⟩
      rw [hg, if_neg (out_of_row hii (by omega))]
      exact v1

theorem rows_sound (e : TypeId) (sz : Nat) : ∀ (ps : List (Nat × Operand)) (Ps : List (Nat × VS.X)) (s s' : RS) (O : Tmp → Nat → Prop) (rows rows' : List (List L)) (cs : Array Value) (S : Nat → Prop),
    ps.mapM (compElem P e) = some Ps → s.rows sz Ps rows = some (rows', s') → Rel arg W I O s a.tmps w → RepRows w I sz rows cs S → (∀ x, S x → ∀ t, ¬ O t x) →
    ∃ cs' S1 O', Instr.fill (fun i => some (i * sz, sz)) cs (ps.map fun q => (q.1, a.eval q.2)) = some cs' ∧ rows'.length = rows.length ∧ RepRows w I sz rows' cs' (fun x => S x ∨ S1 x) ∧ Rel arg W I O' s' a.tmps w ∧ Out O O' S1
  | [], Ps, s, s', O, rows, rows', cs, S, hP, hp, h, hr, hS => by
    simp at hP
    subst hP
    simp only [RS.rows, Option.some.injEq, Prod.mk.injEq] at hp
    obtain ⟨rfl, rfl⟩ := hp
    obtain ⟨h1, h2, D, d1, d2, d3⟩ := hr
    exact ⟨cs, fun _ => False, O, rfl, rfl, ⟨h1, h2, D, fun i j x hx => .inl (d1 i j x hx), d2, d3⟩, h, Out.refl⟩
  | q :: ps, Ps, s, s', O, rows, rows', cs, S, hP, hp, h, hr, hS => by
    simp only [List.mapM_cons, Option.bind_eq_bind, Option.bind_eq_some_iff, Option.pure_def, Option.some.injEq] at hP
    obtain ⟨q', hq, Ps', hPs, rfl⟩ := hP
    unfold compElem at hq
    rw [Option.map_eq_some_iff] at hq
    obtain ⟨x, hx, rfl⟩ := hq
    simp only [RS.rows] at hp
    split at hp
    · rename_i c s1 ht
      split at hp
      · rename_i hc
        obtain ⟨hflat, hcn, hi⟩ := hc
        obtain ⟨S1, O1, r1, r2, r3⟩ := h.take (compX_val hx a) ht
        obtain ⟨q1, q2⟩ := flat_cells r1 hflat
        have hap : ∀ x, S1 x → ¬ S x := fun x hx hs => by obtain ⟨t, ht⟩ := r3.1 x hx; exact hS x hs t ht
        have hpr := rows_set (i := q.1) hr q2 q1 hcn hi hap
        obtain ⟨cs', S2, O', f1, f2, f4, f5, f6⟩ := rows_sound e sz ps Ps' s1 s' O1 _ rows' _ _ hPs hp r2 hpr (fun x hx t ht => hx.elim (fun hx => hS x hx t (r3.2.1 t x ht)) (r3.2.2 t x ht))
        refine ⟨cs', fun x => S1 x ∨ S2 x, O', ?_, f2.trans (by rw [List.length_set]), ?_, f5, r3.trans f6⟩
        · simp only [List.map_cons, Instr.fill]
          have hfit : q.1 * sz + sz ≤ cs.size := by
            rw [hr.2.1]
            have : (q.1 + 1) * sz ≤ rows.length * sz := Nat.mul_le_mul_right sz hi
            rw [Nat.add_mul, Nat.one_mul] at this
            exact this
          rw [if_neg (by
            simp only [Bool.or_eq_true, decide_eq_true_eq, ne_eq, bne_iff_ne, not_or, Decidable.not_not, Nat.not_lt]
            omega)]
          simp only [← Array.foldl_toList, Array.toList_zipIdx]
          exact f1
        · obtain ⟨g1, g2, D, d1, d2, d3⟩ := f4
          exact ⟨g1, g2, D, fun i j x hx => by rcases d1 i j x hx with (h | h) | h <;> simp [h], d2, d3⟩
      · cases hp
    · cases hp

theorem sound_mk {o : Oper} {d : Tmp} {t e : TypeId} {n : Nat} {parts : Array (Nat × Operand)} {zs : List L} {Ps : List (Nat × VS.X)} (ho : o.op = .buildSlice t n parts) (hd : o.dst = some d) (ht : P.underlying t = some (.slice e)) (hz : zeroRow P e = some zs)
    (hpos : 0 < zs.length) (hsm : n * zs.length ≤ 2 ^ 24) (hmax : n ≤ maxLen) (hP : parts.toList.mapM (compElem P e) = some Ps) : Sound1 P arg W G F o (.mk d zs n Ps) := by
  intro I O s s' a w K Q h hdl hv hk
  replace hdl := hdl d rfl
  simp only [vop] at hv
  split at hv
  · rename_i rows s1 hp
    obtain rfl := (Option.some.inj hv).symm
    obtain ⟨i, z, hi, hz1, hl, hs, hrep, _⟩ := zeroRow_spec hz
    have hs' : z.cells.size = zs.length := hs.trans hl.symm
    obtain ⟨cs', S1, O', f1, f2, f3, f5, f6⟩ := rows_sound (a := a) (w := w) e zs.length parts.toList Ps s s1 O _ rows _ (fun _ => False) hP hp h (zero_rows hrep hs' w I _) (fun _ h => h.elim)
    rw [List.length_replicate] at f2
    have hrun : (execOp a.eval o).run P w = .ok (.value (.slice (some ⟨w.heap.size, 0, none⟩) n n)) (w.alloc (.cells cs' e)) := by
      have hpar : (parts.map fun (x : Nat × Operand) => (x.1, a.eval x.2)).toList = parts.toList.map fun q => (q.1, a.eval q.2) := by simp
      by_cases hn : n = 0
      · subst hn
        have hemp : ((Array.range (0 * zs.length)).map (z.cells[· % z.cells.size]!)) = #[] := by simp
        rw [hemp, hl] at f1
        simp only [execOp, ho, Instr.buildSlice, Sem.run_bind, run_underlying ht, Result.andThen_ok, sizeOf, typeInfo, run_program, hi, Sem.run_pure, Nat.zero_mul, hpar]
        have hr0 : Array.range 0 = #[] := rfl
        simp [f1, newRow, hr0]
      · have hnz : ¬ n * i.size = 0 := by rw [← hl]; exact Nat.mul_ne_zero hn (by omega)
        simp only [execOp, ho]
        rw [Sem.run_bind, run_buildSlice w t e n _ cs' i z ht hi hz1 (by rw [← hl]; omega) hnz (by rw [hpar, ← hl]; exact f1)]
        rfl
    refine oper_value hrun (hk _ _ ?_)
    rw [hd]
    show Good arg W I O w a _ (some d) _ _
    have hlt : ∀ b, S1 b → b < w.heap.size := fun b hb => by obtain ⟨t, ht⟩ := f6.1 b hb; exact h.olt t b ht
    have hst := f5.step (d := d) (av := .v (.leaf (.sl true zs.length rows))) (v := .slice (some ⟨w.heap.size, 0, none⟩) n n) (S := fun x => S1 x ∨ x = w.heap.size) hdl (below_new w (.cells cs' e)) (fun b hb => by
      rcases hb with hb | rfl
      · exact ⟨Nat.lt_of_lt_of_le (hlt b hb) (by simp), (by obtain ⟨t, ht⟩ := f6.1 b hb; exact h.notI t b ht), fun t' _ h' => f6.2.2 t' b h' hb⟩
      · exact ⟨by simp, fun hi => Nat.lt_irrefl _ (h.ilt _ hi), fun t _ ht => Nat.lt_irrefl _ (f5.olt t _ ht)⟩)
      (by
        have hw := f3.world (w' := w.alloc (.cells cs' e)) (fun b hb => Below.heap_alloc w _ b (hb.elim (fun hb => hb.elim (fun h => h.elim) (hlt b)) (h.ilt b)))
        have := hw.own (new_at w _) (by rw [f2]; exact hmax) (fun x hx he => hx.elim (fun h => h.elim) fun hx => by have := hlt x hx; omega)
        rw [f2] at this
        exact ⟨rfl, this.mono (fun _ h => h) fun x hx => hx.imp (fun h => h.elim (fun h => h.elim) id) id⟩)
      (fun _ _ _ h => by cases h)
    refine ⟨I, _, rfl, put_size .., hst, ⟨fun _ h => h, by simp, fun b hb _ => Below.heap_alloc w _ b hb, fun b hb => ?_⟩, fun t ht => ?_⟩
    · rcases hb with ⟨t, hb⟩ | hb
      · by_cases ht : t = d
        · simp only [ht, if_true] at hb
          rcases hb with hb | rfl
          · exact .inl (f6.1 b hb)
          · exact .inr (.inr (Nat.le_refl _))
        · simp only [ht, if_false] at hb; exact .inl ⟨t, f6.2.1 t b hb⟩
      · exact .inr (.inl hb)
    · simp only [Act.put]
      rw [getD_set hdl, if_neg (fun e => ht (by rw [e]))]
  · cases hv

theorem sound_make {o : Oper} {d : Tmp} {t e : TypeId} {l c : Operand} {X Y : VS.X} {i : TypeInfo} {zs : List L} (ho : o.op = .makeSlice t l c) (hd : o.dst = some d) (ht : P.underlying t = some (.slice e)) (hi : P.info? e = some i) (hz : zeroRow P e = some zs)
    (hl : compX P 0 l = some X) (hc : compX P 0 c = some Y) (hpos : 0 < i.size) : Sound1 P arg W G F o (.make d zs i.bytes X Y) := by
  intro I O s s' a w K Q h hdl hv hk
  replace hdl := hdl d rfl
  simp only [vop] at hv
  split at hv
  · rename_i k1 n k2 m h1 h2
    split at hv
    · rename_i hcond
      obtain ⟨c1, c2, c3, c4⟩ := hcond
      obtain rfl := (Option.some.inj hv).symm
      obtain ⟨i', z, hi', hz1, hzl, hzs, hrep, _⟩ := zeroRow_spec hz
      rw [hi] at hi'
      obtain rfl := Option.some.inj hi'
      have hn := int_val h (compX_val hl a) h1
      have hm := int_val h (compX_val hc a) h2
      have hrun : (execOp a.eval o).run P w = .ok (.value (.slice (some ⟨w.heap.size, 0, none⟩) n.toNat m.toNat)) (w.alloc (.cells (madeCells z.cells (m.toNat * i.size)) e)) := by
        simp only [execOp, ho, hn, hm]
        rw [Sem.run_bind, run_make w t e i z ht hi hz1 k1 k2 n m c1 c2 c3 c4]
        rfl
      refine oper_value hrun (hk _ _ ?_)
      rw [hd]
      have hrows := zero_rows (n := m.toNat) hrep (hzs.trans hzl.symm) (w.alloc (.cells (madeCells z.cells (m.toNat * i.size)) e)) I (fun _ => False)
      refine good_put (S := fun b => b = w.heap.size) h hdl (below_new w _) (fun b hb => ?_) ⟨rfl, ?_⟩ (fun _ _ _ h => by cases h)
      · subst hb
        exact ⟨by simp, fun hi => Nat.lt_irrefl _ (h.ilt _ hi), fun t _ ht => Nat.lt_irrefl _ (h.olt t _ ht), .inr (Nat.le_refl _)⟩
      · have hlen : (List.replicate n.toNat zs).length = n.toNat := List.length_replicate
        have hnew := new_at w (.cells (madeCells z.cells (m.toNat * i.size)) e)
        obtain ⟨g1, g2, D, d1, d2, d3⟩ := hrows
        have hget : ∀ (i' j : Nat) r l, (List.replicate n.toNat zs)[i']? = some r → r[j]? = some l → ∃ v, (madeCells z.cells (m.toNat * i.size))[i' * zs.length + j]? = some v ∧ v.oneCell' = true ∧ RepL (w.alloc (.cells (madeCells z.cells (m.toNat * i.size)) e)) I l v (D i' j) := by
          intro i' j r l hr hl
          rw [List.getElem?_replicate] at hr
          split at hr
          · rename_i hlt
            obtain ⟨v, v1, v2, v3⟩ := d3 i' j r l (by rw [List.getElem?_replicate, if_pos (by omega)]; exact hr) hl
            refine ⟨v, ?_, v2, v3⟩
            rw [← v1, hzl]
            rfl
          · cases hr
        rw [show (.slice (some ⟨w.heap.size, 0, none⟩) n.toNat m.toNat : Value) = .slice (some ⟨w.heap.size, 0, none⟩) (List.replicate n.toNat zs).length m.toNat by rw [hlen]]
        refine .own zs.length _ _ w.heap.size m.toNat _ e (fun i' j => ((madeCells z.cells (m.toNat * i.size))[i' * zs.length + j]?).getD undef) D rfl (by rw [hlen]; omega) (by unfold maxLen; omega) hnew (by rw [size_madeCells, hzl]) (fun i' r hr => ?_) (fun i' j hi' hj => ?_) (fun i' j x hx => (d1 i' j x hx).elim) d2 (fun i' j r l hr hl => ?_)
        · rw [List.getElem?_replicate] at hr
          split at hr
          · rw [← Option.some.inj hr]
          · cases hr
        · rw [hlen] at hi'
          obtain ⟨v, v1, v2, _⟩ := hget i' j zs _ (by rw [List.getElem?_replicate, if_pos hi']) (List.getElem?_eq_getElem hj)
          rw [v1]
          exact ⟨rfl, v2⟩
        · obtain ⟨v, v1, v2, v3⟩ := hget i' j r l hr hl
          rw [v1]
          exact v3
    · cases hv
  · cases hv

theorem bytesOf_get : ∀ (rows : List (List L)) (l : List UInt8), bytesOf rows = some l → l.length = rows.length ∧ ∀ i, i < rows.length → ∃ n : Int, rows[i]? = some [L.int .u8 n] ∧ l[i]? = some (UInt8.ofNat n.toNat)
  | [], l, h => by simp only [bytesOf, Option.some.injEq] at h; subst h; exact ⟨rfl, fun i hi => by simp at hi⟩
  | r :: rs, l, h => by
    unfold bytesOf at h
    split at h
    · rename_i heq; cases heq
    · rename_i n rs' heq
      simp only [List.cons.injEq] at heq
      obtain ⟨rfl, rfl⟩ := heq
      rw [Option.map_eq_some_iff] at h
      obtain ⟨l', hl', rfl⟩ := h
      obtain ⟨h1, h2⟩ := bytesOf_get _ _ hl'
      refine ⟨by simp [h1], fun i hi => ?_⟩
      cases i with
      | zero => exact ⟨n, rfl, rfl⟩
      | succ i => simpa using h2 i (by simpa using hi)
    · cases h

theorem push_fold : ∀ (ns : List Int) (r : ByteArray), ns.foldl (fun r n => r.push (UInt8.ofNat n.toNat)) r = ⟨(r.data.toList ++ ns.map fun n => UInt8.ofNat n.toNat).toArray⟩
  | [], r => by simp
  | n :: ns, r => by
    rw [List.foldl_cons, push_fold ns]
    congr 1
    simp [ByteArray.push]

/-- The cells of a slice of one-cell rows. -/
theorem sl_cells {v : Value} {own : Bool} {rows : List (List L)} {S : Nat → Prop} {len cap : Nat} {ad : Option Addr} (h : RepL w I (.sl own 1 rows) (.slice ad len cap) S) (hne : rows ≠ []) :
    ∃ b q, ad = some ⟨b, q, none⟩ ∧ len = rows.length ∧ ∀ i, i < rows.length → ∀ l, rows[i]? = some [l] → ∃ u, w.cell? ⟨b, q + i, none⟩ = some u ∧ ∃ S', RepL w I l u S' := by
  cases h with
  | nil => exact absurd rfl hne
  | own _ _ _ b _ cs e cv D hS hlen hcap hb hcs hsz hcv hD hdis hrep =>
    refine ⟨b, 0, rfl, rfl, fun i hi l hl => ⟨cv i 0, ?_, D i 0, hrep i 0 _ l hl rfl⟩⟩
    have := (hcv i 0 hi (by omega)).1
    rw [Nat.mul_one, Nat.add_zero] at this
    rw [Nat.zero_add, cell_of hb]
    exact this
  | imm _ _ _ b q _ cv hI hsz hcv hrep =>
    refine ⟨b, q, rfl, rfl, fun i hi l hl => ⟨cv i 0, ?_, _, hrep i 0 _ l hl rfl⟩⟩
    have := (hcv i 0 hi (by omega)).1
    rw [Nat.mul_one, Nat.add_zero] at this
    exact this

theorem sound_bytes {o : Oper} {d : Tmp} {src dst e : TypeId} {x : Operand} {X : VS.X} (ho : o.op = .convert src dst x) (hd : o.dst = some d) (hs : P.underlying src = some (.slice e)) (he : P.underlying e = some (.int .u8)) (hdst : P.underlying dst = some .string) (hx : compX P src x = some X) :
    Sound1 P arg W G F o (.bytes d X) := by
  intro I O s s' a w K Q h hdl hv hk
  replace hdl := hdl d rfl
  simp only [vop] at hv
  split at hv
  · rename_i own rows hl
    split at hv
    · rename_i l hb
      obtain rfl := (Option.some.inj hv).symm
      obtain ⟨hlen, hget⟩ := bytesOf_get rows l hb
      obtain ⟨t, S, _, hr, _⟩ := look_leaf h (compX_val hx a) hl
      obtain ⟨ad, cap, hval⟩ := look_sl h (compX_val hx a) hl
      rw [hval] at hr
      have hconv : (Conv.bytesToString (.slice ad rows.length cap)).run P w = .ok (.string ⟨l.toArray⟩) w := by
        by_cases hne : rows = []
        · subst hne
          simp at hlen
          subst hlen
          cases ad with
          | none => simp [Conv.bytesToString]; rfl
          | some ad =>
            rw [run_bytesToString w ad _ cap [] (by simp [loadCells, loadCellsFrom])]
            rfl
        · obtain ⟨b, q, rfl, _, hc⟩ := sl_cells (v := a.eval x) hr hne
          have hns : ∃ ns : List Int, ns.length = rows.length ∧ ∀ i, i < rows.length → ∃ n, ns[i]? = some n ∧ rows[i]? = some [L.int .u8 n] ∧ l[i]? = some (UInt8.ofNat n.toNat) := by
            refine ⟨rows.map fun r => match r with | [.int _ n] => n | _ => 0, by simp, fun i hi => ?_⟩
            obtain ⟨n, h1, h2⟩ := hget i hi
            exact ⟨n, by simp [h1], h1, h2⟩
          obtain ⟨ns, n1, n2⟩ := hns
          have hload : (loadCells ⟨b, q, none⟩ rows.length).run P w = .ok (ns.map (Value.int .u8)).toArray w := by
            have := run_loadCells_list (P := P) w ⟨b, q, none⟩ (ns.map (Value.int .u8)) (fun j v hj => by
              have hjl : j < rows.length := by have := (List.getElem?_eq_some_iff.1 hj).1; simp at this; omega
              obtain ⟨n, m1, m2, _⟩ := n2 j hjl
              obtain ⟨u, u1, S', u2⟩ := hc j hjl _ m2
              cases u2
              rw [List.getElem?_map, m1] at hj
              rw [add_at, u1]
              simpa using hj)
            rwa [List.length_map, n1] at this
          rw [run_bytesToString w _ _ cap ns hload, push_fold]
          have hl : ByteArray.empty.data.toList ++ ns.map (fun n => UInt8.ofNat n.toNat) = l := ?_
          · rw [hl]
          rw [show ByteArray.empty.data.toList = [] from rfl, List.nil_append]
          apply List.ext_getElem?
          intro i
          by_cases hi : i < rows.length
          · obtain ⟨n, m1, _, m3⟩ := n2 i hi
            simp [m1, m3]
          · rw [List.getElem?_eq_none (by simp; omega), List.getElem?_eq_none (by omega)]
      have hrun : (execOp a.eval o).run P w = .ok (.value (.string ⟨l.toArray⟩)) w := by
        simp only [execOp, ho, hval, convert]
        simp [run_underlying hs, run_underlying hdst, run_underlying he, hconv]
      refine oper_value hrun (hk _ _ ?_)
      rw [hd]
      exact good_str h hdl
    · cases hv
  · cases hv

end Go.VS
