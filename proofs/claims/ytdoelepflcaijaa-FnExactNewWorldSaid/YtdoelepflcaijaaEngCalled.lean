/- A call turns the slots as the evaluator says. -/
import Derived.Test.YtdoelepflcaijaaEngBack
namespace Go.VS
open Go Go.RowKit
set_option linter.unusedSimpArgs false
set_option linter.unusedVariables false

variable {P : Program} {arg : Tmp → Value} {W w w' : World} {I I' : Nat → Prop} {O O' : Tmp → Nat → Prop} {s s' : RS} {vs : Array Value} {S S' : Nat → Prop} {c : CV} {x : X} {v : Value} {G : Sigs} {F : Fns}

/-- From one world to a later one, beside a value that owns R. -/
structure ExtR (w : World) (I : Nat → Prop) (O : Tmp → Nat → Prop) (w' : World) (I' : Nat → Prop) (O' : Tmp → Nat → Prop) (R : Nat → Prop) : Prop where
  imm : ∀ b, I b → I' b
  size : w.heap.size ≤ w'.heap.size
  kept : ∀ b, b < w.heap.size → (∀ t, ¬ O t b) → w'.heap[b]? = w.heap[b]?
  got : ∀ b, (∃ t, O' t b) ∨ R b ∨ I' b → (∃ t, O t b) ∨ I b ∨ w.heap.size ≤ b
  rlt : ∀ b, R b → b < w'.heap.size ∧ ¬ I' b ∧ ∀ t, ¬ O' t b

/-- What is known beside a call's results: of the arguments given away, of the roots not lent. -/
structure CoreX (arg : Tmp → Value) (w : World) (I : Nat → Prop) (O : Tmp → Nat → Prop) (s s2 : RS) (modes : List Mode) (as : List Arg) (us : Array Value) (outs : List CV) (w' : World) (I2 : Nat → Prop) (O2 : Tmp → Nat → Prop) (R : Nat → Prop) (A' : Nat → Nat → Prop) : Prop where
  outs : ∀ (j : Nat) c, outs[j]? = some c → RepC arg w' I2 c (us.getD j undef) (A' j)
  alt : ∀ j b, A' j b → b < w'.heap.size ∧ ¬ I2 b ∧ ¬ R b
  adis : ∀ j, modes[j]? = some .O → ∀ t b, A' j b → ¬ O2 t b
  agot : ∀ j b, A' j b → (∃ t, O t b) ∨ I b ∨ w.heap.size ≤ b
  same : ∀ r, r ∉ rootsM as → (∀ b, O2 r b → w'.heap[b]? = w.heap[b]?) ∧ ∀ c2, s2.e.get r = .v c2 → ∃ c0, s.e.get r = .v c0 ∧ ∀ v, c2.base v = c0.base v

theorem seen_modeO {s : RS} : ∀ {ms : List Mode} {xs : List X} {as : List Arg} {j : Nat}, s.seen ms xs = some as → ms[j]? = some .O → as[j]? = some .o
  | [], xs, as, j, h, hj => by simp at hj
  | m :: ms, [], as, j, h, hj => by simp [RS.seen] at h
  | m :: ms, x :: xs, as, j, h, hj => by
    simp only [RS.seen] at h
    split at h
    · rename_i a as' h1 h2
      obtain rfl := (Option.some.inj h).symm
      cases j with
      | zero => simp at hj; subst hj; simp at h1; simp [h1]
      | succ j => simp at hj; simpa using seen_modeO h2 hj
    · cases h

theorem core_sound {f : FuncId} {g : Sig} {modes : List Mode} {as : List Arg} {xs : List X} {us : Array Value} {res outs : List CV} {s2 : RS} {Q : Ending → World → Prop} (h : Rel arg W I O s vs w) (hK : Knows P W G F) (hg : G f = some g) (hx : ∀ (j : Nat) x, xs[j]? = some x → XV vs x (us.getD j undef)) (hul : us.size = xs.length)
    (hc : s.core F f g.own modes xs = some (res, outs, as, s2)) (hQ : ∀ v w' I2 O2 R A', Rel arg W I2 O2 s2 vs w' → RepR arg w' I2 res v R → ExtR w I O w' I2 O2 R → CoreX arg w I O s s2 modes as us outs w' I2 O2 R A' → Q (.returned v) w') : Calls P f us w Q := by
  unfold RS.core at hc
  split at hc
  · rename_i as has
    split at hc
    · rename_i hcond
      obtain ⟨hnd, hap, hown⟩ := hcond
      have hMV : ∀ r ∈ rootsM as, r ∉ rootsV as := by
        intro r hr
        have := List.all_eq_true.1 hap r hr
        simpa using this
      split at hc
      · rename_i cs s1 hgiv
        split at hc
        · rename_i res' outs hF
          split at hc
          · rename_i s2' hback
            simp only [Option.some.injEq, Prod.mk.injEq] at hc
            obtain ⟨rfl, rfl, rfl, rfl⟩ := hc
            have hseen := seen_sound _ _ as (fun j => us.getD j undef) h has hx
            have hH := h.hide (rootsM as ++ rootsV as)
            obtain ⟨O1, A, hr1, hgv, hworn, hxl⟩ := given_sound as xs _ s1 _ (fun j => us.getD j undef) cs hH hgiv hx
            obtain ⟨hans, hfree⟩ := hK f g cs res' outs hg hF
            obtain ⟨⟨pre, hpre⟩, hwt⟩ := hworn
            have hpre' : s1.d.take (s1.d.length - ((rootsM as).length + (rootsV as).length + s.d.length)) = pre := by
              have : s1.d.length - ((rootsM as).length + (rootsV as).length + s.d.length) = pre.length := by
                rw [hpre]; simp only [RS.hide, List.length_append, List.length_map]; omega
              rw [this, hpre, List.take_left]
            rw [hpre'] at hback
            obtain ⟨bV, bO, mm, bd, bm, bM⟩ := back_spec as outs _ s2' hback hnd hMV
            have hO1 : ∀ t b, O1 t b → t ∉ rootsM as ∧ t ∉ rootsV as ∧ O t b := by
              intro t b hb
              have h1 := hgv.left t b hb
              have h2 : t ∉ rootsM as ++ rootsV as := by simpa using h1.1
              exact ⟨fun hm => h2 (List.mem_append_left _ hm), fun hm => h2 (List.mem_append_right _ hm), h1.2⟩
            have hA : ∀ j b, A j b → ∃ t, t ∉ rootsM as ∧ t ∉ rootsV as ∧ O t b := by
              intro j b hb
              obtain ⟨t, h1⟩ := hgv.own j b hb
              have h2 : t ∉ rootsM as ++ rootsV as := by simpa using h1.1
              exact ⟨t, fun hm => h2 (List.mem_append_left _ hm), fun hm => h2 (List.mem_append_right _ hm), h1.2⟩
            -- what the callee may take for immutable; what the arguments own
            let Ic : Nat → Prop := fun b => I b ∨ ∃ r ∈ rootsV as, O r b
            let Ac : Nat → Nat → Prop := fun j b => A j b ∨ ∃ c r p o, as[j]? = some (.m c r p o) ∧ O r b
            have hAcO : ∀ j b, Ac j b → ∃ t, t ∉ rootsV as ∧ O t b := by
              rintro j b (hb | ⟨c, r, p, o, hj, hb⟩)
              · obtain ⟨t, h1, h2, h3⟩ := hA j b hb; exact ⟨t, h2, h3⟩
              · exact ⟨r, hMV r (mem_rootsM hj), hb⟩
            have hAcI : ∀ j b, Ac j b → ¬ Ic b := by
              rintro j b hb (hi | ⟨r, hr, hi⟩)
              · obtain ⟨t, _, h3⟩ := hAcO j b hb; exact h.notI t b h3 hi
              · obtain ⟨t, h2, h3⟩ := hAcO j b hb
                have := h.disj t r b h3 hi
                exact h2 (this ▸ hr)
            refine hans w Ic Ac us Q h.bel (fun b hb => .inl (h.old b hb)) ?_ ?_ ?_ ?_ ?_ ?_
            · rintro b (hb | ⟨r, _, hb⟩)
              · exact h.ilt b hb
              · exact h.olt r b hb
            · rw [hul, hxl, hgv.len]
            · intro j b hb
              obtain ⟨t, _, h3⟩ := hAcO j b hb
              exact ⟨h.olt t b h3, hAcI j b hb⟩
            · rintro j j' b (hb | ⟨c, r, p, o, hj, hb⟩) (hb' | ⟨c', r', p', o', hj', hb'⟩)
              · exact hgv.dis j j' b hb hb'
              · obtain ⟨t, h1, h2, h3⟩ := hA j b hb
                exact absurd (mem_rootsM hj') (h.disj t r' b h3 hb' ▸ h1)
              · obtain ⟨t, h1, h2, h3⟩ := hA j' b hb'
                exact absurd (mem_rootsM hj) (h.disj t r b h3 hb ▸ h1)
              · obtain rfl := h.disj r r' b hb hb'
                exact rootsM_inj hnd hj hj'
            · intro j c hj arg'
              have hjl : j < as.length := by rw [← hgv.len]; exact (List.getElem?_eq_some_iff.1 hj).1
              have hany : ∀ {arg'} {c : CV} {I S} {v : Value}, (∀ t row, c ≠ .pbox t row) → RepC arg w I c v S → RepC arg' w I c v S := by
                intro arg' c I S v hne hh
                cases c with
                | pbox t row => exact absurd rfl (hne t row)
                | _ => exact hh
              cases ha : as[j]'hjl with
              | v c0 r =>
                have ha' : as[j]? = some (.v c0 r) := by rw [List.getElem?_eq_getElem hjl, ha]
                have := hgv.v j c0 r ha'
                rw [hj] at this
                obtain rfl := Option.some.inj this
                obtain ⟨k1, k2, k3⟩ := hseen j _ ha'
                refine (hany (fun t row he => by rw [he] at k1; cases k1) k2).mono (fun b hb => ?_) fun b hb => hb.elim
                rcases hb with hb | ⟨t, rfl, hb⟩
                · exact .inl hb
                · exact .inr ⟨t, mem_rootsV ha', hb⟩
              | m c0 r p o =>
                have ha' : as[j]? = some (.m c0 r p o) := by rw [List.getElem?_eq_getElem hjl, ha]
                have := hgv.m j c0 r p o ha'
                rw [hj] at this
                obtain rfl := Option.some.inj this
                obtain ⟨row, row', rfl, _⟩ := bM j _ r p o ha'
                obtain ⟨c1, k1, k2⟩ := hseen j _ ha'
                rcases k2 with ⟨row2, rfl, e2, e3⟩ | hf
                · have hr := h.rep r
                  rw [k1] at hr
                  replace hr : RepC arg w I (.box row2) (vs.getD r undef) (O r) := hr
                  rw [e3, e2]
                  exact (hany (fun t row he => by cases he) hr).mono (fun b hb => .inl hb) fun b hb => .inr ⟨_, r, p, o, ha', hb⟩
                · cases hf
              | o =>
                have ha' : as[j]? = some .o := by rw [List.getElem?_eq_getElem hjl, ha]
                obtain ⟨c0, k1, k2, k3⟩ := hgv.o j ha'
                rw [hj] at k1
                obtain rfl := Option.some.inj k1
                exact (hany (fun t row he => by rw [he] at k2; cases k2) k3).mono (fun b hb => .inl hb) fun b hb => .inl hb
            · intro v w' I' R A' ha
              -- what was not lent or given is as it was
              have hwV : ∀ t b, t ∈ rootsV as → O t b → w'.heap[b]? = w.heap[b]? := fun t b ht hb =>
                ha.kept b (h.olt t b hb) fun j hj => by
                  obtain ⟨t', h1, h2⟩ := hAcO j b hj
                  exact h1 (h.disj t t' b hb h2 ▸ ht)
              have hwI : ∀ b, I b → w'.heap[b]? = w.heap[b]? := fun b hb =>
                ha.kept b (h.ilt b hb) fun j hj => hAcI j b hj (.inl hb)
              have hO1Ac : ∀ t b, O1 t b → ∀ j, ¬ Ac j b := by
                rintro t b hb j (hj | ⟨c, r, p, o, hj, hj'⟩)
                · exact hgv.gone t b hb j hj
                · obtain ⟨h1, h2, h3⟩ := hO1 t b hb
                  exact h1 (h.disj t r b h3 hj' ▸ mem_rootsM hj)
              have hO1Ic : ∀ t b, O1 t b → ¬ Ic b := by
                rintro t b hb (hi | ⟨r, hr, hi⟩)
                · exact h.notI t b (hO1 t b hb).2.2 hi
                · obtain ⟨h1, h2, h3⟩ := hO1 t b hb
                  exact h2 (h.disj t r b h3 hi ▸ hr)
              have hw1 : ∀ t b, O1 t b → w'.heap[b]? = w.heap[b]? := fun t b hb => ha.kept b (hr1.olt t b hb) (hO1Ac t b hb)
              have hO1R : ∀ t b, O1 t b → ¬ (R b ∨ (∃ j, A' j b) ∨ I' b) := by
                intro t b hb hg'
                rcases ha.got b hg' with ⟨j, hj⟩ | hi | hi
                · exact hO1Ac t b hb j hj
                · exact hO1Ic t b hb hi
                · have := hr1.olt t b hb; omega
              let I2 : Nat → Prop := fun b => if g.own = true then I b else I' b
              let O2 : Tmp → Nat → Prop := fun t b => (t ∈ rootsV as ∧ O t b) ∨ (∃ j c p o, as[j]? = some (.m c t p o) ∧ A' j b) ∨ O1 t b
              have hII2 : ∀ b, I b → I2 b := by
                intro b hb
                show if g.own = true then I b else I' b
                split
                · exact hb
                · exact ha.imm b (.inl hb)
              have hI2 : ∀ b, I2 b → I' b := by
                intro b hb
                replace hb : if g.own = true then I b else I' b := hb
                split at hb
                · exact ha.imm b (.inl hb)
                · exact hb
              have hVI' : ∀ t b, t ∈ rootsV as → O t b → I' b := fun t b ht hb => ha.imm b (.inr ⟨t, ht, hb⟩)
              have hres : RepR arg w' I2 res' v R := by
                have := ha.res arg
                by_cases ho : g.own = true
                · exact this.free (hfree ho).1
                · have e : I2 = I' := by funext b; show (if g.own = true then I b else I' b) = I' b; rw [if_neg ho]
                  rw [e]; exact this
              have houts : ∀ (j : Nat) c, outs[j]? = some c → RepC arg w' I2 c (us.getD j undef) (A' j) := by
                intro j c hj
                have := ha.outs j c hj arg
                by_cases ho : g.own = true
                · exact this.free (List.all_eq_true.1 (hfree ho).2 c (List.mem_of_getElem? hj))
                · have e : I2 = I' := by funext b; show (if g.own = true then I b else I' b) = I' b; rw [if_neg ho]
                  rw [e]; exact this
              have hO2 : ∀ t b, O2 t b → b < w'.heap.size ∧ ¬ I2 b ∧ ¬ R b := by
                rintro t b (⟨ht, hb⟩ | ⟨j, c, p, o, hj, hb⟩ | hb)
                · refine ⟨Nat.lt_of_lt_of_le (h.olt t b hb) ha.size, fun hi => ?_, fun hr => (ha.rlt b hr).2.1 (hVI' t b ht hb)⟩
                  rcases hown with ho | ho
                  · replace hi : if g.own = true then I b else I' b := hi
                    rw [if_pos ho] at hi
                    exact h.notI t b hb hi
                  · rw [ho] at ht; simp at ht
                · exact ⟨(ha.alt j b hb).1, fun hi => (ha.alt j b hb).2 (hI2 b hi), fun hr => (ha.rlt b hr).2.2 j hb⟩
                · exact ⟨Nat.lt_of_lt_of_le (hr1.olt t b hb) ha.size, fun hi => hO1R t b hb (.inr (.inr (hI2 b hi))), fun hr => hO1R t b hb (.inl hr)⟩
              have hclean1 : ∀ r p x k, r ∉ rootsM as → r ∉ rootsV as → clean s2'.d r p x k = true → clean s1.d r p x k = true := by
                intro r p x k h1 h2 hcl
                rw [bd, clean_append, clean_append, Bool.and_eq_true, Bool.and_eq_true] at hcl
                rw [hpre, clean_append, RS.hide, clean_hide, hcl.2.1, hcl.2.2]
                simp [h1, h2]
              have hcleanP1 : ∀ r p, r ∉ rootsM as → r ∉ rootsV as → cleanP s2'.d r p = true → cleanP s1.d r p = true := by
                intro r p h1 h2 hcl
                rw [bd, cleanP_append, cleanP_append, Bool.and_eq_true, Bool.and_eq_true] at hcl
                rw [hpre, cleanP_append, RS.hide, cleanP_hide, hcl.2.1, hcl.2.2]
                simp [h1, h2]
              have hsame : ∀ t, (∀ c, s1.e.get t ≠ .v c) → s1.e.get t ≠ .bad → s.e.get t = s1.e.get t := by
                intro t h1 h2
                have hh : (s.hide (rootsM as ++ rootsV as)).e.get t = if (rootsM as ++ rootsV as).contains t then .bad else s.e.get t := get_del ..
                rcases hwt t with k | k | ⟨_, c', _, k, _⟩
                · rw [hh] at k
                  split at k
                  · exact absurd k h2
                  · exact k.symm
                · exact absurd k h2
                · exact absurd k (h1 c')
              refine hQ v w' I2 O2 R A' ⟨ha.bel, fun b hb => hII2 b (h.old b hb), fun b hb => ha.ilt b (hI2 b hb), fun t b hb => (hO2 t b hb).1, fun t b hb => (hO2 t b hb).2.1, ?_, fun t => ?_⟩ hres ⟨hII2, ha.size, fun b hb hno => ?_, fun b hb => ?_, fun b hb => ⟨(ha.rlt b hb).1, fun hi => (ha.rlt b hb).2.1 (hI2 b hi), fun t ht => (hO2 t b ht).2.2 hb⟩⟩
                ⟨houts, fun j b hb => ⟨(ha.alt j b hb).1, fun hi => (ha.alt j b hb).2 (hI2 b hi), fun hr => (ha.rlt b hr).2.2 j hb⟩, fun j hmj t b hb ho => ?_, fun j b hb => ?_, fun r hrm => ⟨fun b hb => ?_, fun c2 hc2 => ?_⟩⟩
              · rintro t t' b (⟨ht, hb⟩ | ⟨j, c, p, o, hj, hb⟩ | hb) (⟨ht', hb'⟩ | ⟨j', c', p', o', hj', hb'⟩ | hb')
                · exact h.disj t t' b hb hb'
                · exact absurd (hVI' t b ht hb) (ha.alt j' b hb').2
                · exact h.disj t t' b hb (hO1 t' b hb').2.2
                · exact absurd (hVI' t' b ht' hb') (ha.alt j b hb).2
                · obtain rfl := ha.adis j j' b hb hb'
                  rw [hj] at hj'
                  simp only [Option.some.injEq, Arg.m.injEq] at hj'
                  exact hj'.2.1
                · exact absurd (.inr (.inl ⟨j, hb⟩)) (hO1R t' b hb')
                · exact h.disj t t' b (hO1 t b hb).2.2 hb'
                · exact absurd (.inr (.inl ⟨j', hb'⟩)) (hO1R t b hb)
                · exact hr1.disj t t' b hb hb'
              · -- slot t
                by_cases htM : t ∈ rootsM as
                · obtain ⟨j, c, p, o, hj⟩ := rootsM_mem htM
                  obtain ⟨row, row', rfl, k1, k2, k3, k4⟩ := bM j c t p o hj
                  rw [k3]
                  obtain ⟨c1, q1, q2⟩ := hseen j _ hj
                  rcases q2 with ⟨row2, rfl, e2, e3⟩ | hf
                  · have := houts j _ k1
                    rw [e3] at this
                    exact RepC.mono this (fun _ h => h) fun b hb => .inr (.inl ⟨j, _, p, o, hj, hb⟩)
                  · cases hf
                · by_cases htV : t ∈ rootsV as
                  · rw [bV t htV]
                    obtain ⟨j, c, hj⟩ := rootsV_mem htV
                    obtain ⟨_, _, q3⟩ := hseen j _ hj
                    obtain ⟨c0, q3⟩ := q3 t rfl
                    have hr := h.rep t
                    rw [q3] at hr ⊢
                    exact (RepC.world hr fun b hb => hb.elim (hwV t b htV) (hwI b)).mono hII2 fun b hb => .inl ⟨htV, hb⟩
                  · rw [bO t htM htV]
                    have hr := hr1.rep t
                    show RepA arg w' I2 s2' vs (s1.e.get t) (vs.getD t undef) (O2 t)
                    have hblk : ∀ b, O1 t b ∨ I b → w'.heap[b]? = w.heap[b]? := fun b hb => hb.elim (hw1 t b) (hwI b)
                    -- places behind the call
                    have hplace : ∀ r p B row, (∀ c, s1.e.get t ≠ .v c) → s1.e.get t ≠ .bad → (Roots w s1.e vs r p B row → r ∉ rootsM as → r ∉ rootsV as → Roots w' s2'.e vs r p B row ∧ ∀ j, j < row.length → B.get w' j = B.get w j) ∧
                        (Roots w s.e vs r p B row → r ∈ rootsV as → Roots w' s2'.e vs r p B row ∧ ∀ j, j < row.length → B.get w' j = B.get w j) := by
                      intro r p B row _ _
                      refine ⟨fun hrt h1 h2 => hr1.roots_world hrt (bO r h1 h2) (hw1 r), fun hrt h2 => ?_⟩
                      exact h.roots_world hrt (bV r h2) fun b hb => hwV r b h2 hb
                    have hmroot : ∀ r p B row, r ∈ rootsM as → Roots w s.e vs r p B row → ∃ n mrow, (r, [], 0, n + 1) ∈ mm ∧ s.e.get r = .v (.box mrow) ∧ mrow.length = n ∧ (p = [] → B = CV.base (.box mrow) (vs.getD r undef) ∧ row.length = n ∧ ∃ row', Roots w' s2'.e vs r [] B row') ∧ (∀ c i p', p = (c, i) :: p' → c < n) := by
                      intro r p B row hm ⟨c0, g1, g2⟩
                      obtain ⟨j, c, p1, o1, hj⟩ := rootsM_mem hm
                      obtain ⟨row1, row1', rfl, k1, k2, k3, k4⟩ := bM j c r p1 o1 hj
                      obtain ⟨c1, q1, q2⟩ := hseen j _ hj
                      rcases q2 with ⟨row2, rfl, e2, e3⟩ | hf
                      · simp only [CV.box.injEq] at e2
                        subst e2
                        rw [q1] at g1
                        obtain rfl := (AV.v.inj g1).symm
                        refine ⟨row1.length, row1, k4, q1, rfl, fun hp => ?_, fun c i p' hp => ?_⟩
                        · subst hp
                          cases g2
                          refine ⟨rfl, rfl, row1', _, k3, ?_⟩
                          have : CV.base (.box row1') (vs.getD r undef) = CV.base (.box row1) (vs.getD r undef) := by
                            cases vs.getD r undef <;> first | rfl | (rename_i a; cases a <;> rfl)
                          rw [this]
                          exact .nil ..
                        · subst hp
                          cases g2 with
                          | step _ _ _ _ _ _ _ sz rows r2 b len cap h1 _ _ _ => exact (List.getElem?_eq_some_iff.1 h1).1
                      · cases hf
                    cases hav : s1.e.get t with
                    | bad => trivial
                    | un => rw [hav] at hr; exact hr
                    | v c => rw [hav] at hr; exact (RepC.world hr hblk).mono hII2 fun b hb => .inr (.inr hb)
                    | tup cs => rw [hav] at hr; exact (RepT.world hr hblk).mono hII2 fun b hb => .inr (.inr hb)
                    | iptr row o =>
                      rw [hav] at hr
                      obtain ⟨b, o', h1, h2, h3⟩ := hr
                      exact ⟨b, o', hII2 b h1, h2, (h3.world (fun j _ => World.cell?_of_block (w := w) (w' := w') (a := ⟨b, o' + j, none⟩) (hwI b h1)) fun x hx => hwI x (hx.resolve_left id)).mono hII2 fun _ h => h⟩
                    | ptr r p o =>
                      rw [hav] at hr
                      have hsv := hsame t (by rw [hav]; intro c h; cases h) (by rw [hav]; intro h; cases h)
                      rw [hav] at hsv
                      intro hcl
                      have hr0 := h.rep t
                      rw [hsv] at hr0
                      have hcl' := hcl
                      rw [bd, cleanP_append, cleanP_append, Bool.and_eq_true, Bool.and_eq_true] at hcl'
                      by_cases hrM : r ∈ rootsM as
                      · obtain ⟨b, o', row', k1, k2⟩ := hr0 hcl'.2.2
                        obtain ⟨n, mrow, m1, m2, m3, m4, m5⟩ := hmroot r p _ row' hrM k1
                        have hh := (cleanP_mem hcl'.1 m1).2
                        cases p with
                        | nil =>
                          obtain ⟨n1, n2, row2, n3⟩ := m4 rfl
                          exact ⟨b, o', row2, n3, k2⟩
                        | cons q p' =>
                          obtain ⟨c, i⟩ := q
                          have := m5 c i p' rfl
                          simp [hits] at hh
                          omega
                      · by_cases hrV : r ∈ rootsV as
                        · obtain ⟨b, o', row', k1, k2⟩ := hr0 hcl'.2.2
                          exact ⟨b, o', row', ((hplace r p _ row' (by rw [hav]; intro c h; cases h) (by rw [hav]; intro h; cases h)).2 k1 hrV).1, k2⟩
                        · obtain ⟨b, o', row', k1, k2⟩ := hr (hcleanP1 r p hrM hrV hcl)
                          exact ⟨b, o', row', ((hplace r p _ row' (by rw [hav]; intro c h; cases h) (by rw [hav]; intro h; cases h)).1 k1 hrM hrV).1, k2⟩
                    | ld r p o n agg =>
                      rw [hav] at hr
                      have hsv := hsame t (by rw [hav]; intro c h; cases h) (by rw [hav]; intro h; cases h)
                      rw [hav] at hsv
                      intro hcl
                      have hr0 := h.rep t
                      rw [hsv] at hr0
                      have hcl' := hcl
                      rw [bd, clean_append, clean_append, Bool.and_eq_true, Bool.and_eq_true] at hcl'
                      have fin : ∀ B row', Roots w' s2'.e vs r p B row' → (∀ j, j < row'.length → B.get w' j = B.get w j) → o + n ≤ row'.length →
                          ((agg = true → ∃ cs, vs.getD t undef = .agg cs ∧ cs.size = n ∧ ∀ j, j < n → cs[j]? = B.get w (o + j)) ∧ (agg = false → n = 1 ∧ B.get w o = some (vs.getD t undef))) →
                          ∃ B row', Roots w' s2'.e vs r p B row' ∧ o + n ≤ row'.length ∧
                            (agg = true → ∃ cs, vs.getD t undef = .agg cs ∧ cs.size = n ∧ ∀ j, j < n → cs[j]? = B.get w' (o + j)) ∧ (agg = false → n = 1 ∧ B.get w' o = some (vs.getD t undef)) := by
                        intro B row' k1 k2 k3 k4
                        refine ⟨B, row', k1, k3, fun hg => ?_, fun hg => ?_⟩
                        · obtain ⟨cs, q1, q2, q3⟩ := k4.1 hg
                          exact ⟨cs, q1, q2, fun j hj => (q3 j hj).trans (k2 (o + j) (by omega)).symm⟩
                        · obtain ⟨q1, q2⟩ := k4.2 hg
                          exact ⟨q1, (k2 o (by omega)).trans q2⟩
                      by_cases hrM : r ∈ rootsM as
                      · obtain ⟨B, row', k1, k3, k2⟩ := hr0 hcl'.2.2
                        obtain ⟨n0, mrow, m1, m2, m3, m4, m5⟩ := hmroot r p _ row' hrM k1
                        have hh := (clean_mem hcl'.1 m1).2
                        cases p with
                        | nil =>
                          obtain ⟨n1, n2, row2, n3⟩ := m4 rfl
                          simp only [meets, Bool.and_eq_false_iff, decide_eq_false_iff_not] at hh
                          have hz : o = 0 ∧ n = 0 := by omega
                          obtain ⟨rfl, rfl⟩ := hz
                          refine ⟨B, row2, n3, by omega, fun hg => ?_, fun hg => by have := (k2.2 hg).1; omega⟩
                          obtain ⟨cs, q1, q2, q3⟩ := k2.1 hg
                          exact ⟨cs, q1, q2, fun j hj => by omega⟩
                        | cons q p' =>
                          obtain ⟨c, i⟩ := q
                          have := m5 c i p' rfl
                          simp [meets] at hh
                          omega
                      · by_cases hrV : r ∈ rootsV as
                        · obtain ⟨B, row', k1, k3, k2⟩ := hr0 hcl'.2.2
                          obtain ⟨e1, e2⟩ := (hplace r p _ row' (by rw [hav]; intro c h; cases h) (by rw [hav]; intro h; cases h)).2 k1 hrV
                          exact fin B row' e1 e2 k3 k2
                        · obtain ⟨B, row', k1, k3, k2⟩ := hr (hclean1 r p o n hrM hrV hcl)
                          obtain ⟨e1, e2⟩ := (hplace r p _ row' (by rw [hav]; intro c h; cases h) (by rw [hav]; intro h; cases h)).1 k1 hrM hrV
                          exact fin B row' e1 e2 k3 k2
              · refine ha.kept b hb fun j hj => ?_
                obtain ⟨t, _, h3⟩ := hAcO j b hj
                exact hno t h3
              · have key : R b ∨ (∃ j, A' j b) ∨ I' b → (∃ t, O t b) ∨ I b ∨ w.heap.size ≤ b := by
                  intro hh
                  rcases ha.got b hh with ⟨j, hj⟩ | hi | hi
                  · obtain ⟨t, _, h3⟩ := hAcO j b hj; exact .inl ⟨t, h3⟩
                  · rcases hi with hi | ⟨r, _, hi⟩
                    · exact .inr (.inl hi)
                    · exact .inl ⟨r, hi⟩
                  · exact .inr (.inr hi)
                rcases hb with ⟨t, ⟨_, hb⟩ | ⟨j, _, _, _, _, hb⟩ | hb⟩ | hb | hb
                · exact .inl ⟨t, hb⟩
                · exact key (.inr (.inl ⟨j, hb⟩))
                · exact .inl ⟨t, (hO1 t b hb).2.2⟩
                · exact key (.inl hb)
                · exact key (.inr (.inr (hI2 b hb)))
              · have hjo := seen_modeO has hmj
                rcases ho with ⟨ht, ho⟩ | ⟨j', c, p, o, hj', ho⟩ | ho
                · exact (ha.alt j b hb).2 (hVI' t b ht ho)
                · obtain rfl := ha.adis j j' b hb ho
                  rw [hjo] at hj'; cases hj'
                · exact hO1R t b ho (.inr (.inl ⟨j, hb⟩))
              · rcases ha.got b (.inr (.inl ⟨j, hb⟩)) with ⟨j', hj'⟩ | hi | hi
                · obtain ⟨t, _, h3⟩ := hAcO j' b hj'; exact .inl ⟨t, h3⟩
                · rcases hi with hi | ⟨r, _, hi⟩
                  · exact .inr (.inl hi)
                  · exact .inl ⟨r, hi⟩
                · exact .inr (.inr hi)
              · rcases hb with ⟨ht, hb⟩ | ⟨j', c, p, o, hj', hb⟩ | hb
                · exact hwV r b ht hb
                · exact absurd (mem_rootsM hj') hrm
                · exact hw1 r b hb
              · by_cases hrV : r ∈ rootsV as
                · rw [bV r hrV] at hc2
                  exact ⟨c2, hc2, fun _ => rfl⟩
                · have hh : (s.hide (rootsM as ++ rootsV as)).e.get r = s.e.get r := by
                    have : (s.hide (rootsM as ++ rootsV as)).e.get r = if (rootsM as ++ rootsV as).contains r then .bad else s.e.get r := get_del ..
                    rw [this, if_neg (by simp [hrm, hrV])]
                  have hc3 : s1.e.get r = .v c2 := (bO r hrm hrV).symm.trans hc2
                  rcases hwt r with k | k | ⟨c0, c', k0, k, kb⟩
                  · exact ⟨c2, by rw [← hh, ← k, hc3], fun _ => rfl⟩
                  · rw [k] at hc3; cases hc3
                  · rw [k] at hc3
                    obtain rfl := (AV.v.inj hc3).symm
                    exact ⟨c0, hh ▸ k0, kb⟩
          · cases hc
        · cases hc
      · cases hc
    · cases hc
  · cases hc

end Go.VS
