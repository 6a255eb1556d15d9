/- Behind a call: the slots stand for the frame again. -/
import Derived.Test.YtdoelepflcaijaaEngCall
namespace Go.VS
open Go Go.RowKit
set_option linter.unusedSimpArgs false
set_option linter.unusedVariables false

variable {P : Program} {arg : Tmp → Value} {W w w' : World} {I I' : Nat → Prop} {O O' : Tmp → Nat → Prop} {s s' : RS} {vs : Array Value} {S S' : Nat → Prop} {c : CV} {x : X} {v : Value} {G : Sigs} {F : Fns}

theorem rootsV_mem : ∀ {as : List Arg} {r : Tmp}, r ∈ rootsV as → ∃ (j : Nat) (c : CV), as[j]? = some (.v c (some r))
  | [], r, h => by simp [rootsV] at h
  | .v c none :: as, r, h => by obtain ⟨j, c', hj⟩ := rootsV_mem (as := as) h; exact ⟨j + 1, c', by simpa using hj⟩
  | .v c (some r') :: as, r, h => by
    simp only [rootsV, List.mem_cons] at h
    rcases h with rfl | h
    · exact ⟨0, c, rfl⟩
    · obtain ⟨j, c', hj⟩ := rootsV_mem (as := as) h; exact ⟨j + 1, c', by simpa using hj⟩
  | .m .. :: as, r, h => by obtain ⟨j, c', hj⟩ := rootsV_mem (as := as) h; exact ⟨j + 1, c', by simpa using hj⟩
  | .o :: as, r, h => by obtain ⟨j, c', hj⟩ := rootsV_mem (as := as) h; exact ⟨j + 1, c', by simpa using hj⟩
theorem mem_rootsV : ∀ {as : List Arg} {j : Nat} {c : CV} {r : Tmp}, as[j]? = some (.v c (some r)) → r ∈ rootsV as
  | [], j, c, r, h => by simp at h
  | a :: as, 0, c, r, h => by simp at h; subst h; simp [rootsV]
  | a :: as, j + 1, c, r, h => by
    have := mem_rootsV (as := as) (j := j) (by simpa using h)
    cases a with
    | v c r' => cases r' <;> simp [rootsV, this]
    | _ => exact this
theorem rootsM_mem : ∀ {as : List Arg} {r : Tmp}, r ∈ rootsM as → ∃ (j : Nat) (c : CV) (p : List (Nat × Nat)) (o : Nat), as[j]? = some (.m c r p o)
  | [], r, h => by simp [rootsM] at h
  | .m c r' p o :: as, r, h => by
    simp only [rootsM, List.mem_cons] at h
    rcases h with rfl | h
    · exact ⟨0, c, p, o, rfl⟩
    · obtain ⟨j, c', p', o', hj⟩ := rootsM_mem (as := as) h; exact ⟨j + 1, c', p', o', by simpa using hj⟩
  | .v .. :: as, r, h => by obtain ⟨j, c', p', o', hj⟩ := rootsM_mem (as := as) h; exact ⟨j + 1, c', p', o', by simpa using hj⟩
  | .o :: as, r, h => by obtain ⟨j, c', p', o', hj⟩ := rootsM_mem (as := as) h; exact ⟨j + 1, c', p', o', by simpa using hj⟩
theorem mem_rootsM : ∀ {as : List Arg} {j : Nat} {c : CV} {r : Tmp} {p : List (Nat × Nat)} {o : Nat}, as[j]? = some (.m c r p o) → r ∈ rootsM as
  | [], j, c, r, p, o, h => by simp at h
  | a :: as, 0, c, r, p, o, h => by simp at h; subst h; simp [rootsM]
  | a :: as, j + 1, c, r, p, o, h => by
    have := mem_rootsM (as := as) (j := j) (by simpa using h)
    cases a with
    | m c r' => simp [rootsM, this]
    | _ => exact this
theorem rootsM_inj : ∀ {as : List Arg} {j j' : Nat} {c c' : CV} {r : Tmp} {p p' : List (Nat × Nat)} {o o' : Nat}, nodup (rootsM as) = true → as[j]? = some (.m c r p o) → as[j']? = some (.m c' r p' o') → j = j'
  | [], j, j', c, c', r, p, p', o, o', hn, h, h' => by simp at h
  | a :: as, 0, 0, c, c', r, p, p', o, o', hn, h, h' => rfl
  | a :: as, 0, j' + 1, c, c', r, p, p', o, o', hn, h, h' => by
    simp at h; subst h
    simp only [rootsM, nodup, Bool.and_eq_true, Bool.not_eq_true', List.contains_eq_mem, decide_eq_false_iff_not] at hn
    exact absurd (mem_rootsM (as := as) (j := j') (by simpa using h')) hn.1
  | a :: as, j + 1, 0, c, c', r, p, p', o, o', hn, h, h' => by
    simp at h'; subst h'
    simp only [rootsM, nodup, Bool.and_eq_true, Bool.not_eq_true', List.contains_eq_mem, decide_eq_false_iff_not] at hn
    exact absurd (mem_rootsM (as := as) (j := j) (by simpa using h)) hn.1
  | a :: as, j + 1, j' + 1, c, c', r, p, p', o, o', hn, h, h' => by
    have hn' : nodup (rootsM as) = true := by
      cases a with
      | m => simp only [rootsM, nodup, Bool.and_eq_true] at hn; exact hn.2
      | _ => exact hn
    rw [rootsM_inj (as := as) (j := j) (j' := j') hn' (by simpa using h) (by simpa using h')]

theorem lent_box {cr c c' cr' : CV} {p : List (Nat × Nat)} {o n : Nat} (h : lent cr p o c c' = some (cr', n)) : ∃ row row', c = .box row ∧ c' = .box row' ∧ row'.length = row.length ∧ cr' = .box row' ∧ n = row.length + 1 := by
  unfold lent at h
  split at h
  · split at h
    · rename_i row row' hl
      simp only [Option.some.injEq, Prod.mk.injEq] at h
      exact ⟨row, row', rfl, rfl, hl, h.1.symm, h.2.symm⟩
    · cases h
  · cases h

theorem back_spec {s0 : RS} : ∀ (as : List Arg) (outs : List CV) (s s2 : RS), s0.back s as outs = some s2 → nodup (rootsM as) = true → (∀ r ∈ rootsM as, r ∉ rootsV as) →
    (∀ r ∈ rootsV as, s2.e.get r = s0.e.get r) ∧ (∀ t, t ∉ rootsM as → t ∉ rootsV as → s2.e.get t = s.e.get t) ∧
    ∃ mm : List Dirt, s2.d = mm ++ s.d ∧ (∀ e ∈ mm, e.1 ∈ rootsM as) ∧ ∀ (j : Nat) c r p o, as[j]? = some (.m c r p o) → ∃ row row', c = .box row ∧ outs[j]? = some (.box row') ∧ row'.length = row.length ∧ s2.e.get r = .v (.box row') ∧ (r, [], 0, row.length + 1) ∈ mm
  | [], [], s, s2, hb, hn, hd => by
    simp only [RS.back, Option.some.injEq] at hb
    subst hb
    exact ⟨fun r h => by simp [rootsV] at h, fun _ _ _ => rfl, [], rfl, fun e h => by simp at h, fun j c r p o h => by simp at h⟩
  | [], _ :: _, s, s2, hb, hn, hd => by simp [RS.back] at hb
  | .v _ none :: _, [], s, s2, hb, hn, hd => by simp [RS.back] at hb
  | .v _ (some _) :: _, [], s, s2, hb, hn, hd => by simp [RS.back] at hb
  | .m .. :: _, [], s, s2, hb, hn, hd => by simp [RS.back] at hb
  | .o :: _, [], s, s2, hb, hn, hd => by simp [RS.back] at hb
  | .v c none :: as, c1 :: outs, s, s2, hb, hn, hd => by
    obtain ⟨h1, h2, mm, h3, h4, h5⟩ := back_spec as outs s s2 hb hn hd
    refine ⟨h1, h2, mm, h3, h4, fun j c r p o hj => ?_⟩
    cases j with
    | zero => simp at hj
    | succ j => simpa using h5 j c r p o (by simpa using hj)
  | .o :: as, c1 :: outs, s, s2, hb, hn, hd => by
    obtain ⟨h1, h2, mm, h3, h4, h5⟩ := back_spec as outs s s2 hb hn hd
    refine ⟨h1, h2, mm, h3, h4, fun j c r p o hj => ?_⟩
    cases j with
    | zero => simp at hj
    | succ j => simpa using h5 j c r p o (by simpa using hj)
  | .v c (some r0) :: as, c1 :: outs, s, s2, hb, hn, hd => by
    obtain ⟨h1, h2, mm, h3, h4, h5⟩ := back_spec as outs _ s2 hb hn fun r hr h => hd r hr (by simp [rootsV, h])
    refine ⟨fun r hr => ?_, fun t ht ht' => ?_, mm, h3, h4, fun j c r p o hj => ?_⟩
    · by_cases hin : r ∈ rootsV as
      · exact h1 r hin
      · simp only [rootsV, List.mem_cons] at hr
        obtain rfl := hr.resolve_right hin
        rw [h2 r (fun hm => hd r hm (by simp [rootsV])) hin]
        simp only [RS.set, get_put, if_pos]
    · simp only [rootsV, List.mem_cons, not_or] at ht'
      rw [h2 t ht ht'.2]
      simp only [RS.set, get_put, if_neg ht'.1]
    · cases j with
      | zero => simp at hj
      | succ j => simpa using h5 j c r p o (by simpa using hj)
  | .m c r0 p0 o0 :: as, c1 :: outs, s, s2, hb, hn, hd => by
    simp only [RS.back] at hb
    split at hb
    · rename_i cr hcr
      split at hb
      · rename_i cr' n hl
        obtain ⟨row, row', rfl, rfl, hlen, rfl, rfl⟩ := lent_box hl
        simp only [rootsM, nodup, Bool.and_eq_true, Bool.not_eq_true', List.contains_eq_mem, decide_eq_false_iff_not] at hn
        obtain ⟨h1, h2, mm, h3, h4, h5⟩ := back_spec as outs _ s2 hb hn.2 fun r hr h => hd r (by simp [rootsM, hr]) h
        refine ⟨h1, fun t ht ht' => ?_, mm ++ [(r0, [], 0, row.length + 1)], by rw [h3]; simp [RS.mark, RS.set], fun e he => ?_, fun j c r p o hj => ?_⟩
        · simp only [rootsM, List.mem_cons, not_or] at ht
          rw [h2 t ht.2 ht']
          simp only [RS.mark, RS.set, get_put, if_neg ht.1]
        · simp only [List.mem_append, List.mem_singleton] at he
          rcases he with he | rfl
          · simp [rootsM, h4 e he]
          · simp [rootsM]
        · cases j with
          | zero =>
            simp only [List.getElem?_cons_zero, Option.some.injEq, Arg.m.injEq] at hj
            obtain ⟨rfl, rfl, rfl, rfl⟩ := hj
            refine ⟨row, row', rfl, rfl, hlen, ?_, by simp⟩
            rw [h2 r0 hn.1 (hd r0 (by simp [rootsM]))]
            simp only [RS.mark, RS.set, get_put, if_pos]
          | succ j =>
            obtain ⟨row1, row1', k1, k2, k3, k4, k5⟩ := h5 j c r p o (by simpa using hj)
            exact ⟨row1, row1', k1, by simpa using k2, k3, k4, by simp [k5]⟩
      · cases hb
    · cases hb

theorem clean_mem {d : List Dirt} {r : Tmp} {p q : List (Nat × Nat)} {x k o n : Nat} (h : clean d r p x k = true) (hm : (r, q, o, n) ∈ d) : n ≠ 0 ∧ meets q o n p x k = false := by
  induction d with
  | nil => simp at hm
  | cons e d ih =>
    rcases List.mem_cons.1 hm with he | hm
    · subst he
      exact (clean_mark h).2 rfl
    · exact ih (by obtain ⟨r', q', o', n'⟩ := e; exact (clean_mark h).1) hm
theorem cleanP_mem {d : List Dirt} {r : Tmp} {p q : List (Nat × Nat)} {o n : Nat} (h : cleanP d r p = true) (hm : (r, q, o, n) ∈ d) : n ≠ 0 ∧ hits q o n p = false := by
  induction d with
  | nil => simp at hm
  | cons e d ih =>
    rcases List.mem_cons.1 hm with he | hm
    · subst he
      exact (cleanP_mark h).2 rfl
    · exact ih (by obtain ⟨r', q', o', n'⟩ := e; exact (cleanP_mark h).1) hm

/-- A root that nobody has touched, in a later world: its places are where they were. -/
theorem Rel.roots_world (h : Rel arg W I O s vs w) {r : Tmp} {p : List (Nat × Nat)} {B : Base} {row : List L} {e' : Env} (hr : Roots w s.e vs r p B row) (he : e'.get r = s.e.get r) (hw : ∀ b, O r b → w'.heap[b]? = w.heap[b]?) :
    Roots w' e' vs r p B row ∧ ∀ j, j < row.length → B.get w' j = B.get w j := by
  obtain ⟨c, h1, h2⟩ := hr
  have hc := h.rep r
  rw [h1] at hc
  have hB : ∀ j, (c.base (vs.getD r undef)).get w' j = (c.base (vs.getD r undef)).get w j := by
    intro j
    cases hb : c.base (vs.getD r undef) with
    | vals cs => rfl
    | addr b o2 => exact World.cell?_of_block (w := w) (w' := w') (a := ⟨b, o2 + j, none⟩) (hw b (base_owned hc hb).1)
  obtain ⟨q1, q2⟩ := h2.world (RepC.root hc) (fun x hx => hw x hx.1) (fun j _ => hB j)
  exact ⟨⟨c, by rw [he, h1], q1⟩, q2⟩

end Go.VS
