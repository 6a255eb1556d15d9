/- All functions together: what each answers, without a limit on how deep it goes. -/
import Derived.Test.YtdoelepflcaijaaEngFun
namespace Go.VS
open Go Go.RowKit
set_option linter.unusedSimpArgs false
set_option linter.unusedVariables false

variable {P : Program} {G : Sigs} {F F' : Fns} {s s' : RS}

/-- What holds of F holds by finitely many of its answers. -/
def Fin (F : Fns) (X : Fns → Prop) : Prop := ∃ l : List (FuncId × List CV × (List CV × List CV)), (∀ q ∈ l, F q.1 q.2.1 = some q.2.2) ∧ ∀ F' : Fns, (∀ q ∈ l, F' q.1 q.2.1 = some q.2.2) → X F'
theorem Fin.all {X : Fns → Prop} (h : ∀ F', X F') : Fin F X := ⟨[], fun q h => by simp at h, fun F' _ => h F'⟩
theorem Fin.mono {X Y : Fns → Prop} (h : Fin F X) (hy : ∀ F', X F' → Y F') : Fin F Y := by
  obtain ⟨l, h1, h2⟩ := h
  exact ⟨l, h1, fun F' h => hy F' (h2 F' h)⟩
theorem Fin.and {X Y : Fns → Prop} (h : Fin F X) (k : Fin F Y) : Fin F (fun F' => X F' ∧ Y F') := by
  obtain ⟨l, h1, h2⟩ := h
  obtain ⟨m, k1, k2⟩ := k
  refine ⟨l ++ m, fun q hq => ?_, fun F' hq => ⟨h2 F' fun q h => hq q (List.mem_append_left _ h), k2 F' fun q h => hq q (List.mem_append_right _ h)⟩⟩
  rcases List.mem_append.1 hq with h | h
  · exact h1 q h
  · exact k1 q h

theorem core_fin {f : FuncId} {own : Bool} {ms : List Mode} {xs : List X} {q : List CV × List CV × List Arg × RS} (h : s.core F f own ms xs = some q) : Fin F (fun F' => s.core F' f own ms xs = some q) := by
  unfold RS.core at h
  split at h
  · rename_i as has
    split at h
    · rename_i hcond
      split at h
      · rename_i cs s1 hgiv
        split at h
        · rename_i res outs hF
          refine ⟨[(f, cs, (res, outs))], fun q hq => ?_, fun F' hq => ?_⟩
          · simp at hq; subst hq; exact hF
          · have hF' := hq (f, cs, (res, outs)) (by simp)
            unfold RS.core
            simp only [has, if_pos hcond, hgiv, hF']
            exact h
        · cases h
      · cases h
    · cases h
  · cases h
theorem call_fin {f : FuncId} {xs : List X} {q : List CV × RS} (h : s.call G F f xs = some q) : Fin F (fun F' => s.call G F' f xs = some q) := by
  unfold RS.call at h
  split at h
  · rename_i g hg
    split at h
    · rename_i hle
      split at h
      · rename_i res outs as s2 hc
        refine (core_fin hc).mono fun F' h' => ?_
        unfold RS.call
        rw [hg]
        simp only [hle, h']
        exact h
      · cases h
    · rename_i j t hle
      split at h
      · rename_i res outs as s2 hc
        refine (core_fin hc).mono fun F' h' => ?_
        unfold RS.call
        rw [hg]
        simp only [hle, h']
        exact h
      · cases h
  · cases h
theorem vop_fin {o : VOp} (h : vop G F s o = some s') : Fin F (fun F' => vop G F' s o = some s') := by
  cases o with
  | call d f args =>
    simp only [vop] at h
    split at h
    · rename_i c s2 hc
      exact (call_fin hc).mono fun F' h' => by simp only [vop, h']; exact h
    · rename_i res s2 hne hc
      refine (call_fin hc).mono fun F' h' => ?_
      simp only [vop, h']
      exact h
    · cases h
  | _ => exact .all fun F' => h
theorem gop_fin {g : GOp} (h : gop G F s g = some s') : Fin F (fun F' => gop G F' s g = some s') := by
  obtain ⟨gd, o⟩ := g
  unfold gop at h ⊢
  cases gd with
  | none => exact vop_fin h
  | some tw =>
    obtain ⟨t, want⟩ := tw
    simp only at h ⊢
    cases hav : s.e.get t with
    | un => rw [hav] at h; exact .all fun F' => h
    | v c =>
      rw [hav] at h
      cases c with
      | leaf l =>
        cases l with
        | bool b =>
          simp only at h ⊢
          by_cases hb : b = want
          · rw [if_pos hb] at h
            simp only [if_pos hb]
            exact vop_fin h
          · rw [if_neg hb] at h
            simp only [if_neg hb]
            exact .all fun F' => h
        | _ => cases h
      | _ => cases h
    | _ => rw [hav] at h; cases h
theorem gops_fin : ∀ {gs : List GOp} {s s' : RS}, gops G F gs s = some s' → Fin F (fun F' => gops G F' gs s = some s')
  | [], s, s', h => .all fun F' => h
  | g :: gs, s, s', h => by
    simp only [gops] at h
    split at h
    · rename_i s1 h1
      exact ((gop_fin h1).and (gops_fin h)).mono fun F' ⟨k1, k2⟩ => by simp only [gops, k1]; exact k2
    · cases h

theorem stage_fin {S T : RS} {k : Nat} : ∀ {qs : List DOp}, stage G F S T k qs → Fin F (fun F' => stage G F' S T k qs)
  | [], h => .all fun F' => h
  | q :: qs, h => by
    obtain ⟨h1, h2⟩ := h
    refine (Fin.and (X := fun F' => q.calm = true → q.lo ≤ k → k ≤ q.hi → match q.o.o.dst with
      | some d => T.e.get d = S.e.get d ∧ gop G F' T q.o = some (T.put d (S.e.get d))
      | none => False) ?_ (stage_fin h2)).mono fun F' hh => hh
    by_cases hc : q.calm = true ∧ q.lo ≤ k ∧ k ≤ q.hi
    · have := h1 hc.1 hc.2.1 hc.2.2
      split at this
      · rename_i d hd
        exact (gop_fin this.2).mono fun F' k' _ _ _ => by simp only [hd]; exact ⟨this.1, k'⟩
      · exact this.elim
    · exact .all fun F' a b c => absurd ⟨a, b, c⟩ hc
theorem runL_fin {S : RS} {all : List DOp} : ∀ {qs : List DOp} {k : Nat} {T s' : RS}, runL G F S all qs k T = some s' → Fin F (fun F' => runL G F' S all qs k T = some s')
  | [], k, T, s', h => by
    simp only [runL] at h
    split at h
    · rename_i hs
      exact (stage_fin hs).mono fun F' hs' => by simp only [runL, if_pos hs']; exact h
    · cases h
  | q :: qs, k, T, s', h => by
    simp only [runL] at h
    split at h
    · rename_i hc
      exact (runL_fin h).mono fun F' h' => by simp only [runL, if_pos hc]; exact h'
    · rename_i hc
      split at h
      · rename_i hs
        split at h
        · rename_i T' hT
          exact (((stage_fin hs).and (gop_fin hT)).and (runL_fin h)).mono fun F' ⟨⟨k1, k2⟩, k3⟩ => by simp only [runL, if_neg hc, if_pos k1, k2]; exact k3
        · cases h
      · cases h
theorem draw_fin {qs : List DOp} {s s' : RS} (h : draw G F qs s = some s') : Fin F (fun F' => draw G F' qs s = some s') := by
  unfold draw at h
  split at h
  · rename_i S hS
    split at h
    · rename_i hc
      exact ((gops_fin hS).and (runL_fin h)).mono fun F' ⟨k1, k2⟩ => by unfold draw; simp only [k1, if_pos hc]; exact k2
    · cases h
  · cases h

theorem iter_fin {n : Nat} {f : Fns → Nat → Env → Option (VX × Env)} (hf : ∀ e r, f F n e = some r → Fin F (fun F' => ∀ n', n ≤ n' → f F' n' e = some r)) : ∀ (m : Nat) (e : Env) (r : VX × Env), iter (f F n) m e = some r → Fin F (fun F' => ∀ n' m', n ≤ n' → m ≤ m' → iter (f F' n') m' e = some r)
  | 0, e, r, h => by simp [iter] at h
  | m + 1, e, r, h => by
    simp only [iter] at h
    split at h
    · rename_i e1 h1
      refine ((hf e _ h1).and (iter_fin hf m e1 r h)).mono fun F' ⟨k1, k2⟩ n' m' hn hm => ?_
      obtain ⟨m'', rfl⟩ : ∃ m'', m' = m'' + 1 := ⟨m' - 1, by omega⟩
      simp only [iter, k1 n' hn]
      exact k2 n' m'' hn (by omega)
    · rename_i hne
      refine (hf e r h).mono fun F' k n' m' hn hm => ?_
      obtain ⟨m'', rfl⟩ : ∃ m'', m' = m'' + 1 := ⟨m' - 1, by omega⟩
      simp only [iter, k n' hn]
      split
      · rename_i e1 he
        obtain rfl := Option.some.inj he
        exact absurd h (hne e1)
      · rfl

theorem ex_fin {n : Nat} : ∀ (c : VC) (e : Env) (r : VX × Env), ex G F n c e = some r → Fin F (fun F' => ∀ n', n ≤ n' → ex G F' n' c e = some r) := by
  intro c
  induction c with
  | skip => intro e r h; exact .all fun F' n' _ => h
  | exit id => intro e r h; exact .all fun F' n' _ => h
  | ret => intro e r h; exact .all fun F' n' _ => h
  | region gs live =>
    intro e r h
    simp only [ex] at h
    split at h
    · rename_i s1 h1
      exact (gops_fin h1).mono fun F' k n' _ => by simp only [ex, k]; exact h
    · cases h
  | draw qs live =>
    intro e r h
    simp only [ex] at h
    split at h
    · rename_i s1 h1
      exact (draw_fin h1).mono fun F' k n' _ => by simp only [ex, k]; exact h
    · cases h
  | seq a b iha ihb =>
    intro e r h
    simp only [ex] at h
    split at h
    · rename_i e1 h1
      exact ((iha e _ h1).and (ihb e1 r h)).mono fun F' ⟨k1, k2⟩ n' hn => by simp only [ex, k1 n' hn]; exact k2 n' hn
    · rename_i hne
      refine (iha e r h).mono fun F' k n' hn => ?_
      simp only [ex, k n' hn]
      split
      · rename_i e1 he
        obtain rfl := Option.some.inj he
        exact absurd h (hne e1)
      · rfl
  | cond x a b iha ihb =>
    intro e r h
    simp only [ex] at h
    split at h
    · rename_i t ht
      cases t with
      | true => exact (iha e r h).mono fun F' k n' hn => by simp only [ex, ht]; exact k n' hn
      | false => exact (ihb e r h).mono fun F' k n' hn => by simp only [ex, ht]; exact k n' hn
    · cases h
  | block id b ih =>
    intro e r h
    simp only [ex] at h
    split at h
    · rename_i id' e1 h1
      exact (ih e _ h1).mono fun F' k n' hn => by simp only [ex, k n' hn]; exact h
    · rename_i hne
      refine (ih e r h).mono fun F' k n' hn => ?_
      simp only [ex, k n' hn]
      split
      · rename_i id' e1 he
        obtain rfl := Option.some.inj he
        exact absurd h (hne id' e1)
      · rfl
  | loop b ih =>
    intro e r h
    simp only [ex] at h ⊢
    exact (iter_fin (f := fun F n => ex G F n b) (fun e r h => ih e r h) n e r h).mono fun F' k n' hn => k n' n' hn hn

theorem vfn_fin {n : Nat} {vf : VFn} {cs : List CV} {r : List CV × List CV} (h : vfn G F n vf cs = some r) : Fin F (fun F' => ∀ n', n ≤ n' → vfn G F' n' vf cs = some r) := by
  unfold vfn at h
  split at h
  · rename_i e he
    exact (ex_fin _ _ _ he).mono fun F' k n' hn => by simp only [vfn, k n' hn]; exact h
  · rename_i e he
    exact (ex_fin _ _ _ he).mono fun F' k n' hn => by simp only [vfn, k n' hn]; exact h
  · cases h

/-- The functions' answers, n calls deep. -/
noncomputable def run (G : Sigs) (T : FuncId → Option VFn) (prim : Fns) : Nat → Fns
  | 0, _, _ => none
  | n + 1, f, cs => match T f with
    | some vf => vfn G (run G T prim n) n vf cs
    | none => prim f cs

variable {T : FuncId → Option VFn} {prim : Fns}
theorem run_succ : ∀ (n : Nat) (f : FuncId) (cs : List CV) (r : List CV × List CV), run G T prim n f cs = some r → run G T prim (n + 1) f cs = some r
  | 0, f, cs, r, h => by cases h
  | n + 1, f, cs, r, h => by
    rw [run] at h ⊢
    split at h
    · rename_i vf hvf
      obtain ⟨l, h1, h2⟩ := vfn_fin h
      exact h2 _ (fun q hq => run_succ n _ _ _ (h1 q hq)) (n + 1) (Nat.le_succ n)
    · exact h
theorem run_le {n m : Nat} (hn : n ≤ m) {f : FuncId} {cs : List CV} {r : List CV × List CV} (h : run G T prim n f cs = some r) : run G T prim m f cs = some r := by
  induction hn with
  | refl => exact h
  | step _ ih => exact run_succ _ _ _ _ ih

open Classical in
/-- What a function answers, be it as deep as it may. -/
noncomputable def lim (G : Sigs) (T : FuncId → Option VFn) (prim : Fns) : Fns := fun f cs => if h : ∃ n r, run G T prim n f cs = some r then some h.choose_spec.choose else none
theorem lim_of {n : Nat} {f : FuncId} {cs : List CV} {r : List CV × List CV} (h : run G T prim n f cs = some r) : lim G T prim f cs = some r := by
  have hex : ∃ n r, run G T prim n f cs = some r := ⟨n, r, h⟩
  unfold lim
  rw [dif_pos hex]
  have h1 := hex.choose_spec.choose_spec
  have k1 := run_le (Nat.le_max_left n hex.choose) h
  have k2 := run_le (Nat.le_max_right n hex.choose) h1
  rw [k1] at k2
  exact k2.symm
theorem of_lim {f : FuncId} {cs : List CV} {r : List CV × List CV} (h : lim G T prim f cs = some r) : ∃ n, run G T prim n f cs = some r := by
  unfold lim at h
  split at h
  · rename_i hex
    have h1 := hex.choose_spec.choose_spec
    rw [← Option.some.inj h]
    exact ⟨_, h1⟩
  · cases h

/-- A function answers what its body answers, the answers of all the others known. -/
theorem lim_fn {f : FuncId} {vf : VFn} {n : Nat} {cs : List CV} {r : List CV × List CV} (hT : T f = some vf) (h : vfn G (lim G T prim) n vf cs = some r) : lim G T prim f cs = some r := by
  obtain ⟨l, h1, h2⟩ := vfn_fin h
  have hm : ∃ m, ∀ q ∈ l, run G T prim m q.1 q.2.1 = some q.2.2 := by
    clear h2
    induction l with
    | nil => exact ⟨0, fun q h => by simp at h⟩
    | cons q l ih =>
      obtain ⟨m, hm⟩ := ih fun q hq => h1 q (by simp [hq])
      obtain ⟨m', hm'⟩ := of_lim (h1 q (by simp))
      refine ⟨max m m', fun q' hq' => ?_⟩
      rcases List.mem_cons.1 hq' with rfl | hq'
      · exact run_le (Nat.le_max_right _ _) hm'
      · exact run_le (Nat.le_max_left _ _) (hm q' hq')
  obtain ⟨m, hm⟩ := hm
  refine lim_of (n := max n m + 1) ?_
  rw [run, hT]
  exact h2 _ (fun q hq => run_le (Nat.le_max_right _ _) (hm q hq)) _ (Nat.le_max_left _ _)
theorem lim_prim {f : FuncId} {cs : List CV} {r : List CV × List CV} (hT : T f = none) (h : prim f cs = some r) : lim G T prim f cs = some r :=
  lim_of (n := 1) (by rw [run, hT]; exact h)

/-- What the table answers is so. -/
theorem knows_run {W : World} (hT : ∀ f vf, T f = some vf → Comp P f vf ∧ G f = some vf.sig) (hp : ∀ f g cs res outs, T f = none → G f = some g → prim f cs = some (res, outs) → Answers P W f cs res outs ∧ (g.own = true → res.all CV.free = true ∧ outs.all CV.free = true)) :
    ∀ n, Knows P W G (run G T prim n)
  | 0 => fun f g cs res outs _ h => by cases h
  | n + 1 => fun f g cs res outs hg h => by
    rw [run] at h
    split at h
    · rename_i vf hvf
      obtain ⟨h1, h2⟩ := hT f vf hvf
      rw [h2] at hg
      obtain rfl := Option.some.inj hg
      exact fn_sound h1 (knows_run hT hp n) h
    · rename_i hno
      exact hp f g cs res outs hno hg h
theorem lim_answers {W : World} (hT : ∀ f vf, T f = some vf → Comp P f vf ∧ G f = some vf.sig) (hp : ∀ f g cs res outs, T f = none → G f = some g → prim f cs = some (res, outs) → Answers P W f cs res outs ∧ (g.own = true → res.all CV.free = true ∧ outs.all CV.free = true)) {f : FuncId} {g : Sig} {cs res outs : List CV}
    (hg : G f = some g) (h : lim G T prim f cs = some (res, outs)) : Answers P W f cs res outs := by
  obtain ⟨n, hn⟩ := of_lim h
  exact (knows_run hT hp n f g cs res outs hg hn).1

end Go.VS
