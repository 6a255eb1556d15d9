/- Running a function's code step by step: what is left to do as a list of frames; rules to rewrite by. -/
import Derived.Test.YtdoelepflcaijaaEngLim
namespace Go.VS
open Go
set_option linter.unusedSimpArgs false
set_option linter.unusedVariables false

variable {G : Sigs} {F : Fns} {T : FuncId → Option VFn} {prim : Fns}

/-- What is left to do: more code; the end of a block; the next round of a loop. -/
inductive Fr where
  | seq (b : VC)
  | blk (id : Nat)
  | rep (b : VC)
noncomputable def cont (G : Sigs) (F : Fns) (n : Nat) : List Fr → VX → Env → Option (VX × Env)
  | [], x, e => some (x, e)
  | .seq b :: ks, .normal, e => match ex G F n b e with
    | some (x, e') => cont G F n ks x e'
    | none => none
  | .seq _ :: ks, x, e => cont G F n ks x e
  | .blk id :: ks, .exit id', e => if id' = id then cont G F n ks .normal e else cont G F n ks (.exit id') e
  | .blk _ :: ks, x, e => cont G F n ks x e
  | .rep b :: ks, .normal, e => match iter (ex G F n b) n e with
    | some (x, e') => cont G F n ks x e'
    | none => none
  | .rep _ :: ks, x, e => cont G F n ks x e
/-- Code c run on e, then what is left: it ends, so that Q holds. -/
def Run (G : Sigs) (F : Fns) (c : VC) (e : Env) (ks : List Fr) (Q : VX → Env → Prop) : Prop :=
  ∃ n x e' x' e'', ex G F n c e = some (x, e') ∧ cont G F n ks x e' = some (x', e'') ∧ Q x' e''

theorem ex_mono {n n' : Nat} (hn : n ≤ n') {c : VC} {e : Env} {r : VX × Env} (h : ex G F n c e = some r) : ex G F n' c e = some r := by
  obtain ⟨l, h1, h2⟩ := ex_fin c e r h
  exact h2 F h1 n' hn
theorem iter_mono {f f' : Env → Option (VX × Env)} (hf : ∀ e r, f e = some r → f' e = some r) : ∀ {n n' : Nat} {e : Env} {r : VX × Env}, n ≤ n' → iter f n e = some r → iter f' n' e = some r
  | 0, n', e, r, hn, h => by simp [iter] at h
  | n + 1, n', e, r, hn, h => by
    obtain ⟨m, rfl⟩ : ∃ m, n' = m + 1 := ⟨n' - 1, by omega⟩
    simp only [iter] at h ⊢
    split at h
    · rename_i e1 h1
      rw [hf _ _ h1]
      exact iter_mono hf (by omega) h
    · rename_i hne
      rw [hf _ _ h]
      split
      · rename_i e1 he
        obtain rfl := Option.some.inj he
        exact absurd h (hne e1)
      · rfl
theorem cont_mono {n n' : Nat} (hn : n ≤ n') : ∀ {ks : List Fr} {x : VX} {e : Env} {r : VX × Env}, cont G F n ks x e = some r → cont G F n' ks x e = some r
  | [], x, e, r, h => h
  | k :: ks, x, e, r, h => by
    cases k with
    | seq b =>
      cases x with
      | normal =>
        simp only [cont] at h ⊢
        split at h
        · rename_i x' e' h1
          rw [ex_mono hn h1]
          exact cont_mono hn h
        · cases h
      | _ => simp only [cont] at h ⊢; exact cont_mono hn h
    | blk id =>
      cases x with
      | exit id' =>
        simp only [cont] at h ⊢
        split at h
        · rename_i hh; rw [if_pos hh]; exact cont_mono hn h
        · rename_i hh; rw [if_neg hh]; exact cont_mono hn h
      | _ => simp only [cont] at h ⊢; exact cont_mono hn h
    | rep b =>
      cases x with
      | normal =>
        simp only [cont] at h ⊢
        split at h
        · rename_i x' e' h1
          rw [iter_mono (fun e r h => ex_mono hn h) hn h1]
          exact cont_mono hn h
        · cases h
      | _ => simp only [cont] at h ⊢; exact cont_mono hn h

variable {c a b : VC} {e e' : Env} {ks : List Fr} {Q : VX → Env → Prop}

theorem run_seq : Run G F (.seq a b) e ks Q ↔ Run G F a e (.seq b :: ks) Q := by
  constructor
  · rintro ⟨n, x, e1, x', e2, h1, h2, h3⟩
    simp only [ex] at h1
    split at h1
    · rename_i e0 h0
      exact ⟨n, .normal, e0, x', e2, h0, by simp only [cont, h1]; exact h2, h3⟩
    · rename_i hne
      refine ⟨n, x, e1, x', e2, h1, ?_, h3⟩
      cases x with
      | normal => exact absurd h1 (hne e1)
      | _ => simp only [cont]; exact h2
  · rintro ⟨n, x, e1, x', e2, h1, h2, h3⟩
    cases x with
    | normal =>
      simp only [cont] at h2
      split at h2
      · rename_i x0 e0 h0
        exact ⟨n, x0, e0, x', e2, by simp only [ex, h1]; exact h0, h2, h3⟩
      · cases h2
    | exit id => exact ⟨n, .exit id, e1, x', e2, by simp only [ex, h1], by simpa only [cont] using h2, h3⟩
    | ret => exact ⟨n, .ret, e1, x', e2, by simp only [ex, h1], by simpa only [cont] using h2, h3⟩
theorem run_block {id : Nat} : Run G F (.block id b) e ks Q ↔ Run G F b e (.blk id :: ks) Q := by
  constructor
  · rintro ⟨n, x, e1, x', e2, h1, h2, h3⟩
    simp only [ex] at h1
    split at h1
    · rename_i id' e0 h0
      refine ⟨n, .exit id', e0, x', e2, h0, ?_, h3⟩
      simp only [cont]
      split at h1
      · rename_i hh
        simp only [Option.some.injEq, Prod.mk.injEq] at h1
        obtain ⟨rfl, rfl⟩ := h1
        rw [if_pos hh]; exact h2
      · rename_i hh
        simp only [Option.some.injEq, Prod.mk.injEq] at h1
        obtain ⟨rfl, rfl⟩ := h1
        rw [if_neg hh]; exact h2
    · rename_i hne
      refine ⟨n, x, e1, x', e2, h1, ?_, h3⟩
      cases x with
      | exit id' => exact absurd h1 (hne id' e1)
      | _ => simp only [cont]; exact h2
  · rintro ⟨n, x, e1, x', e2, h1, h2, h3⟩
    cases x with
    | exit id' =>
      simp only [cont] at h2
      split at h2
      · rename_i hh
        exact ⟨n, .normal, e1, x', e2, by simp only [ex, h1, if_pos hh], h2, h3⟩
      · rename_i hh
        exact ⟨n, .exit id', e1, x', e2, by simp only [ex, h1, if_neg hh], h2, h3⟩
    | normal => exact ⟨n, .normal, e1, x', e2, by simp only [ex, h1], by simpa only [cont] using h2, h3⟩
    | ret => exact ⟨n, .ret, e1, x', e2, by simp only [ex, h1], by simpa only [cont] using h2, h3⟩
theorem run_skip_seq : Run G F .skip e (.seq b :: ks) Q ↔ Run G F b e ks Q := by
  constructor
  · rintro ⟨n, x, e1, x', e2, h1, h2, h3⟩
    simp only [ex, Option.some.injEq, Prod.mk.injEq] at h1
    obtain ⟨rfl, rfl⟩ := h1
    simp only [cont] at h2
    split at h2
    · rename_i x0 e0 h0
      exact ⟨n, x0, e0, x', e2, h0, h2, h3⟩
    · cases h2
  · rintro ⟨n, x, e1, x', e2, h1, h2, h3⟩
    exact ⟨n, .normal, e, x', e2, rfl, by simp only [cont, h1]; exact h2, h3⟩
theorem run_skip_blk {id : Nat} : Run G F .skip e (.blk id :: ks) Q ↔ Run G F .skip e ks Q := by
  constructor
  · rintro ⟨n, x, e1, x', e2, h1, h2, h3⟩
    simp only [ex, Option.some.injEq, Prod.mk.injEq] at h1
    obtain ⟨rfl, rfl⟩ := h1
    exact ⟨n, .normal, _, x', e2, rfl, by simpa only [cont] using h2, h3⟩
  · rintro ⟨n, x, e1, x', e2, h1, h2, h3⟩
    simp only [ex, Option.some.injEq, Prod.mk.injEq] at h1
    obtain ⟨rfl, rfl⟩ := h1
    exact ⟨n, .normal, _, x', e2, rfl, by simpa only [cont] using h2, h3⟩
theorem run_skip_nil : Run G F .skip e [] Q ↔ Q .normal e := by
  constructor
  · rintro ⟨n, x, e1, x', e2, h1, h2, h3⟩
    simp only [ex, cont, Option.some.injEq, Prod.mk.injEq] at h1 h2
    obtain ⟨rfl, rfl⟩ := h1
    obtain ⟨rfl, rfl⟩ := h2
    exact h3
  · intro h; exact ⟨0, .normal, e, .normal, e, rfl, rfl, h⟩
theorem run_exit_seq {id : Nat} : Run G F (.exit id) e (.seq b :: ks) Q ↔ Run G F (.exit id) e ks Q := by
  constructor <;>
  · rintro ⟨n, x, e1, x', e2, h1, h2, h3⟩
    simp only [ex, Option.some.injEq, Prod.mk.injEq] at h1
    obtain ⟨rfl, rfl⟩ := h1
    exact ⟨n, .exit id, _, x', e2, rfl, by simpa only [cont] using h2, h3⟩
theorem run_exit_rep {id : Nat} : Run G F (.exit id) e (.rep b :: ks) Q ↔ Run G F (.exit id) e ks Q := by
  constructor <;>
  · rintro ⟨n, x, e1, x', e2, h1, h2, h3⟩
    simp only [ex, Option.some.injEq, Prod.mk.injEq] at h1
    obtain ⟨rfl, rfl⟩ := h1
    exact ⟨n, .exit id, _, x', e2, rfl, by simpa only [cont] using h2, h3⟩
theorem run_exit_blk {id id' : Nat} : Run G F (.exit id) e (.blk id' :: ks) Q ↔ if id = id' then Run G F .skip e ks Q else Run G F (.exit id) e ks Q := by
  split
  · rename_i hh
    constructor
    · rintro ⟨n, x, e1, x', e2, h1, h2, h3⟩
      simp only [ex, Option.some.injEq, Prod.mk.injEq] at h1
      obtain ⟨rfl, rfl⟩ := h1
      simp only [cont, if_pos hh] at h2
      exact ⟨n, .normal, _, x', e2, rfl, h2, h3⟩
    · rintro ⟨n, x, e1, x', e2, h1, h2, h3⟩
      simp only [ex, Option.some.injEq, Prod.mk.injEq] at h1
      obtain ⟨rfl, rfl⟩ := h1
      exact ⟨n, .exit id, _, x', e2, rfl, by simp only [cont, if_pos hh]; exact h2, h3⟩
  · rename_i hh
    constructor
    · rintro ⟨n, x, e1, x', e2, h1, h2, h3⟩
      simp only [ex, Option.some.injEq, Prod.mk.injEq] at h1
      obtain ⟨rfl, rfl⟩ := h1
      simp only [cont, if_neg hh] at h2
      exact ⟨n, .exit id, _, x', e2, rfl, h2, h3⟩
    · rintro ⟨n, x, e1, x', e2, h1, h2, h3⟩
      simp only [ex, Option.some.injEq, Prod.mk.injEq] at h1
      obtain ⟨rfl, rfl⟩ := h1
      exact ⟨n, .exit id, _, x', e2, rfl, by simp only [cont, if_neg hh]; exact h2, h3⟩
theorem run_ret_cons {k : Fr} : Run G F .ret e (k :: ks) Q ↔ Run G F .ret e ks Q := by
  constructor <;>
  · rintro ⟨n, x, e1, x', e2, h1, h2, h3⟩
    simp only [ex, Option.some.injEq, Prod.mk.injEq] at h1
    obtain ⟨rfl, rfl⟩ := h1
    exact ⟨n, .ret, _, x', e2, rfl, by cases k <;> simpa only [cont] using h2, h3⟩
theorem run_ret_nil : Run G F .ret e [] Q ↔ Q .ret e := by
  constructor
  · rintro ⟨n, x, e1, x', e2, h1, h2, h3⟩
    simp only [ex, cont, Option.some.injEq, Prod.mk.injEq] at h1 h2
    obtain ⟨rfl, rfl⟩ := h1
    obtain ⟨rfl, rfl⟩ := h2
    exact h3
  · intro h; exact ⟨0, .ret, e, .ret, e, rfl, rfl, h⟩
/-- A region's end: on with what is left. -/
def RunR (G : Sigs) (F : Fns) (live : List Tmp) (ks : List Fr) (Q : VX → Env → Prop) : Option RS → Prop
  | some s => match s.fin live live with
    | some s' => Run G F .skip s'.e ks Q
    | none => False
  | none => False
theorem run_region {ops : List GOp} {live : List Tmp} : Run G F (.region ops live) e ks Q ↔ RunR G F live ks Q (gops G F ops ⟨e, []⟩) := by
  unfold Run RunR
  simp only [ex]
  constructor
  · rintro ⟨n, x, e1, x', e2, h1, h2, h3⟩
    split at h1
    · rename_i s hs
      split at h1
      · rename_i s' hs'
        simp only [Option.some.injEq, Prod.mk.injEq] at h1
        obtain ⟨rfl, rfl⟩ := h1
        simp only [hs, hs']
        exact ⟨n, _, _, x', e2, rfl, h2, h3⟩
      · cases h1
    · cases h1
  · intro h
    split at h
    · rename_i s hs
      split at h
      · rename_i s' hs'
        obtain ⟨n, x, e1, x', e2, h1, h2, h3⟩ := h
        try simp only [ex, Option.some.injEq, Prod.mk.injEq] at h1
        obtain ⟨rfl, rfl⟩ := h1
        exact ⟨n, .normal, s'.e, x', e2, by simp only [hs, hs'], h2, h3⟩
      · cases h
    · cases h
theorem run_draw {qs : List DOp} {live : List Tmp} : Run G F (.draw qs live) e ks Q ↔ RunR G F live ks Q (draw G F qs ⟨e, []⟩) := by
  unfold Run RunR
  simp only [ex]
  constructor
  · rintro ⟨n, x, e1, x', e2, h1, h2, h3⟩
    split at h1
    · rename_i s hs
      split at h1
      · rename_i s' hs'
        simp only [Option.some.injEq, Prod.mk.injEq] at h1
        obtain ⟨rfl, rfl⟩ := h1
        simp only [hs, hs']
        exact ⟨n, _, _, x', e2, rfl, h2, h3⟩
      · cases h1
    · cases h1
  · intro h
    split at h
    · rename_i s hs
      split at h
      · rename_i s' hs'
        obtain ⟨n, x, e1, x', e2, h1, h2, h3⟩ := h
        try simp only [ex, Option.some.injEq, Prod.mk.injEq] at h1
        obtain ⟨rfl, rfl⟩ := h1
        exact ⟨n, .normal, s'.e, x', e2, by simp only [hs, hs'], h2, h3⟩
      · cases h
    · cases h
/-- A branch on what a slot holds. -/
def RunB (P1 P2 : Prop) : Option CV → Prop
  | some (.leaf (.bool t)) => if t = true then P1 else P2
  | _ => False
theorem run_cond {x : X} : Run G F (.cond x a b) e ks Q ↔ RunB (Run G F a e ks Q) (Run G F b e ks Q) ((RS.mk e []).look ((RS.mk e []).val x)) := by
  unfold RunB Run
  simp only [ex]
  constructor
  · rintro ⟨n, y, e1, x', e2, h1, h2, h3⟩
    split at h1
    · rename_i t ht
      simp only [ht]
      split at h1
      · rename_i hh; simp only [hh, if_true]; exact ⟨n, y, e1, x', e2, h1, h2, h3⟩
      · rename_i hh; simp only [hh, if_false]; exact ⟨n, y, e1, x', e2, h1, h2, h3⟩
    · cases h1
  · intro h
    split at h
    · rename_i t ht
      split at h
      · rename_i hh
        obtain ⟨n, y, e1, x', e2, h1, h2, h3⟩ := h
        exact ⟨n, y, e1, x', e2, by simp only [ht, hh, if_true]; exact h1, h2, h3⟩
      · rename_i hh
        obtain ⟨n, y, e1, x', e2, h1, h2, h3⟩ := h
        exact ⟨n, y, e1, x', e2, by simp only [ht, if_neg hh]; exact h1, h2, h3⟩
    · cases h
theorem run_loop (h : Run G F b e (.rep b :: ks) Q) : Run G F (.loop b) e ks Q := by
  obtain ⟨n, x, e1, x', e2, h1, h2, h3⟩ := h
  cases x with
  | normal =>
    simp only [cont] at h2
    split at h2
    · rename_i x0 e0 h0
      refine ⟨n + 1, x0, e0, x', e2, ?_, cont_mono (Nat.le_succ n) h2, h3⟩
      simp only [ex, iter, ex_mono (Nat.le_succ n) h1]
      exact iter_mono (fun e r h => ex_mono (Nat.le_succ n) h) (Nat.le_refl _) h0
    · cases h2
  | exit id =>
    refine ⟨n + 1, .exit id, e1, x', e2, ?_, cont_mono (Nat.le_succ n) (by simpa only [cont] using h2), h3⟩
    simp only [ex, iter, ex_mono (Nat.le_succ n) h1]
  | ret =>
    refine ⟨n + 1, .ret, e1, x', e2, ?_, cont_mono (Nat.le_succ n) (by simpa only [cont] using h2), h3⟩
    simp only [ex, iter, ex_mono (Nat.le_succ n) h1]
theorem run_loop_at {b' : VC} (hb : b = b') (h : Run G F b' e (.rep b :: ks) Q) : Run G F (.loop b) e ks Q := run_loop (hb ▸ h)
theorem run_skip_rep : Run G F .skip e (.rep b :: ks) Q ↔ Run G F (.loop b) e ks Q := by
  constructor
  · rintro ⟨n, x, e1, x', e2, h1, h2, h3⟩
    simp only [ex, Option.some.injEq, Prod.mk.injEq] at h1
    obtain ⟨rfl, rfl⟩ := h1
    simp only [cont] at h2
    split at h2
    · rename_i x0 e0 h0
      exact ⟨n, x0, e0, x', e2, by simp only [ex]; exact h0, h2, h3⟩
    · cases h2
  · rintro ⟨n, x, e1, x', e2, h1, h2, h3⟩
    exact ⟨n, .normal, e, x', e2, rfl, by simp only [cont]; simp only [ex] at h1; rw [h1]; exact h2, h3⟩

/-- A function's end. -/
def fnEnd (own : Bool) (ms : List Mode) (rs : List RX) (e : Env) : Option (List CV × List CV) :=
  match (RS.mk e []).results rs with
  | some (cs, s) => match outs s.e 0 ms with
    | some os => if own = false ∨ (cs.all CV.free ∧ os.all CV.free) then some (cs, os) else none
    | none => none
  | none => none
def QF (own : Bool) (ms : List Mode) (rs : List RX) (r : List CV × List CV) : VX → Env → Prop
  | .exit _, _ => False
  | _, e => fnEnd own ms rs e = some r
def QE (own : Bool) (ms : List Mode) (rs : List RX) (X : List CV → List CV → Prop) : VX → Env → Prop
  | .exit _, _ => False
  | _, e => ∃ cs os, fnEnd own ms rs e = some (cs, os) ∧ X cs os
theorem lim_runE {f : FuncId} {vf : VFn} {cs : List CV} {X : List CV → List CV → Prop} (hT : T f = some vf) (h : Run G (lim G T prim) vf.body (params 0 cs) [] (QE vf.sig.own vf.sig.modes vf.res X)) : ∃ rs os, lim G T prim f cs = some (rs, os) ∧ X rs os := by
  obtain ⟨n, x, e1, x', e2, h1, h2, h3⟩ := h
  simp only [cont, Option.some.injEq, Prod.mk.injEq] at h2
  obtain ⟨rfl, rfl⟩ := h2
  cases x with
  | normal =>
    obtain ⟨rs, os, h3, h4⟩ := h3
    refine ⟨rs, os, lim_fn (n := n) hT ?_, h4⟩
    unfold vfn
    rw [h1]
    exact h3
  | ret =>
    obtain ⟨rs, os, h3, h4⟩ := h3
    refine ⟨rs, os, lim_fn (n := n) hT ?_, h4⟩
    unfold vfn
    rw [h1]
    exact h3
  | exit id => exact h3.elim
theorem lim_run {f : FuncId} {vf : VFn} {cs : List CV} {r : List CV × List CV} (hT : T f = some vf) (h : Run G (lim G T prim) vf.body (params 0 cs) [] (QF vf.sig.own vf.sig.modes vf.res r)) : lim G T prim f cs = some r := by
  obtain ⟨n, x, e1, x', e2, h1, h2, h3⟩ := h
  simp only [cont, Option.some.injEq, Prod.mk.injEq] at h2
  obtain ⟨rfl, rfl⟩ := h2
  refine lim_fn (n := n) hT ?_
  unfold vfn
  rw [h1]
  cases x with
  | normal => exact h3
  | ret => exact h3
  | exit id => exact h3.elim

end Go.VS
