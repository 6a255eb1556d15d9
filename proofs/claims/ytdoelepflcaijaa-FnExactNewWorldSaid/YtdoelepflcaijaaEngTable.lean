/- Tables of functions: turned ones, and ones known by a contract. -/
import Derived.Test.YtdoelepflcaijaaEngEv
namespace Go.VS
open Go Go.RowKit
set_option linter.unusedSimpArgs false
set_option linter.unusedVariables false

structure Entry (P : Program) where
  f : FuncId
  vf : VFn
  fn : Func
  hf : P.funcs[f]? = some fn
  hc : compFn P vf.sig vf.body fn = some vf
structure PEntry (P : Program) (X : World → Prop) where
  f : FuncId
  sig : Sig
  run : List CV → Option (List CV × List CV)
  ok : ∀ W, X W → ∀ cs res outs, run cs = some (res, outs) → Answers P W f cs res outs ∧ (sig.own = true → res.all CV.free = true ∧ outs.all CV.free = true)
variable {P : Program} {X : World → Prop}
def tabT : List (Entry P) → FuncId → Option VFn
  | [], _ => none
  | e :: es, f => if e.f = f then some e.vf else tabT es f
def tabS : List (PEntry P X) → FuncId → Option Sig
  | [], _ => none
  | e :: es, f => if e.f = f then some e.sig else tabS es f
def tabP : List (PEntry P X) → Fns
  | [], _, _ => none
  | e :: es, f, cs => if e.f = f then e.run cs else tabP es f cs
def tabG (es : List (Entry P)) (ps : List (PEntry P X)) : Sigs := fun f => match tabT es f with
  | some vf => some vf.sig
  | none => tabS ps f
theorem tabT_ok (es : List (Entry P)) (ps : List (PEntry P X)) : ∀ f vf, tabT es f = some vf → Comp P f vf ∧ tabG es ps f = some vf.sig := by
  intro f vf h
  refine ⟨?_, by unfold tabG; rw [h]⟩
  induction es with
  | nil => cases h
  | cons e es ih =>
    simp only [tabT] at h
    split at h
    · rename_i he
      subst he
      obtain rfl := Option.some.inj h
      exact (compFn_comp e.hf e.hc).1
    · exact ih h
theorem tabP_ok {W : World} (hX : X W) (es : List (Entry P)) (ps : List (PEntry P X)) : ∀ f g cs res outs, tabT es f = none → tabG es ps f = some g → tabP ps f cs = some (res, outs) → Answers P W f cs res outs ∧ (g.own = true → res.all CV.free = true ∧ outs.all CV.free = true) := by
  intro f g cs res outs h1 h2 h3
  unfold tabG at h2
  rw [h1] at h2
  induction ps with
  | nil => cases h3
  | cons e ps ih =>
    simp only [tabS] at h2
    simp only [tabP] at h3
    split at h3
    · rename_i he
      rw [if_pos he] at h2
      obtain rfl := Option.some.inj h2
      subst he
      exact e.ok W hX cs res outs h3
    · rename_i he
      rw [if_neg he] at h2
      exact ih h2 h3

/-- A law that answers true, at its start. -/
theorem law_true {f : FuncId} {cs outs : List CV} {W : World} (h : Answers P W f cs [.leaf (.bool true)] outs) {us : Array Value} (hu : us.size = cs.length)
    (hr : ∀ (j : Nat) c, cs[j]? = some c → ∀ arg, RepC arg W (fun b => b < W.heap.size) c (us.getD j undef) (fun _ => False)) : Calls P f us W (fun e W' => e = .returned (.bool true) ∧ Below W.heap.size W W') := by
  refine h W (fun b => b < W.heap.size) (fun _ _ => False) us _ (Below.refl _ _) (fun _ h => h) (fun _ h => h) hu (fun _ _ h => h.elim) (fun _ _ _ h => h.elim) hr fun v w' I' R A' ha => ⟨?_, ha.bel⟩
  have hv := ha.res (fun _ => undef)
  replace hv : RepC (fun _ => undef) w' I' (.leaf (.bool true)) v R := hv
  have := hv.2
  generalize v = u at this
  cases this
  rfl

end Go.VS
