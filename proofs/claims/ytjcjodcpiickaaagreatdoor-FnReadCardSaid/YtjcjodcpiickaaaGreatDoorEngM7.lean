/- Tables of functions: turned ones, and ones known by a contract. -/
import Derived.Test.YtjcjodcpiickaaaGreatDoorEngM6
import Derived.DataElems
import Derived.DataReads
import Derived.ChangeReads
import Derived.ChangeOld
import Derived.ShutString
import Derived.HandedShaped
import Derived.SizedLaws
import Derived.OpenShut
import Derived.Lib.ItoaNum
import Derived.Lib.AtoiTie
import Derived.Lib.AtoiAllCases
import Derived.Lib.Index
import Derived.Lib.IndexMore
import Derived.Lib.IndexAny
namespace Go.VS
open Go Go.RowKit
set_option linter.unusedSimpArgs false
set_option linter.unusedVariables false

structure Entry (P : Program) where
  f : FuncId
  vf : VFn
  fn : Func
  hf : P.funcs[f]? = some fn
  hc : compFn P vf.sig vf.body fn = some vf
structure PEntry (P : Program) (X : World → Prop) where
  f : FuncId
  sig : Sig
  run : List CV → Option (List CV × List CV)
  cal : callB P f = true
  ok : ∀ W, X W → ∀ cs res outs, run cs = some (res, outs) → Answers P W f cs res outs ∧ (sig.own = true → res.all CV.free = true ∧ outs.all CV.free = true)
variable {P : Program} {X : World → Prop}
def tabT : List (Entry P) → FuncId → Option VFn
  | [], _ => none
  | e :: es, f => if e.f = f then some e.vf else tabT es f
def tabS : List (PEntry P X) → FuncId → Option Sig
  | [], _ => none
  | e :: es, f => if e.f = f then some e.sig else tabS es f
def tabP : List (PEntry P X) → Fns
  | [], _, _ => none
  | e :: es, f, cs => if e.f = f then e.run cs else tabP es f cs
def tabG (es : List (Entry P)) (ps : List (PEntry P X)) : Sigs := fun f => match tabT es f with
  | some vf => some vf.sig
  | none => tabS ps f
theorem tabT_ok (es : List (Entry P)) (ps : List (PEntry P X)) : ∀ f vf, tabT es f = some vf → Comp P f vf ∧ tabG es ps f = some vf.sig := by
  intro f vf h
  refine ⟨?_, by unfold tabG; rw [h]⟩
  induction es with
  | nil => cases h
  | cons e es ih =>
    simp only [tabT] at h
    split at h
    · rename_i he
      subst he
      obtain rfl := Option.some.inj h
      exact (compFn_comp e.hf e.hc).1
    · exact ih h
theorem tabP_ok {W : World} (hX : X W) (es : List (Entry P)) (ps : List (PEntry P X)) : ∀ f g cs res outs, tabT es f = none → tabG es ps f = some g → tabP ps f cs = some (res, outs) → Answers P W f cs res outs ∧ (g.own = true → res.all CV.free = true ∧ outs.all CV.free = true) ∧ Callable P f := by
  intro f g cs res outs h1 h2 h3
  unfold tabG at h2
  rw [h1] at h2
  induction ps with
  | nil => cases h3
  | cons e ps ih =>
    simp only [tabS] at h2
    simp only [tabP] at h3
    split at h3
    · rename_i he
      rw [if_pos he] at h2
      obtain rfl := Option.some.inj h2
      subst he
      obtain ⟨k1, k2⟩ := e.ok W hX cs res outs h3
      exact ⟨k1, k2, callB_ok e.cal⟩
    · rename_i he
      rw [if_neg he] at h2
      exact ih h2 h3

/-- A law that answers true, at its start. -/
theorem law_true {f : FuncId} {cs outs : List CV} {W : World} (h : Answers P W f cs [.leaf (.bool true)] outs) {us : Array Value} (hu : us.size = cs.length)
    (hr : ∀ (j : Nat) c, cs[j]? = some c → ∀ arg, RepC arg W (fun b => b < W.heap.size) c (us.getD j undef) (fun _ => False)) : Calls P f us W (fun e W' => e = .returned (.bool true) ∧ Below W.heap.size W W') := by
  refine h W (fun b => b < W.heap.size) (fun _ _ => False) us _ (Below.refl _ _) (fun _ h => h) (fun _ h => h) hu (fun _ _ h => h.elim) (fun _ _ _ h => h.elim) hr fun v w' I' R A' ha => ⟨?_, ha.bel⟩
  have hv := ha.res (fun _ => undef)
  replace hv : RepC (fun _ => undef) w' I' (.leaf (.bool true)) v R := hv
  have := hv.2
  generalize v = u at this
  cases this
  rfl

end Go.VS

/- Functions known by a contract: what such a contract says to the evaluator. -/
namespace Go.VS
open Go Go.RowKit
set_option linter.unusedVariables false
set_option linter.unusedSimpArgs false

/-- The value of a scalar. -/
def scal : CV → Option Value
  | .leaf (.int k n) => some (.int k n)
  | .leaf (.str s) => some (.string s)
  | .leaf (.bool b) => some (.bool b)
  | _ => none
theorem scal_rep {arg : Tmp → Value} {w : World} {I S : Nat → Prop} {c : CV} {v u : Value} (h : scal c = some v) (hr : RepC arg w I c u S) : u = v := by
  unfold scal at h
  split at h <;> first | cases h | skip
  all_goals
    have := hr.2
    generalize u = u' at this ⊢
    cases this
    first | rfl | (injection h)
theorem rep_scal {arg : Tmp → Value} {w : World} {I S : Nat → Prop} {c : CV} {v : Value} (h : scal c = some v) : RepC arg w I c v S := by
  unfold scal at h
  split at h <;> first | cases h | skip
  · exact ⟨rfl, .int ..⟩
  · exact ⟨rfl, .str ..⟩
  · exact ⟨rfl, .bool ..⟩
def scals : List CV → Option (List Value)
  | [] => some []
  | c :: cs => match scal c, scals cs with
    | some v, some vs => some (v :: vs)
    | _, _ => none
theorem scals_get : ∀ {cs : List CV} {vs : List Value}, scals cs = some vs → cs.length = vs.length ∧ ∀ (j : Nat) c, cs[j]? = some c → ∃ v, vs[j]? = some v ∧ scal c = some v
  | [], vs, h => by simp [scals] at h; subst h; exact ⟨rfl, fun j c h => by simp at h⟩
  | c :: cs, vs, h => by
    simp only [scals] at h
    split at h
    · rename_i v vs' h1 h2
      obtain rfl := Option.some.inj h
      obtain ⟨k1, k2⟩ := scals_get h2
      refine ⟨by simp [k1], fun j c' hj => ?_⟩
      cases j with
      | zero => simp at hj; subst hj; exact ⟨v, rfl, h1⟩
      | succ j => simp at hj; simpa using k2 j c' hj
    · cases h
/-- The value of results. -/
def resV (vs : List Value) : Value := match vs with
  | [v] => v
  | vs => .tuple vs.toArray
theorem rep_res {arg : Tmp → Value} {w : World} {I S : Nat → Prop} {cs : List CV} {vs : List Value} (h : scals cs = some vs) : RepR arg w I cs (resV vs) S := by
  obtain ⟨k1, k2⟩ := scals_get h
  have hT : RepT arg w I cs (.tuple vs.toArray) S := by
    refine ⟨vs.toArray, rfl, by simp [k1], fun _ _ => False, fun _ _ h => h.elim, fun _ _ _ h => h.elim, fun j c hj => ?_⟩
    obtain ⟨v, v1, v2⟩ := k2 j c hj
    exact ⟨v, by simpa using v1, rep_scal v2⟩
  match cs, vs, k1, hT, k2 with
  | [], [], _, hT, _ => exact hT
  | [c], [v], _, _, k2 =>
    obtain ⟨v', e, h2⟩ := k2 0 c rfl
    obtain rfl := Option.some.inj e
    exact rep_scal h2
  | _ :: _ :: _, _ :: _ :: _, _, hT, _ => exact hT

/-- A contract on scalars. -/
theorem answers_scal {P : Program} {W : World} {f : FuncId} {cs res : List CV} {vs rs : List Value} (hc : scals cs = some vs) (hr : scals res = some rs)
    (h : ∀ w, Below W.heap.size W w → Calls P f vs.toArray w fun e w' => e = .returned (resV rs) ∧ Below w.heap.size w w') : Answers P W f cs res (cs.map fun _ => .gone) := by
  intro w I A us Q hbel hold hilt hlen hA hAd hrep hQ
  obtain ⟨k1, k2⟩ := scals_get hc
  have hus : us = vs.toArray := by
    refine Array.ext (by rw [hlen, k1]; simp) fun i h1 h2 => ?_
    have hi : i < cs.length := by rw [← hlen]; exact h1
    obtain ⟨v, v1, v2⟩ := k2 i _ (List.getElem?_eq_getElem hi)
    have := scal_rep v2 (hrep i _ (List.getElem?_eq_getElem hi) (fun _ => undef))
    simp only [Array.getD, h1, dif_pos] at this
    rw [show us[i] = v from this]
    simp only [List.getElem_toArray]
    have hv := (List.getElem?_eq_some_iff.1 v1).2
    exact hv.symm
  subst hus
  refine (h w hbel).mono fun e w' ⟨he, hb⟩ => ?_
  subst he
  refine hQ (resV rs) w' I (fun _ => False) (fun _ _ => False) ⟨hbel.trans ⟨hb.os, hb.tape, hb.output, hb.size, fun k hk => hb.block k (Nat.lt_of_lt_of_le hk hbel.size)⟩, fun _ h => h, fun b hI => Nat.lt_of_lt_of_le (hilt b hI) hb.size, hb.size, fun b hlt _ => hb.block b hlt, fun b hh => ?_, fun _ h => h.elim, fun _ _ h => h.elim, fun _ _ _ h => h.elim, fun arg => rep_res hr, fun j c hj arg => ?_⟩
  · rcases hh with hh | ⟨_, hh⟩ | hh
    · exact hh.elim
    · exact hh.elim
    · exact .inr (.inl hh)
  · rw [List.getElem?_map] at hj
    cases hcj : cs[j]? with
    | none => rw [hcj] at hj; cases hj
    | some c0 => rw [hcj] at hj; obtain rfl := Option.some.inj hj; trivial
/-- The other way round: an answer on scalars as a contract. -/
theorem calls_scal {P : Program} {w : World} {f : FuncId} {cs res outs : List CV} {vs rs : List Value} (h : Answers P w f cs res outs) (hc : scals cs = some vs) (hr : scals res = some rs) : Calls P f vs.toArray w fun e w' => e = .returned (resV rs) ∧ Below w.heap.size w w' := by
  obtain ⟨k1, k2⟩ := scals_get hc
  obtain ⟨r1, r2⟩ := scals_get hr
  refine h w (fun b => b < w.heap.size) (fun _ _ => False) vs.toArray _ (Below.refl _ _) (fun _ h => h) (fun _ h => h) (by simp [k1]) (fun _ _ h => h.elim) (fun _ _ _ h => h.elim) (fun j c hj arg => ?_) fun v w' I' R A' ha => ⟨?_, ha.bel⟩
  · obtain ⟨v, v1, v2⟩ := k2 j c hj
    have : vs.toArray.getD j undef = v := by
      have hj' := (List.getElem?_eq_some_iff.1 v1).1
      simp only [Array.getD, List.size_toArray, hj', dif_pos, List.getElem_toArray]
      exact (List.getElem?_eq_some_iff.1 v1).2
    rw [this]
    exact rep_scal v2
  · have hv := ha.res (fun _ => undef)
    match res, rs, r1, r2, hv with
    | [], [], _, _, hv =>
      obtain ⟨us, rfl, hl, _⟩ := hv
      have : us = #[] := by cases us; simp_all
      rw [this]; rfl
    | [c], [v0], _, r2, hv =>
      obtain ⟨v', e, h2⟩ := r2 0 c rfl
      obtain rfl := Option.some.inj e
      rw [scal_rep h2 hv]; rfl
    | c1 :: c2 :: cs', v1 :: v2 :: vs', r1, r2, hv =>
      obtain ⟨us, rfl, hl, D, _, _, hD⟩ := hv
      have : us = (v1 :: v2 :: vs').toArray := by
        refine Array.ext (by rw [hl, r1]; simp) fun i h1 h2 => ?_
        have hi : i < (c1 :: c2 :: cs').length := by rw [← hl]; exact h1
        obtain ⟨u, u1, u2⟩ := hD i _ (List.getElem?_eq_getElem hi)
        obtain ⟨v, e1, e2⟩ := r2 i _ (List.getElem?_eq_getElem hi)
        have := scal_rep e2 u2
        subst this
        rw [Array.getElem?_eq_getElem h1] at u1
        rw [Option.some.inj u1]
        simp only [List.getElem_toArray]
        exact (List.getElem?_eq_some_iff.1 e1).2.symm
      rw [this]; rfl
end Go.VS

/- What a row's argument reads as: leaves, immutable. No program in sight. -/
namespace Go.VS
open Go Go.RowKit
set_option linter.unusedSimpArgs false
set_option linter.unusedVariables false

abbrev Old (w : World) : Nat → Prop := fun b => b < w.heap.size
abbrev Nobody : Nat → Prop := fun _ => False

/-- Every value of type t that can be read is a row of leaves 'enc a', sz cells wide, and G holds of a. -/
def OpensE (P : Program) {α : Type} (t : TypeId) (enc : α → List L) (sz : Nat) (G : α → Prop) : Prop :=
  ∀ {H : Type} (e : TypeId × Value → H) (w : World) (base : Nat) (spare : Nat → Bool) (held : Bool) (fuel : Nat) (cs : List Value) (x : DataW H × List MemPlace),
    DataW.trod e P w base spare held fuel t cs = some x → (∀ n ∈ x.1.weights P t, n ≤ reachBytes) → ∃ a, cs.length = sz ∧ RepRow w (Old w) (enc a) (fun j => cs[j]?) Nobody ∧ G a

theorem row_one {w : World} {I : Nat → Prop} {l : L} {v : Value} (h1 : v.oneCell' = true) (h : RepL w I l v Nobody) : RepRow w I [l] (fun j => [v][j]?) Nobody := by
  refine ⟨fun _ _ => False, fun _ _ h => h, fun _ _ _ h => h.elim, fun j l' hl => ?_⟩
  cases j with
  | zero => simp at hl; subst hl; exact ⟨v, rfl, h1, h⟩
  | succ j => simp at hl

theorem opensE_int {P : Program} {t : TypeId} {k : IntKind} (ht : P.underlying t = some (.int k)) : OpensE P t (fun n : Int => [L.int k n]) 1 (fun n => (Lit.int k n).wf = true) := by
  intro H enc w base spare held fuel cs x h _
  cases fuel with
  | zero => simp [DataW.trod] at h
  | succ fuel =>
    rw [DataW.trod_step] at h
    unfold DataW.trodStep at h
    rw [ht] at h
    split at h <;> rename_i h1 <;> try (cases h1)
    · rename_i n _
      split at h
      · rename_i hk
        obtain ⟨rfl, hw⟩ := hk
        exact ⟨_, rfl, row_one rfl (.int ..), hw⟩
      · cases h
    all_goals first | cases h | simp_all
theorem opensE_bool {P : Program} {t : TypeId} (ht : P.underlying t = some .bool) : OpensE P t (fun b : Bool => [L.bool b]) 1 (fun _ => True) := by
  intro H enc w base spare held fuel cs x h _
  cases fuel with
  | zero => simp [DataW.trod] at h
  | succ fuel =>
    rw [DataW.trod_step] at h
    unfold DataW.trodStep at h
    rw [ht] at h
    split at h <;> rename_i h1 <;> try (cases h1)
    · exact ⟨_, rfl, row_one rfl (.bool ..), trivial⟩
    all_goals first | cases h | simp_all
theorem opensE_string {P : Program} {t : TypeId} (ht : P.underlying t = some .string) : OpensE P t (fun s : ByteArray => [L.str s]) 1 (fun s => s.size ≤ 140737488351232) := by
  intro H enc w base spare held fuel cs x h hw
  cases fuel with
  | zero => simp [DataW.trod] at h
  | succ fuel =>
    rw [DataW.trod_step] at h
    unfold DataW.trodStep at h
    rw [ht] at h
    split at h <;> rename_i h1 <;> try (cases h1)
    · split at h
      · obtain rfl := Option.some.inj h
        refine ⟨_, rfl, row_one rfl (.str ..), ?_⟩
        simp [DataW.weights] at hw
        exact hw
      · cases h
    all_goals first | cases h | simp_all

theorem mem_weightsAllE {H : Type} {P : Program} {e : TypeId} : ∀ {l : List (DataW H)} {d : DataW H} {n : Nat}, d ∈ l → n ∈ d.weights P e → n ∈ DataW.weightsAll P e l
  | [], _, _, h, _ => by cases h
  | _ :: l, d, n, h, hn => by
    simp only [DataW.weightsAll, List.mem_append]
    rcases List.mem_cons.1 h with rfl | h
    · exact .inl hn
    · exact .inr (mem_weightsAllE h hn)

theorem opensE_slice {P : Program} {α : Type} {t e : TypeId} {enc : α → List L} {sz : Nat} {G : α → Prop} (ht : P.underlying t = some (.slice e)) (hd : OpensE P e enc sz G) (hlen : ∀ a, (enc a).length = sz) (hpos : 0 < sz) (hsz : P.cellsOf e = sz) {B : Nat} (hB : P.bytesOf e = B) :
    OpensE P t (fun xs : List α => [L.sl false sz (xs.map enc)]) 1 (fun xs => (∀ x ∈ xs, G x) ∧ xs.length * B ≤ 140737488351232) := by
  intro H encH w base spare held fuel cs x h hw
  cases fuel with
  | zero => simp [DataW.trod] at h
  | succ fuel =>
    rw [DataW.trod_step] at h
    unfold DataW.trodStep at h
    rw [ht] at h
    split at h <;> rename_i h1 <;> try (cases h1)
    · exact ⟨[], rfl, row_one rfl (.nil _ _ _ _ _ (fun h => by cases h)), (fun _ hx => by cases hx), (by simp)⟩
    · rename_i ad len cap
      simp only at h
      split at h
      · rename_i hb
        obtain ⟨hb1, hb2, hb3⟩ := hb
        simp only [Option.bind_eq_some_iff, Option.map_eq_some_iff] at h
        obtain ⟨elems, he, rest, _, rfl⟩ := h
        have hlen' : elems.length = len := by rw [mapM_some_length he, List.length_range]
        have hcap : len ≤ cap := hb2
        have one : ∀ j (y : DataW H × List MemPlace), elems[j]? = some y → ∃ cs', w.cells? base (ad.add (j * P.cellsOf e)) (P.cellsOf e) = some cs' ∧ DataW.trod encH P w base spare held fuel e cs' = some y := by
          intro j y hy
          have hj : j < len := by have := (List.getElem?_eq_some_iff.1 hy).1; omega
          have := mapM_some_get he j j (by simp [hj])
          rw [hy] at this
          simpa [Option.bind_eq_some_iff] using this
        have hwt : ∀ y ∈ elems, ∀ n ∈ y.1.weights P e, n ≤ reachBytes := by
          intro y hy n hn
          refine hw n ?_
          simp only [DataW.weights, ht, List.mem_cons, List.mem_append]
          exact .inr (.inl (mem_weightsAllE (List.mem_map_of_mem hy) hn))
        have hex : ∀ j, j < len → ∃ a, (∃ cs', w.cells? base (ad.add (j * sz)) sz = some cs' ∧ RepRow w (Old w) (enc a) (fun j => cs'[j]?) Nobody) ∧ G a := by
          intro j hj
          have hje : j < elems.length := by omega
          obtain ⟨cs', hc, ht'⟩ := one j elems[j] (List.getElem?_eq_getElem hje)
          obtain ⟨a, ha, hr, hg⟩ := hd encH w base spare held fuel cs' _ ht' (hwt _ (List.getElem_mem _))
          rw [hsz] at hc
          exact ⟨a, ⟨cs', hc, hr⟩, hg⟩
        have hlist : ∀ m, m ≤ len → ∃ xs : List α, xs.length = m ∧ (∀ j a, xs[j]? = some a → ∃ cs', w.cells? base (ad.add (j * sz)) sz = some cs' ∧ RepRow w (Old w) (enc a) (fun j => cs'[j]?) Nobody) ∧ ∀ a ∈ xs, G a := by
          intro m
          induction m with
          | zero => intro _; exact ⟨[], rfl, fun j a hj => by simp at hj, fun a ha => by cases ha⟩
          | succ m ih =>
            intro hm
            obtain ⟨xs, hl, hx, hg⟩ := ih (by omega)
            obtain ⟨a, ha, hga⟩ := hex m (by omega)
            refine ⟨xs ++ [a], by simp [hl], fun j b hj => ?_, fun b hb => ?_⟩
            · rcases Nat.lt_or_ge j xs.length with hlt | hge
              · rw [List.getElem?_append_left hlt] at hj
                exact hx j b hj
              · have hjm : j = m := by
                  have := (List.getElem?_eq_some_iff.1 hj).1
                  simp at this
                  omega
                subst hjm
                rw [List.getElem?_append_right hge, hl, Nat.sub_self] at hj
                obtain rfl := Option.some.inj hj
                exact ha
            · rcases List.mem_append.1 hb with hb | hb
              · exact hg b hb
              · rw [List.mem_singleton.1 hb]; exact hga
        obtain ⟨xs, hl, hx, hg⟩ := hlist len (Nat.le_refl _)
        subst hl
        have hbytes : xs.length * B ≤ 140737488351232 := by
          have := hw ((elems.length + rest.length) * P.bytesOf e) (by simp [DataW.weights, ht])
          rw [hB] at this
          exact Nat.le_trans (Nat.mul_le_mul_right B (show xs.length ≤ elems.length + rest.length by omega)) this
        refine ⟨xs, rfl, row_one rfl ?_, hg, hbytes⟩
        cases hxs : xs with
        | nil => exact .nil _ _ _ _ _ (fun h => by cases h)
        | cons x0 xs0 =>
          rw [← hxs]
          -- a cell of the row
          have hcellj : ∀ i j, i < xs.length → j < sz → ∃ v a l, xs[i]? = some a ∧ (enc a)[j]? = some l ∧ w.cell? (ad.add (i * sz + j)) = some v ∧ v.oneCell' = true ∧ RepL w (Old w) l v Nobody := by
            intro i j hi hj
            obtain ⟨cs', hc, hr⟩ := hx i xs[i] (List.getElem?_eq_getElem hi)
            obtain ⟨_, hcl, hcc⟩ := World.cells?_some hc
            obtain ⟨D, d1, d2, d3⟩ := hr
            have hjl : j < (enc xs[i]).length := by rw [hlen]; exact hj
            obtain ⟨v, v1, v2, v3⟩ := d3 j _ (List.getElem?_eq_getElem hjl)
            refine ⟨v, xs[i], _, List.getElem?_eq_getElem hi, List.getElem?_eq_getElem hjl, ?_, v2, v3.mono (fun _ h => h) fun x hx => d1 j x hx⟩
            have := hcc j hj
            rw [Addr.add_add] at this
            rw [this]; exact v1
          obtain ⟨b, o, spot⟩ := ad
          have hb0 := hcellj 0 0 (by rw [hxs]; simp) hpos
          obtain ⟨v0, _, _, _, _, hv0, _⟩ := hb0
          have hspot : spot = none := by
            cases spot with
            | none => rfl
            | some q =>
              simp only [World.cell?, Addr.add] at hv0
              split at hv0 <;> simp at hv0
          subst hspot
          have hadd : ∀ n, (⟨b, o, none⟩ : Addr).add n = ⟨b, o + n, none⟩ := fun n => add_at b o n
          have hblt : b < w.heap.size := by
            rw [hadd] at hv0
            simp only [World.cell?] at hv0
            split at hv0
            · rename_i hh; exact (Array.getElem?_eq_some_iff.1 hh).1
            · cases hv0
          have hl2 : xs.length = (xs.map enc).length := by simp
          rw [hl2]
          refine .imm sz (xs.map enc) _ b o cap (fun i j => (w.cell? ⟨b, o + (i * sz + j), none⟩).getD undef) hblt (fun i r hr => ?_) (fun i j hi hj => ?_) (fun i j r l hr hl => ?_) (by simpa using hcap)
          · rw [List.getElem?_map, Option.map_eq_some_iff] at hr
            obtain ⟨a, _, rfl⟩ := hr
            exact hlen a
          · obtain ⟨v, a, l, k1, k2, k3, k4, k5⟩ := hcellj i j (by simpa using hi) hj
            rw [hadd] at k3
            rw [k3]
            exact ⟨rfl, k4⟩
          · rw [List.getElem?_map, Option.map_eq_some_iff] at hr
            obtain ⟨a, ha, rfl⟩ := hr
            have hi : i < xs.length := (List.getElem?_eq_some_iff.1 ha).1
            have hj : j < sz := by rw [← hlen a]; exact (List.getElem?_eq_some_iff.1 hl).1
            obtain ⟨v, a', l', k1, k2, k3, k4, k5⟩ := hcellj i j hi hj
            rw [ha] at k1
            obtain rfl := Option.some.inj k1
            rw [hl] at k2
            obtain rfl := Option.some.inj k2
            rw [hadd] at k3
            rw [k3]
            exact k5
      · cases h
    all_goals first | cases h | simp_all

theorem row_append {w : World} {I : Nat → Prop} {l1 l2 : List L} {g1 g2 : Nat → Option Value} {get : Nat → Option Value} (h1 : RepRow w I l1 g1 Nobody) (h2 : RepRow w I l2 g2 Nobody) (e1 : ∀ j, j < l1.length → get j = g1 j) (e2 : ∀ j, j < l2.length → get (l1.length + j) = g2 j) : RepRow w I (l1 ++ l2) get Nobody := by
  obtain ⟨D1, a1, a2, a3⟩ := h1
  obtain ⟨D2, b1, b2, b3⟩ := h2
  refine ⟨fun _ _ => False, fun _ _ h => h, fun _ _ _ h => h.elim, fun j l hl => ?_⟩
  rcases Nat.lt_or_ge j l1.length with hlt | hge
  · rw [List.getElem?_append_left hlt] at hl
    obtain ⟨v, v1, v2, v3⟩ := a3 j l hl
    exact ⟨v, by rw [e1 j hlt]; exact v1, v2, v3.mono (fun _ h => h) fun x hx => a1 j x hx⟩
  · rw [List.getElem?_append_right hge] at hl
    have hj2 : j - l1.length < l2.length := (List.getElem?_eq_some_iff.1 hl).1
    obtain ⟨v, v1, v2, v3⟩ := b3 _ l hl
    refine ⟨v, ?_, v2, v3.mono (fun _ h => h) fun x hx => b1 _ x hx⟩
    have := e2 (j - l1.length) hj2
    rw [show l1.length + (j - l1.length) = j by omega] at this
    rw [this]; exact v1

/-- The fields of a struct, from a place on. -/
def OpensFE (P : Program) {α : Type} (fs : List Field) (off : Nat) (enc : α → List L) (sz : Nat) (G : α → Prop) : Prop :=
  ∀ {H : Type} (e : TypeId × Value → H) (w : World) (base : Nat) (spare : Nat → Bool) (held : Bool) (fuel : Nat) (cs : List Value) (ys : List (DataW H × List MemPlace)),
    fs.mapM (fun f => DataW.trod e P w base spare held fuel f.type ((cs.drop f.offset).take (P.cellsOf f.type))) = some ys → (∀ n ∈ DataW.weightsEach P (fs.map (·.type)) (ys.map (·.1)), n ≤ reachBytes) → off + sz ≤ cs.length →
      ∃ a, RepRow w (Old w) (enc a) (fun j => cs[off + j]?) Nobody ∧ G a
theorem row_shift {w : World} {I : Nat → Prop} {l : List L} {cs : List Value} {off sz : Nat} (hl : l.length = sz) (h : RepRow w I l (fun j => ((cs.drop off).take sz)[j]?) Nobody) : RepRow w I l (fun j => cs[off + j]?) Nobody := by
  refine h.world (fun j hj => ?_) (fun _ _ => rfl)
  simp only [List.getElem?_take, List.getElem?_drop]
  rw [if_pos (by omega)]
theorem opensFE_last {P : Program} {α : Type} {f : Field} {off sz : Nat} {enc : α → List L} {G : α → Prop} (ho : f.offset = off) (hsz : P.cellsOf f.type = sz) (hlen : ∀ a, (enc a).length = sz) (hd : OpensE P f.type enc sz G) : OpensFE P [f] off enc sz G := by
  intro H e w base spare held fuel cs ys h hw hl
  simp only [List.mapM_cons, List.mapM_nil, Option.bind_eq_bind, Option.bind_eq_some_iff, Option.pure_def, Option.some.injEq] at h
  obtain ⟨y, hy, _, rfl, rfl⟩ := h
  rw [ho, hsz] at hy
  obtain ⟨a, h1, h2, h3⟩ := hd e w base spare held fuel _ y hy (fun n hn => hw n (by
    simp only [List.map_cons, List.map_nil, DataW.weightsEach, List.mem_append]
    exact .inl hn))
  exact ⟨a, row_shift (hlen a) h2, h3⟩
theorem opensFE_cons {P : Program} {α β : Type} {f : Field} {fs : List Field} {off sz sz2 : Nat} {enc : α → List L} {enc2 : β → List L} {G : α → Prop} {K : β → Prop} (ho : f.offset = off) (hsz : P.cellsOf f.type = sz) (hlen : ∀ a, (enc a).length = sz) (hd : OpensE P f.type enc sz G) (he : OpensFE P fs (off + sz) enc2 sz2 K) :
    OpensFE P (f :: fs) off (fun x : α × β => enc x.1 ++ enc2 x.2) (sz + sz2) (fun x => G x.1 ∧ K x.2) := by
  intro H e w base spare held fuel cs ys h hw hl
  simp only [List.mapM_cons, Option.bind_eq_bind, Option.bind_eq_some_iff, Option.pure_def, Option.some.injEq] at h
  obtain ⟨y, hy, zs, hz, rfl⟩ := h
  rw [ho, hsz] at hy
  obtain ⟨a, _, ha, hga⟩ := hd e w base spare held fuel _ y hy (fun n hn => hw n (by
    simp only [List.map_cons, DataW.weightsEach, List.mem_append]
    exact .inl hn))
  obtain ⟨b, hb, hgb⟩ := he e w base spare held fuel cs zs hz (fun n hn => hw n (by
    simp only [List.map_cons, DataW.weightsEach, List.mem_append]
    exact .inr hn)) (by omega)
  refine ⟨(a, b), row_append (row_shift (hlen a) ha) hb (fun j _ => rfl) (fun j _ => ?_), hga, hgb⟩
  show cs[off + ((enc a).length + j)]? = cs[off + sz + j]?
  rw [hlen a, Nat.add_assoc]
theorem opensE_struct {P : Program} {α β : Type} {t : TypeId} {fs : Array Field} {enc : α → List L} {sz : Nat} {G : α → Prop} {enc2 : β → List L} {G2 : β → Prop} (g : α → β) (henc : ∀ a, enc2 (g a) = enc a) (hG : ∀ a, G a → G2 (g a)) (ht : P.underlying t = some (.struct fs)) (hsz : P.cellsOf t = sz) (hd : OpensFE P fs.toList 0 enc sz G) :
    OpensE P t enc2 sz G2 := by
  intro H e w base spare held fuel cs x h hw
  cases fuel with
  | zero => simp [DataW.trod] at h
  | succ fuel =>
    rw [DataW.trod_step] at h
    unfold DataW.trodStep at h
    rw [ht] at h
    split at h <;> rename_i h1 <;> try (cases h1)
    · split at h
      · rename_i hl
        simp only [Option.map_eq_some_iff] at h
        obtain ⟨xs, hx, rfl⟩ := h
        obtain ⟨a, ha, hga⟩ := hd e w base spare held fuel _ xs hx (fun n hn => hw n (by
          simp only [DataW.weights, ht]
          exact hn)) (by omega)
        refine ⟨g a, by omega, ?_, hG a hga⟩
        rw [henc]
        simpa using ha
      · cases h
    all_goals first | cases h | simp_all

/-- A row's argument, opened. -/
theorem openedE {H : Type} {enc : TypeId × Value → H} {P : Program} {W : World} {base : Nat} {spare : Nat → Bool} {held : Bool} {α : Type} {t : TypeId} {rowE : α → List L} {sz : Nat} {G : α → Prop} (hd : OpensE P t rowE sz G) {ts : List TypeId} {ds : List (DataW H)} {j : Nat} {x : DataW H} {v : Value} {ps : List MemPlace}
    (hsz : (DataW.weightsEach P ts ds).all (· ≤ reachBytes) = true) (ht : ts[j]? = some t) (hx : ds[j]? = some x) (h : DataW.Trod enc P W base spare held t v x ps) : ∃ a, v.cells.toList.length = sz ∧ RepRow W (Old W) (rowE a) (fun j => v.cells.toList[j]?) Nobody ∧ G a := by
  obtain ⟨fuel, hf⟩ := h
  refine hd enc W base spare held fuel _ (x, ps) hf (fun n hn => ?_)
  have := List.all_eq_true.1 hsz n (DataW.weights_mem_each ht hx n hn)
  simpa using this
theorem okWide_aggE {P : Program} {w : World} {r : Reach} {base : Nat} {t : TypeId} {v : Value} {fs : Array Field} (ht : P.underlying t = some (.struct fs)) (h : Value.okWide P w r base t v) : ∃ cs, v = .agg cs := by
  simp only [Value.okWide, ht] at h
  obtain ⟨cs, rfl, _⟩ := h
  exact ⟨cs, rfl⟩
/-- .. as what the evaluator is handed: a struct; a slice. -/
theorem repC_agg {W : World} {ls : List L} {v : Value} {sz : Nat} {cs : Array Value} (hv : v = .agg cs) (hl : v.cells.toList.length = sz) (hs : ls.length = sz) (h : RepRow W (Old W) ls (fun j => v.cells.toList[j]?) Nobody) (arg : Tmp → Value) : RepC arg W (Old W) (.agg ls) v Nobody := by
  subst hv
  refine ⟨cs, rfl, by rw [hs, ← hl]; simp [Value.cells], ?_⟩
  refine h.world (fun j _ => ?_) (fun _ _ => rfl)
  simp [Value.cells]
theorem repC_leaf {W : World} {l : L} {v : Value} (hv : v.oneCell' = true) (h : RepRow W (Old W) [l] (fun j => v.cells.toList[j]?) Nobody) (arg : Tmp → Value) : RepC arg W (Old W) (.leaf l) v Nobody := by
  obtain ⟨D, d1, d2, d3⟩ := h
  obtain ⟨u, u1, u2, u3⟩ := d3 0 l rfl
  have hc : v.cells = #[v] := by cases v <;> first | rfl | cases hv
  rw [hc] at u1
  obtain rfl := Option.some.inj u1
  exact ⟨u2, u3.mono (fun _ h => h) fun x hx => d1 0 x hx⟩
theorem repC_int {W : World} {k : IntKind} {n : Int} (arg : Tmp → Value) : RepC arg W (Old W) (.leaf (.int k n)) (.int k n) Nobody := ⟨rfl, .int ..⟩
theorem repC_str {W : World} {s : ByteArray} (arg : Tmp → Value) : RepC arg W (Old W) (.leaf (.str s)) (.string s) Nobody := ⟨rfl, .str ..⟩
theorem repC_bool {W : World} {b : Bool} (arg : Tmp → Value) : RepC arg W (Old W) (.leaf (.bool b)) (.bool b) Nobody := ⟨rfl, .bool ..⟩

/-- The wrap of a row that lists variables, with the world's shape handed on. -/
theorem handed_and_shaped {H : Type} {enc : TypeId × Value → H} {a : Assume} {C : Checked} {os : Os} {f : FuncId} {fn : Func} {s : ChangeSpec} {conds : List PathCond} {apart fresh handsOn again : Bool} {X : World → Array Value → Prop}
    (hX : ∀ (w w' : World) (args : Array Value), w.heap = w'.heap → X w args → X w' args)
    (own : ownKnob C.prog.godebug = none) (started : os.Started) (noInit : C.prog.inits.idxOf? f = none) (hfn : C.prog.funcs[f]? = some fn)
    (witness : ∃ (w : World) (tape : Tape) (i : Input), w.os = os ∧ (w.forCall tape i).Shaped C.prog ∧ i.vars = [] ∧ Input.okWide C.prog (w.forCall tape i) .any w.heap.size f i ∧
      ((s.pre enc C.prog fn conds apart (w.forCall tape i).memory i.args ∧ X (w.forCall tape i).memory i.args) ∧ sizedMet enc C.prog fn (OpenSpec.ofChange s) apart (w.forCall tape i).memory i.args) ∧ a.holds C.prog (lone (Frame.enter C.prog f i.args .normal) [] (w.forCall tape i)))
    (contract : ∀ (W : World) (base : Nat) (args : Array Value) (ds gs : List (DataW H)) (before : List MemPlace),
      (∀ (j : Nat) t v, fn.params[j]? = some t → args[j]? = some v → Value.okWide C.prog W .any base t v) →
      DataW.Whole enc C.prog fn.params.toList s.vars apart W args.toList ds gs before →
      conds.all (PathCond.test C.prog ⟨fn.params.toList, ds, s.plain.varTypes C.prog, gs⟩) = true →
      (DataW.weightsEach C.prog (fn.params.toList ++ s.plain.varTypes C.prog) (ds ++ gs)).all (· ≤ reachBytes) = true → X W args → W.ShapedOpen C.prog →
      a.holds C.prog (lone (Frame.enter C.prog f args .normal) [] W) →
      Calls C.prog f args W fun e W' => ∃ v, e = .returned v ∧ s.post enc C.prog fn apart fresh handsOn again W args v W') :
    ReturnsInHanded a C os f .any (fun w args => (s.pre enc C.prog fn conds apart w args ∧ X w args) ∧ sizedMet enc C.prog fn (OpenSpec.ofChange s) apart w args) (s.post enc C.prog fn apart fresh handsOn again) := by
  refine returnsInHanded_of_calls own started noInit witness ?_
  intro w tape i _ hsh _ hok hpre hholds
  obtain ⟨_, _, _, fn', hfn', _, _, _, _, hval⟩ := hok
  have e : fn' = fn := Option.some.inj (hfn'.symm.trans hfn)
  subst e
  obtain ⟨⟨⟨ds, gs, before, hw, hc⟩, hx⟩, hz⟩ := hpre
  have hw' := DataW.Whole.of_heap (w' := w.forCall tape i) (by rfl) hw
  refine (contract (w.forCall tape i) w.heap.size i.args ds gs before hval hw' hc (hz.weights hw) (hX _ _ _ (by rfl) hx) hsh hholds).mono fun e W' ⟨v, he, hp⟩ => ?_
  subst he
  exact ChangeSpec.post_blind hp
end Go.VS

/- The structs of the laws as structures, and their rows of leaves (printed by kinds.py). -/
namespace Go.VS
open Go
set_option linter.unusedSimpArgs false
set_option linter.unusedVariables false

abbrev Kints (o : Bool) (l : List Int) : L := .sl o 1 (l.map fun n : Int => [L.int .i64 n])
abbrev Kstrs (o : Bool) (l : List ByteArray) : L := .sl o 1 (l.map fun s : ByteArray => [L.str s])
theorem freezeRR_map {α : Type} {f g : α → List L} (h : ∀ x, freezeR (f x) = g x) : ∀ xs : List α, freezeRR (xs.map f) = xs.map g
  | [] => rfl
  | x :: xs => by simp only [List.map_cons, freezeRR, h, freezeRR_map h xs]
theorem freeRR_map {α : Type} {f : α → List L} (h : ∀ x, freeR (f x) = true) : ∀ xs : List α, freeRR (xs.map f) = true
  | [] => rfl
  | x :: xs => by simp only [List.map_cons, freeRR, h, freeRR_map h xs, Bool.and_self]
@[simp] theorem freezeRR_ints (l : List Int) : freezeRR (l.map fun n : Int => [L.int .i64 n]) = l.map fun n : Int => [L.int .i64 n] := freezeRR_map (fun _ => rfl) l
@[simp] theorem freezeRR_strs (l : List ByteArray) : freezeRR (l.map fun s : ByteArray => [L.str s]) = l.map fun s : ByteArray => [L.str s] := freezeRR_map (fun _ => rfl) l
@[simp] theorem freeRR_ints (l : List Int) : freeRR (l.map fun n : Int => [L.int .i64 n]) = true := freeRR_map (fun _ => rfl) l
@[simp] theorem freeRR_strs (l : List ByteArray) : freeRR (l.map fun s : ByteArray => [L.str s]) = true := freeRR_map (fun _ => rfl) l

structure KDatum where
  kind : Int
  n : Int
  s : ByteArray
  l : Int
  r : Int
  deriving DecidableEq, Inhabited
abbrev KDatum.row (o : Bool) (x : KDatum) : List L := [.int .i64 x.kind, .int .i64 x.n, .str x.s, .int .i64 x.l, .int .i64 x.r]
abbrev KDatum.sl (o : Bool) (xs : List KDatum) : L := .sl o 5 (xs.map (KDatum.row o))
theorem KDatum.freezeR (o : Bool) (x : KDatum) : VS.freezeR (KDatum.row o x) = KDatum.row false x := by cases o <;> simp [VS.freezeR, L.freeze]
@[simp] theorem KDatum.freezeRR (o : Bool) (xs : List KDatum) : freezeRR (xs.map (KDatum.row o)) = xs.map (KDatum.row false) := freezeRR_map (KDatum.freezeR o) xs
theorem KDatum.freeR (x : KDatum) : VS.freeR (KDatum.row true x) = true := by simp [VS.freeR, L.free]
@[simp] theorem KDatum.freeRR (xs : List KDatum) : freeRR (xs.map (KDatum.row true)) = true := freeRR_map KDatum.freeR xs
theorem KDatum.row_length (o : Bool) (x : KDatum) : (KDatum.row o x).length = 5 := rfl
@[simp] theorem KDatum.eta (x : KDatum) : KDatum.mk x.kind x.n x.s x.l x.r = x := rfl

structure KData where
  cells : List KDatum
  tops : List Int
  deriving DecidableEq, Inhabited
abbrev KData.row (o : Bool) (x : KData) : List L := [.sl o 5 (x.cells.map (KDatum.row o)), .sl o 1 (x.tops.map (fun n : Int => [L.int .i64 n]))]
abbrev KData.sl (o : Bool) (xs : List KData) : L := .sl o 2 (xs.map (KData.row o))
theorem KData.freezeR (o : Bool) (x : KData) : VS.freezeR (KData.row o x) = KData.row false x := by cases o <;> simp [VS.freezeR, L.freeze]
@[simp] theorem KData.freezeRR (o : Bool) (xs : List KData) : freezeRR (xs.map (KData.row o)) = xs.map (KData.row false) := freezeRR_map (KData.freezeR o) xs
theorem KData.freeR (x : KData) : VS.freeR (KData.row true x) = true := by simp [VS.freeR, L.free]
@[simp] theorem KData.freeRR (xs : List KData) : freeRR (xs.map (KData.row true)) = true := freeRR_map KData.freeR xs
theorem KData.row_length (o : Bool) (x : KData) : (KData.row o x).length = 2 := rfl
@[simp] theorem KData.eta (x : KData) : KData.mk x.cells x.tops = x := rfl

structure KNode where
  kind : Int
  n : Int
  s : ByteArray
  names : List ByteArray
  args : List Int
  deriving DecidableEq, Inhabited
abbrev KNode.row (o : Bool) (x : KNode) : List L := [.int .i64 x.kind, .int .i64 x.n, .str x.s, .sl o 1 (x.names.map (fun s : ByteArray => [L.str s])), .sl o 1 (x.args.map (fun n : Int => [L.int .i64 n]))]
abbrev KNode.sl (o : Bool) (xs : List KNode) : L := .sl o 5 (xs.map (KNode.row o))
theorem KNode.freezeR (o : Bool) (x : KNode) : VS.freezeR (KNode.row o x) = KNode.row false x := by cases o <;> simp [VS.freezeR, L.freeze]
@[simp] theorem KNode.freezeRR (o : Bool) (xs : List KNode) : freezeRR (xs.map (KNode.row o)) = xs.map (KNode.row false) := freezeRR_map (KNode.freezeR o) xs
theorem KNode.freeR (x : KNode) : VS.freeR (KNode.row true x) = true := by simp [VS.freeR, L.free]
@[simp] theorem KNode.freeRR (xs : List KNode) : freeRR (xs.map (KNode.row true)) = true := freeRR_map KNode.freeR xs
theorem KNode.row_length (o : Bool) (x : KNode) : (KNode.row o x).length = 5 := rfl
@[simp] theorem KNode.eta (x : KNode) : KNode.mk x.kind x.n x.s x.names x.args = x := rfl

structure KProg where
  nodes : List KNode
  root : Int
  deriving DecidableEq, Inhabited
abbrev KProg.row (o : Bool) (x : KProg) : List L := [.sl o 5 (x.nodes.map (KNode.row o)), .int .i64 x.root]
abbrev KProg.sl (o : Bool) (xs : List KProg) : L := .sl o 2 (xs.map (KProg.row o))
theorem KProg.freezeR (o : Bool) (x : KProg) : VS.freezeR (KProg.row o x) = KProg.row false x := by cases o <;> simp [VS.freezeR, L.freeze]
@[simp] theorem KProg.freezeRR (o : Bool) (xs : List KProg) : freezeRR (xs.map (KProg.row o)) = xs.map (KProg.row false) := freezeRR_map (KProg.freezeR o) xs
theorem KProg.freeR (x : KProg) : VS.freeR (KProg.row true x) = true := by simp [VS.freeR, L.free]
@[simp] theorem KProg.freeRR (xs : List KProg) : freeRR (xs.map (KProg.row true)) = true := freeRR_map KProg.freeR xs
theorem KProg.row_length (o : Bool) (x : KProg) : (KProg.row o x).length = 2 := rfl
@[simp] theorem KProg.eta (x : KProg) : KProg.mk x.nodes x.root = x := rfl

structure KValue where
  kind : Int
  n : Int
  s : ByteArray
  deriving DecidableEq, Inhabited
abbrev KValue.row (o : Bool) (x : KValue) : List L := [.int .i64 x.kind, .int .i64 x.n, .str x.s]
abbrev KValue.sl (o : Bool) (xs : List KValue) : L := .sl o 3 (xs.map (KValue.row o))
theorem KValue.freezeR (o : Bool) (x : KValue) : VS.freezeR (KValue.row o x) = KValue.row false x := by cases o <;> simp [VS.freezeR, L.freeze]
@[simp] theorem KValue.freezeRR (o : Bool) (xs : List KValue) : freezeRR (xs.map (KValue.row o)) = xs.map (KValue.row false) := freezeRR_map (KValue.freezeR o) xs
theorem KValue.freeR (x : KValue) : VS.freeR (KValue.row true x) = true := by simp [VS.freeR, L.free]
@[simp] theorem KValue.freeRR (xs : List KValue) : freeRR (xs.map (KValue.row true)) = true := freeRR_map KValue.freeR xs
theorem KValue.row_length (o : Bool) (x : KValue) : (KValue.row o x).length = 3 := rfl
@[simp] theorem KValue.eta (x : KValue) : KValue.mk x.kind x.n x.s = x := rfl

structure KCell where
  kind : Int
  s : ByteArray
  a : Int
  b : Int
  names : List ByteArray
  vals : List KValue
  deriving DecidableEq, Inhabited
abbrev KCell.row (o : Bool) (x : KCell) : List L := [.int .i64 x.kind, .str x.s, .int .i64 x.a, .int .i64 x.b, .sl o 1 (x.names.map (fun s : ByteArray => [L.str s])), .sl o 3 (x.vals.map (KValue.row o))]
abbrev KCell.sl (o : Bool) (xs : List KCell) : L := .sl o 6 (xs.map (KCell.row o))
theorem KCell.freezeR (o : Bool) (x : KCell) : VS.freezeR (KCell.row o x) = KCell.row false x := by cases o <;> simp [VS.freezeR, L.freeze]
@[simp] theorem KCell.freezeRR (o : Bool) (xs : List KCell) : freezeRR (xs.map (KCell.row o)) = xs.map (KCell.row false) := freezeRR_map (KCell.freezeR o) xs
theorem KCell.freeR (x : KCell) : VS.freeR (KCell.row true x) = true := by simp [VS.freeR, L.free]
@[simp] theorem KCell.freeRR (xs : List KCell) : freeRR (xs.map (KCell.row true)) = true := freeRR_map KCell.freeR xs
theorem KCell.row_length (o : Bool) (x : KCell) : (KCell.row o x).length = 6 := rfl
@[simp] theorem KCell.eta (x : KCell) : KCell.mk x.kind x.s x.a x.b x.names x.vals = x := rfl

structure KLink where
  name : ByteArray
  inst : Int
  at_ : ByteArray
  deriving DecidableEq, Inhabited
abbrev KLink.row (o : Bool) (x : KLink) : List L := [.str x.name, .int .i64 x.inst, .str x.at_]
abbrev KLink.sl (o : Bool) (xs : List KLink) : L := .sl o 3 (xs.map (KLink.row o))
theorem KLink.freezeR (o : Bool) (x : KLink) : VS.freezeR (KLink.row o x) = KLink.row false x := by cases o <;> simp [VS.freezeR, L.freeze]
@[simp] theorem KLink.freezeRR (o : Bool) (xs : List KLink) : freezeRR (xs.map (KLink.row o)) = xs.map (KLink.row false) := freezeRR_map (KLink.freezeR o) xs
theorem KLink.freeR (x : KLink) : VS.freeR (KLink.row true x) = true := by simp [VS.freeR, L.free]
@[simp] theorem KLink.freeRR (xs : List KLink) : freeRR (xs.map (KLink.row true)) = true := freeRR_map KLink.freeR xs
theorem KLink.row_length (o : Bool) (x : KLink) : (KLink.row o x).length = 3 := rfl
@[simp] theorem KLink.eta (x : KLink) : KLink.mk x.name x.inst x.at_ = x := rfl

structure KType where
  name : ByteArray
  size : Int
  deriving DecidableEq, Inhabited
abbrev KType.row (o : Bool) (x : KType) : List L := [.str x.name, .int .i64 x.size]
abbrev KType.sl (o : Bool) (xs : List KType) : L := .sl o 2 (xs.map (KType.row o))
theorem KType.freezeR (o : Bool) (x : KType) : VS.freezeR (KType.row o x) = KType.row false x := by cases o <;> simp [VS.freezeR, L.freeze]
@[simp] theorem KType.freezeRR (o : Bool) (xs : List KType) : freezeRR (xs.map (KType.row o)) = xs.map (KType.row false) := freezeRR_map (KType.freezeR o) xs
theorem KType.freeR (x : KType) : VS.freeR (KType.row true x) = true := by simp [VS.freeR, L.free]
@[simp] theorem KType.freeRR (xs : List KType) : freeRR (xs.map (KType.row true)) = true := freeRR_map KType.freeR xs
theorem KType.row_length (o : Bool) (x : KType) : (KType.row o x).length = 2 := rfl
@[simp] theorem KType.eta (x : KType) : KType.mk x.name x.size = x := rfl

structure KInst where
  lib : ByteArray
  ver : Int
  names : List ByteArray
  vals : List KValue
  links : List KLink
  types : List KType
  deriving DecidableEq, Inhabited
abbrev KInst.row (o : Bool) (x : KInst) : List L := [.str x.lib, .int .i64 x.ver, .sl o 1 (x.names.map (fun s : ByteArray => [L.str s])), .sl o 3 (x.vals.map (KValue.row o)), .sl o 3 (x.links.map (KLink.row o)), .sl o 2 (x.types.map (KType.row o))]
abbrev KInst.sl (o : Bool) (xs : List KInst) : L := .sl o 6 (xs.map (KInst.row o))
theorem KInst.freezeR (o : Bool) (x : KInst) : VS.freezeR (KInst.row o x) = KInst.row false x := by cases o <;> simp [VS.freezeR, L.freeze]
@[simp] theorem KInst.freezeRR (o : Bool) (xs : List KInst) : freezeRR (xs.map (KInst.row o)) = xs.map (KInst.row false) := freezeRR_map (KInst.freezeR o) xs
theorem KInst.freeR (x : KInst) : VS.freeR (KInst.row true x) = true := by simp [VS.freeR, L.free]
@[simp] theorem KInst.freeRR (xs : List KInst) : freeRR (xs.map (KInst.row true)) = true := freeRR_map KInst.freeR xs
theorem KInst.row_length (o : Bool) (x : KInst) : (KInst.row o x).length = 6 := rfl
@[simp] theorem KInst.eta (x : KInst) : KInst.mk x.lib x.ver x.names x.vals x.links x.types = x := rfl

structure KUnit where
  home : Int
  prog : KProg
  deriving DecidableEq, Inhabited
abbrev KUnit.row (o : Bool) (x : KUnit) : List L := [.int .i64 x.home, .sl o 5 (x.prog.nodes.map (KNode.row o)), .int .i64 x.prog.root]
abbrev KUnit.sl (o : Bool) (xs : List KUnit) : L := .sl o 3 (xs.map (KUnit.row o))
theorem KUnit.freezeR (o : Bool) (x : KUnit) : VS.freezeR (KUnit.row o x) = KUnit.row false x := by cases o <;> simp [VS.freezeR, L.freeze]
@[simp] theorem KUnit.freezeRR (o : Bool) (xs : List KUnit) : freezeRR (xs.map (KUnit.row o)) = xs.map (KUnit.row false) := freezeRR_map (KUnit.freezeR o) xs
theorem KUnit.freeR (x : KUnit) : VS.freeR (KUnit.row true x) = true := by simp [VS.freeR, L.free]
@[simp] theorem KUnit.freeRR (xs : List KUnit) : freeRR (xs.map (KUnit.row true)) = true := freeRR_map KUnit.freeR xs
theorem KUnit.row_length (o : Bool) (x : KUnit) : (KUnit.row o x).length = 3 := rfl
@[simp] theorem KUnit.eta (x : KUnit) : KUnit.mk x.home x.prog = x := rfl

structure KSys where
  heap : List KCell
  insts : List KInst
  units : List KUnit
  out : List ByteArray
  deriving DecidableEq, Inhabited
abbrev KSys.row (o : Bool) (x : KSys) : List L := [.sl o 6 (x.heap.map (KCell.row o)), .sl o 6 (x.insts.map (KInst.row o)), .sl o 3 (x.units.map (KUnit.row o)), .sl o 1 (x.out.map (fun s : ByteArray => [L.str s]))]
abbrev KSys.sl (o : Bool) (xs : List KSys) : L := .sl o 4 (xs.map (KSys.row o))
theorem KSys.freezeR (o : Bool) (x : KSys) : VS.freezeR (KSys.row o x) = KSys.row false x := by cases o <;> simp [VS.freezeR, L.freeze]
@[simp] theorem KSys.freezeRR (o : Bool) (xs : List KSys) : freezeRR (xs.map (KSys.row o)) = xs.map (KSys.row false) := freezeRR_map (KSys.freezeR o) xs
theorem KSys.freeR (x : KSys) : VS.freeR (KSys.row true x) = true := by simp [VS.freeR, L.free]
@[simp] theorem KSys.freeRR (xs : List KSys) : freeRR (xs.map (KSys.row true)) = true := freeRR_map KSys.freeR xs
theorem KSys.row_length (o : Bool) (x : KSys) : (KSys.row o x).length = 4 := rfl
@[simp] theorem KSys.eta (x : KSys) : KSys.mk x.heap x.insts x.units x.out = x := rfl

structure KBind where
  name : ByteArray
  val : KValue
  deriving DecidableEq, Inhabited
abbrev KBind.row (o : Bool) (x : KBind) : List L := [.str x.name, .int .i64 x.val.kind, .int .i64 x.val.n, .str x.val.s]
abbrev KBind.sl (o : Bool) (xs : List KBind) : L := .sl o 4 (xs.map (KBind.row o))
theorem KBind.freezeR (o : Bool) (x : KBind) : VS.freezeR (KBind.row o x) = KBind.row false x := by cases o <;> simp [VS.freezeR, L.freeze]
@[simp] theorem KBind.freezeRR (o : Bool) (xs : List KBind) : freezeRR (xs.map (KBind.row o)) = xs.map (KBind.row false) := freezeRR_map (KBind.freezeR o) xs
theorem KBind.freeR (x : KBind) : VS.freeR (KBind.row true x) = true := by simp [VS.freeR, L.free]
@[simp] theorem KBind.freeRR (xs : List KBind) : freeRR (xs.map (KBind.row true)) = true := freeRR_map KBind.freeR xs
theorem KBind.row_length (o : Bool) (x : KBind) : (KBind.row o x).length = 4 := rfl
@[simp] theorem KBind.eta (x : KBind) : KBind.mk x.name x.val = x := rfl

structure KFrame where
  unit : Int
  node : Int
  vals : List KValue
  env : List KBind
  deriving DecidableEq, Inhabited
abbrev KFrame.row (o : Bool) (x : KFrame) : List L := [.int .i64 x.unit, .int .i64 x.node, .sl o 3 (x.vals.map (KValue.row o)), .sl o 4 (x.env.map (KBind.row o))]
abbrev KFrame.sl (o : Bool) (xs : List KFrame) : L := .sl o 4 (xs.map (KFrame.row o))
theorem KFrame.freezeR (o : Bool) (x : KFrame) : VS.freezeR (KFrame.row o x) = KFrame.row false x := by cases o <;> simp [VS.freezeR, L.freeze]
@[simp] theorem KFrame.freezeRR (o : Bool) (xs : List KFrame) : freezeRR (xs.map (KFrame.row o)) = xs.map (KFrame.row false) := freezeRR_map (KFrame.freezeR o) xs
theorem KFrame.freeR (x : KFrame) : VS.freeR (KFrame.row true x) = true := by simp [VS.freeR, L.free]
@[simp] theorem KFrame.freeRR (xs : List KFrame) : freeRR (xs.map (KFrame.row true)) = true := freeRR_map KFrame.freeR xs
theorem KFrame.row_length (o : Bool) (x : KFrame) : (KFrame.row o x).length = 4 := rfl
@[simp] theorem KFrame.eta (x : KFrame) : KFrame.mk x.unit x.node x.vals x.env = x := rfl

structure KMachine where
  mode : Int
  unit : Int
  node : Int
  env : List KBind
  val : KValue
  stack : List KFrame
  end_ : Int
  deriving DecidableEq, Inhabited
abbrev KMachine.row (o : Bool) (x : KMachine) : List L := [.int .i64 x.mode, .int .i64 x.unit, .int .i64 x.node, .sl o 4 (x.env.map (KBind.row o)), .int .i64 x.val.kind, .int .i64 x.val.n, .str x.val.s, .sl o 4 (x.stack.map (KFrame.row o)), .int .i64 x.end_]
abbrev KMachine.sl (o : Bool) (xs : List KMachine) : L := .sl o 9 (xs.map (KMachine.row o))
theorem KMachine.freezeR (o : Bool) (x : KMachine) : VS.freezeR (KMachine.row o x) = KMachine.row false x := by cases o <;> simp [VS.freezeR, L.freeze]
@[simp] theorem KMachine.freezeRR (o : Bool) (xs : List KMachine) : freezeRR (xs.map (KMachine.row o)) = xs.map (KMachine.row false) := freezeRR_map (KMachine.freezeR o) xs
theorem KMachine.freeR (x : KMachine) : VS.freeR (KMachine.row true x) = true := by simp [VS.freeR, L.free]
@[simp] theorem KMachine.freeRR (xs : List KMachine) : freeRR (xs.map (KMachine.row true)) = true := freeRR_map KMachine.freeR xs
theorem KMachine.row_length (o : Bool) (x : KMachine) : (KMachine.row o x).length = 9 := rfl
@[simp] theorem KMachine.eta (x : KMachine) : KMachine.mk x.mode x.unit x.node x.env x.val x.stack x.end_ = x := rfl

structure KDef where
  name : ByteArray
  prog : KProg
  deriving DecidableEq, Inhabited
abbrev KDef.row (o : Bool) (x : KDef) : List L := [.str x.name, .sl o 5 (x.prog.nodes.map (KNode.row o)), .int .i64 x.prog.root]
abbrev KDef.sl (o : Bool) (xs : List KDef) : L := .sl o 3 (xs.map (KDef.row o))
theorem KDef.freezeR (o : Bool) (x : KDef) : VS.freezeR (KDef.row o x) = KDef.row false x := by cases o <;> simp [VS.freezeR, L.freeze]
@[simp] theorem KDef.freezeRR (o : Bool) (xs : List KDef) : freezeRR (xs.map (KDef.row o)) = xs.map (KDef.row false) := freezeRR_map (KDef.freezeR o) xs
theorem KDef.freeR (x : KDef) : VS.freeR (KDef.row true x) = true := by simp [VS.freeR, L.free]
@[simp] theorem KDef.freeRR (xs : List KDef) : freeRR (xs.map (KDef.row true)) = true := freeRR_map KDef.freeR xs
theorem KDef.row_length (o : Bool) (x : KDef) : (KDef.row o x).length = 3 := rfl
@[simp] theorem KDef.eta (x : KDef) : KDef.mk x.name x.prog = x := rfl

structure KSrc where
  name : ByteArray
  imports : List ByteArray
  exports : List ByteArray
  types : List KType
  defs : List KDef
  convs : List KDef
  deriving DecidableEq, Inhabited
abbrev KSrc.row (o : Bool) (x : KSrc) : List L := [.str x.name, .sl o 1 (x.imports.map (fun s : ByteArray => [L.str s])), .sl o 1 (x.exports.map (fun s : ByteArray => [L.str s])), .sl o 2 (x.types.map (KType.row o)), .sl o 3 (x.defs.map (KDef.row o)), .sl o 3 (x.convs.map (KDef.row o))]
abbrev KSrc.sl (o : Bool) (xs : List KSrc) : L := .sl o 6 (xs.map (KSrc.row o))
theorem KSrc.freezeR (o : Bool) (x : KSrc) : VS.freezeR (KSrc.row o x) = KSrc.row false x := by cases o <;> simp [VS.freezeR, L.freeze]
@[simp] theorem KSrc.freezeRR (o : Bool) (xs : List KSrc) : freezeRR (xs.map (KSrc.row o)) = xs.map (KSrc.row false) := freezeRR_map (KSrc.freezeR o) xs
theorem KSrc.freeR (x : KSrc) : VS.freeR (KSrc.row true x) = true := by simp [VS.freeR, L.free]
@[simp] theorem KSrc.freeRR (xs : List KSrc) : freeRR (xs.map (KSrc.row true)) = true := freeRR_map KSrc.freeR xs
theorem KSrc.row_length (o : Bool) (x : KSrc) : (KSrc.row o x).length = 6 := rfl
@[simp] theorem KSrc.eta (x : KSrc) : KSrc.mk x.name x.imports x.exports x.types x.defs x.convs = x := rfl

structure KEnt where
  src : KSrc
  ver : Int
  inst : Int
  deriving DecidableEq, Inhabited
abbrev KEnt.row (o : Bool) (x : KEnt) : List L := [.str x.src.name, .sl o 1 (x.src.imports.map (fun s : ByteArray => [L.str s])), .sl o 1 (x.src.exports.map (fun s : ByteArray => [L.str s])), .sl o 2 (x.src.types.map (KType.row o)), .sl o 3 (x.src.defs.map (KDef.row o)), .sl o 3 (x.src.convs.map (KDef.row o)), .int .i64 x.ver, .int .i64 x.inst]
abbrev KEnt.sl (o : Bool) (xs : List KEnt) : L := .sl o 8 (xs.map (KEnt.row o))
theorem KEnt.freezeR (o : Bool) (x : KEnt) : VS.freezeR (KEnt.row o x) = KEnt.row false x := by cases o <;> simp [VS.freezeR, L.freeze]
@[simp] theorem KEnt.freezeRR (o : Bool) (xs : List KEnt) : freezeRR (xs.map (KEnt.row o)) = xs.map (KEnt.row false) := freezeRR_map (KEnt.freezeR o) xs
theorem KEnt.freeR (x : KEnt) : VS.freeR (KEnt.row true x) = true := by simp [VS.freeR, L.free]
@[simp] theorem KEnt.freeRR (xs : List KEnt) : freeRR (xs.map (KEnt.row true)) = true := freeRR_map KEnt.freeR xs
theorem KEnt.row_length (o : Bool) (x : KEnt) : (KEnt.row o x).length = 8 := rfl
@[simp] theorem KEnt.eta (x : KEnt) : KEnt.mk x.src x.ver x.inst = x := rfl

structure KTask where
  id : Int
  mac : KMachine
  deriving DecidableEq, Inhabited
abbrev KTask.row (o : Bool) (x : KTask) : List L := [.int .i64 x.id, .int .i64 x.mac.mode, .int .i64 x.mac.unit, .int .i64 x.mac.node, .sl o 4 (x.mac.env.map (KBind.row o)), .int .i64 x.mac.val.kind, .int .i64 x.mac.val.n, .str x.mac.val.s, .sl o 4 (x.mac.stack.map (KFrame.row o)), .int .i64 x.mac.end_]
abbrev KTask.sl (o : Bool) (xs : List KTask) : L := .sl o 10 (xs.map (KTask.row o))
theorem KTask.freezeR (o : Bool) (x : KTask) : VS.freezeR (KTask.row o x) = KTask.row false x := by cases o <;> simp [VS.freezeR, L.freeze]
@[simp] theorem KTask.freezeRR (o : Bool) (xs : List KTask) : freezeRR (xs.map (KTask.row o)) = xs.map (KTask.row false) := freezeRR_map (KTask.freezeR o) xs
theorem KTask.freeR (x : KTask) : VS.freeR (KTask.row true x) = true := by simp [VS.freeR, L.free]
@[simp] theorem KTask.freeRR (xs : List KTask) : freeRR (xs.map (KTask.row true)) = true := freeRR_map KTask.freeR xs
theorem KTask.row_length (o : Bool) (x : KTask) : (KTask.row o x).length = 10 := rfl
@[simp] theorem KTask.eta (x : KTask) : KTask.mk x.id x.mac = x := rfl

structure KWorld where
  sys : KSys
  libs : List KEnt
  tasks : List KTask
  next : Int
  deriving DecidableEq, Inhabited
abbrev KWorld.row (o : Bool) (x : KWorld) : List L := [.sl o 6 (x.sys.heap.map (KCell.row o)), .sl o 6 (x.sys.insts.map (KInst.row o)), .sl o 3 (x.sys.units.map (KUnit.row o)), .sl o 1 (x.sys.out.map (fun s : ByteArray => [L.str s])), .sl o 8 (x.libs.map (KEnt.row o)), .sl o 10 (x.tasks.map (KTask.row o)), .int .i64 x.next]
abbrev KWorld.sl (o : Bool) (xs : List KWorld) : L := .sl o 7 (xs.map (KWorld.row o))
theorem KWorld.freezeR (o : Bool) (x : KWorld) : VS.freezeR (KWorld.row o x) = KWorld.row false x := by cases o <;> simp [VS.freezeR, L.freeze]
@[simp] theorem KWorld.freezeRR (o : Bool) (xs : List KWorld) : freezeRR (xs.map (KWorld.row o)) = xs.map (KWorld.row false) := freezeRR_map (KWorld.freezeR o) xs
theorem KWorld.freeR (x : KWorld) : VS.freeR (KWorld.row true x) = true := by simp [VS.freeR, L.free]
@[simp] theorem KWorld.freeRR (xs : List KWorld) : freeRR (xs.map (KWorld.row true)) = true := freeRR_map KWorld.freeR xs
theorem KWorld.row_length (o : Bool) (x : KWorld) : (KWorld.row o x).length = 7 := rfl
@[simp] theorem KWorld.eta (x : KWorld) : KWorld.mk x.sys x.libs x.tasks x.next = x := rfl

structure KNeed where
  inst : Int
  names : List ByteArray
  deriving DecidableEq, Inhabited
abbrev KNeed.row (o : Bool) (x : KNeed) : List L := [.int .i64 x.inst, .sl o 1 (x.names.map (fun s : ByteArray => [L.str s]))]
abbrev KNeed.sl (o : Bool) (xs : List KNeed) : L := .sl o 2 (xs.map (KNeed.row o))
theorem KNeed.freezeR (o : Bool) (x : KNeed) : VS.freezeR (KNeed.row o x) = KNeed.row false x := by cases o <;> simp [VS.freezeR, L.freeze]
@[simp] theorem KNeed.freezeRR (o : Bool) (xs : List KNeed) : freezeRR (xs.map (KNeed.row o)) = xs.map (KNeed.row false) := freezeRR_map (KNeed.freezeR o) xs
theorem KNeed.freeR (x : KNeed) : VS.freeR (KNeed.row true x) = true := by simp [VS.freeR, L.free]
@[simp] theorem KNeed.freeRR (xs : List KNeed) : freeRR (xs.map (KNeed.row true)) = true := freeRR_map KNeed.freeR xs
theorem KNeed.row_length (o : Bool) (x : KNeed) : (KNeed.row o x).length = 2 := rfl
@[simp] theorem KNeed.eta (x : KNeed) : KNeed.mk x.inst x.names = x := rfl

structure KWorldAct where
  kind : Int
  text : ByteArray
  a : Int
  b : Int
  deriving DecidableEq, Inhabited
abbrev KWorldAct.row (o : Bool) (x : KWorldAct) : List L := [.int .i64 x.kind, .str x.text, .int .i64 x.a, .int .i64 x.b]
abbrev KWorldAct.sl (o : Bool) (xs : List KWorldAct) : L := .sl o 4 (xs.map (KWorldAct.row o))
theorem KWorldAct.freezeR (o : Bool) (x : KWorldAct) : VS.freezeR (KWorldAct.row o x) = KWorldAct.row false x := by cases o <;> simp [VS.freezeR, L.freeze]
@[simp] theorem KWorldAct.freezeRR (o : Bool) (xs : List KWorldAct) : freezeRR (xs.map (KWorldAct.row o)) = xs.map (KWorldAct.row false) := freezeRR_map (KWorldAct.freezeR o) xs
theorem KWorldAct.freeR (x : KWorldAct) : VS.freeR (KWorldAct.row true x) = true := by simp [VS.freeR, L.free]
@[simp] theorem KWorldAct.freeRR (xs : List KWorldAct) : freeRR (xs.map (KWorldAct.row true)) = true := freeRR_map KWorldAct.freeR xs
theorem KWorldAct.row_length (o : Bool) (x : KWorldAct) : (KWorldAct.row o x).length = 4 := rfl
@[simp] theorem KWorldAct.eta (x : KWorldAct) : KWorldAct.mk x.kind x.text x.a x.b = x := rfl

structure KNote where
  kind : Int
  name : ByteArray
  deriving DecidableEq, Inhabited
abbrev KNote.row (o : Bool) (x : KNote) : List L := [.int .i64 x.kind, .str x.name]
abbrev KNote.sl (o : Bool) (xs : List KNote) : L := .sl o 2 (xs.map (KNote.row o))
theorem KNote.freezeR (o : Bool) (x : KNote) : VS.freezeR (KNote.row o x) = KNote.row false x := by cases o <;> simp [VS.freezeR, L.freeze]
@[simp] theorem KNote.freezeRR (o : Bool) (xs : List KNote) : freezeRR (xs.map (KNote.row o)) = xs.map (KNote.row false) := freezeRR_map (KNote.freezeR o) xs
theorem KNote.freeR (x : KNote) : VS.freeR (KNote.row true x) = true := by simp [VS.freeR, L.free]
@[simp] theorem KNote.freeRR (xs : List KNote) : freeRR (xs.map (KNote.row true)) = true := freeRR_map KNote.freeR xs
theorem KNote.row_length (o : Bool) (x : KNote) : (KNote.row o x).length = 2 := rfl
@[simp] theorem KNote.eta (x : KNote) : KNote.mk x.kind x.name = x := rfl

end Go.VS

/- Facts used all over: wrapping, lists behind a map, comparison of texts. -/
namespace Go.VS
open Go Go.RowKit
set_option linter.unusedSimpArgs false
set_option linter.unusedVariables false

theorem wrap_i64 {n : Int} (h1 : -9223372036854775808 ≤ n) (h2 : n ≤ 9223372036854775807) : IntKind.i64.wrap n = n := by
  have e : IntKind.i64.wrap n = if n % 18446744073709551616 ≥ 9223372036854775808 then n % 18446744073709551616 - 18446744073709551616 else n % 18446744073709551616 := by
    simp [IntKind.wrap, IntKind.bits, IntKind.signed]
  rw [e]
  split <;> omega
theorem wrap_u8 {n : Int} (h1 : 0 ≤ n) (h2 : n ≤ 255) : IntKind.u8.wrap n = n := by
  have e : IntKind.u8.wrap n = n % 256 := by simp [IntKind.wrap, IntKind.bits, IntKind.signed]
  rw [e]; omega
@[simp] theorem get_mid {α β : Type} (a : List α) (f : α → β) (x : β) (b : List β) : (a.map f ++ x :: b)[a.length]? = some x := by
  rw [List.getElem?_append_right (by simp)]; simp
@[simp] theorem set_mid {α β : Type} (a : List α) (f : α → β) (x y : β) (b : List β) : (a.map f ++ x :: b).set a.length y = a.map f ++ y :: b := by
  rw [List.set_append_right _ _ (by simp)]; simp
@[simp] theorem ba_size (a : Array UInt8) : (ByteArray.mk a).size = a.size := rfl
@[simp] theorem ba_append_size (a b : ByteArray) : (a ++ b).size = a.size + b.size := ByteArray.size_append
attribute [simp] bytesOf
theorem run_env {G : Sigs} {F : Fns} {c : VC} {e e' : Env} {ks : List Fr} {Q : VX → Env → Prop} (h : Run G F c e' ks Q) (he : e = e') : Run G F c e ks Q := he ▸ h
/-- A branch that is not known yet: both ways. -/
theorem runD_cases {G : Sigs} {F : Fns} {a b : VC} {e : Env} {ks : List Fr} {Q : VX → Env → Prop} {c : Bool} (h1 : c = true → Run G F a e ks Q) (h2 : c = false → Run G F b e ks Q) : RunD G F a b e ks Q c := by
  cases c with
  | true => exact h1 rfl
  | false => exact h2 rfl
theorem gopB_cases {G : Sigs} {F : Fns} {live : List Tmp} {ks : List Fr} {Q : VX → Env → Prop} {os : List GOp} {s : RS} {o : VOp} {c : Bool} (h1 : c = true → RunR G F live ks Q (gopsK G F os (vop G F s o))) (h2 : c = false → RunR G F live ks Q (gopsK G F os (skipK s o.dst))) : RunR G F live ks Q (gopsK G F os (gopB G F s o c)) := by
  cases c with
  | true => exact h1 rfl
  | false => exact h2 rfl
theorem gopB_drawn {G : Sigs} {F : Fns} {live : List Tmp} {ks : List Fr} {Q : VX → Env → Prop} {os : List GOp} {qs : List DOp} {s0 s : RS} {o : VOp} {c : Bool} (h1 : c = true → RunR G F live ks Q (drawK G F qs s0 (gopsK G F os (vop G F s o)))) (h2 : c = false → RunR G F live ks Q (drawK G F qs s0 (gopsK G F os (skipK s o.dst)))) : RunR G F live ks Q (drawK G F qs s0 (gopsK G F os (gopB G F s o c))) := by
  cases c with
  | true => exact h1 rfl
  | false => exact h2 rfl
/-- A loop over a list that carries a state, and may stop ahead of the end. -/
theorem loop_foldM {α σ : Type} {G : Sigs} {F : Fns} {b b' : VC} (hb : b = b') (f : σ → α → Option σ) (l : List α) (s0 : σ) (E : Int → σ → Env) {ks : List Fr} {Q : VX → Env → Prop}
    (hend : ∀ s, l.foldlM f s0 = some s → Run G F b' (E l.length s) (.rep b' :: ks) Q)
    (hstep : ∀ (i : Nat) (x : α) (s s' : σ), l[i]? = some x → (i : Int) < l.length → (l.take i).foldlM f s0 = some s → f s x = some s' → Run G F (.loop b) (E ((i : Int) + 1) s') ks Q → Run G F b' (E i s) (.rep b' :: ks) Q)
    (hret : ∀ (i : Nat) (x : α) (s : σ), l[i]? = some x → (i : Int) < l.length → (l.take i).foldlM f s0 = some s → f s x = none → l.foldlM f s0 = none → Run G F b' (E i s) (.rep b' :: ks) Q) : Run G F (.loop b) (E 0 s0) ks Q := by
  subst hb
  have key : ∀ (rest done : List α) (s : σ), l = done ++ rest → done.foldlM f s0 = some s → Run G F (.loop b) (E done.length s) ks Q := by
    intro rest
    induction rest with
    | nil =>
      intro done s hd hs
      rw [List.append_nil] at hd
      subst hd
      exact run_loop (hend s hs)
    | cons x rest ih =>
      intro done s hd hs
      have hx : l[done.length]? = some x := by rw [hd, List.getElem?_append_right (Nat.le_refl _), Nat.sub_self]; rfl
      have hi : (done.length : Int) < l.length := by rw [hd, List.length_append, List.length_cons]; omega
      have ht : l.take done.length = done := by rw [hd, List.take_left]
      cases hf : f s x with
      | none =>
        refine run_loop (hret done.length x s hx hi (by rw [ht]; exact hs) hf ?_)
        rw [hd, List.foldlM_append, hs]
        simp [hf]
      | some s' =>
        refine run_loop (hstep done.length x s s' hx hi (by rw [ht]; exact hs) hf ?_)
        have := ih (done ++ [x]) s' (by rw [hd]; simp) (by rw [List.foldlM_append, hs]; simp [hf])
        rw [List.length_append] at this
        exact this
  exact key l [] s0 rfl rfl
/-- A loop over a list that carries a state. -/
theorem loop_fold {α σ : Type} {G : Sigs} {F : Fns} {b b' : VC} (hb : b = b') (f : σ → α → σ) (l : List α) (s0 : σ) (E : Int → σ → Env) {ks : List Fr} {Q : VX → Env → Prop}
    (hend : Run G F b' (E l.length (l.foldl f s0)) (.rep b' :: ks) Q)
    (hstep : ∀ (i : Nat) (x : α), l[i]? = some x → (i : Int) < l.length → Run G F (.loop b) (E ((i : Int) + 1) (f ((l.take i).foldl f s0) x)) ks Q → Run G F b' (E i ((l.take i).foldl f s0)) (.rep b' :: ks) Q) : Run G F (.loop b) (E 0 s0) ks Q := by
  have e : ∀ (l : List α) (s : σ), l.foldlM (fun s x => some (f s x)) s = some (l.foldl f s) := by
    intro l
    induction l with
    | nil => intro s; rfl
    | cons x l ih => intro s; simp only [List.foldlM_cons, List.foldl_cons, ← ih]; rfl
  refine loop_foldM hb (fun s x => some (f s x)) l s0 E (fun s hs => ?_) (fun i x s s' hx hi hs hf h => ?_) (fun i x s hx hi hs hf h => ?_)
  · rw [e] at hs
    obtain rfl := Option.some.inj hs
    exact hend
  · rw [e] at hs
    obtain rfl := (Option.some.inj hs).symm
    obtain rfl := (Option.some.inj hf).symm
    exact hstep i x hx hi h
  · cases hf
/-- A loop that looks whether all of a list are so. -/
theorem loop_all {α : Type} {G : Sigs} {F : Fns} {b b' : VC} (hb : b = b') (p : α → Bool) (l : List α) (E : Int → Env) {ks : List Fr} {Q : VX → Env → Prop}
    (hend : l.all p = true → Run G F b' (E l.length) (.rep b' :: ks) Q)
    (hstep : ∀ (i : Nat) (x : α), l[i]? = some x → (i : Int) < l.length → p x = true → Run G F (.loop b) (E ((i : Int) + 1)) ks Q → Run G F b' (E i) (.rep b' :: ks) Q)
    (hret : ∀ (i : Nat) (x : α), l[i]? = some x → (i : Int) < l.length → p x = false → l.all p = false → Run G F b' (E i) (.rep b' :: ks) Q) : Run G F (.loop b) (E 0) ks Q := by
  have e : ∀ (l : List α) (r : Option Unit), l.foldlM (fun (_ : Unit) x => if p x = true then some () else none) () = r → (r = some () ↔ l.all p = true) := by
    intro l
    induction l with
    | nil => intro r h; rw [← h]; simp
    | cons x l ih =>
      intro r h
      rw [← h, List.foldlM_cons]
      by_cases hx : p x = true
      · simp [hx]
        simpa using ih _ rfl
      · simp [hx]
  refine loop_foldM hb (fun (_ : Unit) x => if p x = true then some () else none) l () (fun i _ => E i) (fun s hs => ?_) (fun i x s s' hx hi hs hf h => ?_) (fun i x s hx hi hs hf h => ?_)
  · exact hend ((e l _ hs).1 rfl)
  · split at hf
    · exact hstep i x hx hi (by assumption) h
    · cases hf
  · split at hf
    · cases hf
    · rename_i hp
      refine hret i x hx hi (by simpa using hp) ?_
      cases ha : l.all p with
      | false => rfl
      | true => have := (e l _ h).2 ha; cases this
/-- The same loops, at the slots as they stand: W says how the slots change with the round and the state. -/
theorem at_foldM {α σ : Type} {G : Sigs} {F : Fns} {b b' : VC} {e0 : Env} (W : Env → Int → σ → Env) (hb : b = b') (f : σ → α → Option σ) (l : List α) (s0 : σ) {ks : List Fr} {Q : VX → Env → Prop} (he : e0 = W e0 0 s0)
    (hend : ∀ s, l.foldlM f s0 = some s → Run G F b' (W e0 l.length s) (.rep b' :: ks) Q)
    (hstep : ∀ (i : Nat) (x : α) (s s' : σ), l[i]? = some x → (i : Int) < l.length → (l.take i).foldlM f s0 = some s → f s x = some s' → Run G F (.loop b) (W e0 ((i : Int) + 1) s') ks Q → Run G F b' (W e0 i s) (.rep b' :: ks) Q)
    (hret : ∀ (i : Nat) (x : α) (s : σ), l[i]? = some x → (i : Int) < l.length → (l.take i).foldlM f s0 = some s → f s x = none → l.foldlM f s0 = none → Run G F b' (W e0 i s) (.rep b' :: ks) Q) : Run G F (.loop b) e0 ks Q :=
  run_env (loop_foldM hb f l s0 (W e0) hend hstep hret) he
theorem at_fold {α σ : Type} {G : Sigs} {F : Fns} {b b' : VC} {e0 : Env} (W : Env → Int → σ → Env) (hb : b = b') (f : σ → α → σ) (l : List α) (s0 : σ) {ks : List Fr} {Q : VX → Env → Prop} (he : e0 = W e0 0 s0)
    (hend : Run G F b' (W e0 l.length (l.foldl f s0)) (.rep b' :: ks) Q)
    (hstep : ∀ (i : Nat) (x : α), l[i]? = some x → (i : Int) < l.length → Run G F (.loop b) (W e0 ((i : Int) + 1) (f ((l.take i).foldl f s0) x)) ks Q → Run G F b' (W e0 i ((l.take i).foldl f s0)) (.rep b' :: ks) Q) : Run G F (.loop b) e0 ks Q :=
  run_env (loop_fold hb f l s0 (W e0) hend hstep) he
theorem at_all {α : Type} {G : Sigs} {F : Fns} {b b' : VC} {e0 : Env} (k : Tmp) (hb : b = b') (p : α → Bool) (l : List α) {ks : List Fr} {Q : VX → Env → Prop} (he : e0 = e0.put k (.v (.leaf (.int .i64 0))))
    (hend : l.all p = true → Run G F b' (e0.put k (.v (.leaf (.int .i64 l.length)))) (.rep b' :: ks) Q)
    (hstep : ∀ (i : Nat) (x : α), l[i]? = some x → (i : Int) < l.length → p x = true → Run G F (.loop b) (e0.put k (.v (.leaf (.int .i64 ((i : Int) + 1))))) ks Q → Run G F b' (e0.put k (.v (.leaf (.int .i64 i)))) (.rep b' :: ks) Q)
    (hret : ∀ (i : Nat) (x : α), l[i]? = some x → (i : Int) < l.length → p x = false → l.all p = false → Run G F b' (e0.put k (.v (.leaf (.int .i64 i)))) (.rep b' :: ks) Q) : Run G F (.loop b) e0 ks Q :=
  run_env (loop_all hb p l (fun i => e0.put k (.v (.leaf (.int .i64 i)))) hend hstep hret) he
/-- A loop that goes on while a measure falls. -/
theorem at_while {σ : Type} {G : Sigs} {F : Fns} {b b' : VC} {e0 : Env} (W : Env → σ → Env) (hb : b = b') (m : σ → Nat) (I : σ → Prop) (s0 : σ) {ks : List Fr} {Q : VX → Env → Prop} (he : e0 = W e0 s0) (h0 : I s0)
    (h : ∀ s, I s → (∀ s', m s' < m s → I s' → Run G F (.loop b) (W e0 s') ks Q) → Run G F b' (W e0 s) (.rep b' :: ks) Q) : Run G F (.loop b) e0 ks Q := by
  subst hb
  have key : ∀ (n : Nat) (s : σ), m s < n → I s → Run G F (.loop b) (W e0 s) ks Q := by
    intro n
    induction n with
    | zero => intro s hs; omega
    | succ n ih => intro s hs hI; exact run_loop (h s hI fun s' hs' hI' => ih s' (by omega) hI')
  exact run_env (key _ s0 (Nat.lt_succ_self _) h0) he
theorem at_get {α : Type} {l : List α} {i : Nat} {x : α} (h : l[i]? = some x) (hlt : i < l.length) : l[i] = x := by
  rw [List.getElem?_eq_getElem hlt] at h
  exact Option.some.inj h
/-- The first place of a list that is so; -1 where there is none. -/
def findB {α : Type} (p : α → Bool) : List α → Int → Int
  | [], _ => -1
  | x :: l, k => if p x = true then k else findB p l (k + 1)
theorem findB_none {α : Type} (p : α → Bool) : ∀ (l : List α) (k : Int), l.all (fun x => !p x) = true → findB p l k = -1
  | [], _, _ => rfl
  | x :: l, k, h => by
    rw [List.all_cons, Bool.and_eq_true] at h
    unfold findB
    rw [if_neg (by simpa using h.1), findB_none p l (k + 1) h.2]
theorem findB_at {α : Type} (p : α → Bool) : ∀ (l : List α) (k : Int) (i : Nat) (x : α), l[i]? = some x → p x = true → (l.take i).all (fun x => !p x) = true → findB p l k = k + i
  | [], k, i, x, h, _, _ => by simp at h
  | y :: l, k, 0, x, h, hp, _ => by
    simp at h
    subst h
    unfold findB
    rw [if_pos hp]
    simp
  | y :: l, k, i + 1, x, h, hp, ha => by
    rw [List.take_succ_cons, List.all_cons, Bool.and_eq_true] at ha
    unfold findB
    rw [if_neg (by simpa using ha.1), findB_at p l (k + 1) i x (by simpa using h) hp ha.2]
    omega
theorem findB_cases {α : Type} (p : α → Bool) : ∀ (l : List α) (k : Int), 0 ≤ k → (findB p l k = -1 ∧ l.all (fun x => !p x) = true) ∨ ∃ (i : Nat) (x : α), l[i]? = some x ∧ p x = true ∧ findB p l k = k + i
  | [], _, _ => .inl ⟨rfl, rfl⟩
  | x :: l, k, hk => by
    unfold findB
    by_cases h : p x = true
    · rw [if_pos h]
      exact .inr ⟨0, x, rfl, h, by simp⟩
    · rw [if_neg h]
      rcases findB_cases p l (k + 1) (by omega) with ⟨h1, h2⟩ | ⟨i, y, h1, h2, h3⟩
      · exact .inl ⟨h1, by rw [List.all_cons, h2]; simpa using h⟩
      · exact .inr ⟨i + 1, y, by simpa using h1, h2, by rw [h3]; omega⟩
/-- A loop that looks for the first one. -/
theorem at_find {α : Type} {G : Sigs} {F : Fns} {b b' : VC} {e0 : Env} (k : Tmp) (hb : b = b') (p : α → Bool) (l : List α) {ks : List Fr} {Q : VX → Env → Prop} (he : e0 = e0.put k (.v (.leaf (.int .i64 0))))
    (hend : findB p l 0 = -1 → l.all (fun x => !p x) = true → Run G F b' (e0.put k (.v (.leaf (.int .i64 l.length)))) (.rep b' :: ks) Q)
    (hstep : ∀ (i : Nat) (x : α), l[i]? = some x → (i : Int) < l.length → p x = false → Run G F (.loop b) (e0.put k (.v (.leaf (.int .i64 ((i : Int) + 1))))) ks Q → Run G F b' (e0.put k (.v (.leaf (.int .i64 i)))) (.rep b' :: ks) Q)
    (hret : ∀ (i : Nat) (x : α), l[i]? = some x → (i : Int) < l.length → p x = true → findB p l 0 = i → Run G F b' (e0.put k (.v (.leaf (.int .i64 i)))) (.rep b' :: ks) Q) : Run G F (.loop b) e0 ks Q := by
  have e : ∀ (l : List α) (r : Option Unit), l.foldlM (fun (_ : Unit) x => if p x = true then none else some ()) () = r → (r = some () ↔ l.all (fun x => !p x) = true) := by
    intro l
    induction l with
    | nil => intro r h; rw [← h]; simp
    | cons x l ih =>
      intro r h
      rw [← h, List.foldlM_cons]
      by_cases hx : p x = true
      · simp [hx]
      · simp [hx]
        simpa using ih _ rfl
  refine at_foldM (fun e1 i (_ : Unit) => e1.put k (.v (.leaf (.int .i64 i)))) hb (fun (_ : Unit) x => if p x = true then none else some ()) l () he (fun s hs => ?_) (fun i x s s' hx hi hs hf h => ?_) (fun i x s hx hi hs hf h => ?_)
  · have ha := (e l _ hs).1 rfl
    exact hend (findB_none p l 0 ha) ha
  · split at hf
    · cases hf
    · rename_i hp
      exact hstep i x hx hi (by simpa using hp) h
  · split at hf
    · rename_i hp
      have := findB_at p l 0 i x hx hp ((e _ _ hs).1 rfl)
      exact hret i x hx hi hp (by omega)
    · cases hf
/-- All of a list are so, each at its place. -/
def fromB {α : Type} (p : Int → α → Bool) : Int → List α → Bool
  | _, [] => true
  | i, x :: xs => p i x && fromB p (i + 1) xs
def fromStep {α : Type} (p : Int → α → Bool) (i : Int) (x : α) : Option Int := if p i x = true then some (i + 1) else none
theorem from_foldM {α : Type} (p : Int → α → Bool) : ∀ (l : List α) (i : Int) (r : Option Int), l.foldlM (fromStep p) i = r → (fromB p i l = true ↔ r = some (i + l.length)) ∧ (r = none ∨ r = some (i + l.length))
  | [], i, r, e => by
    rw [← e]
    simp [fromB]
  | x :: l, i, r, e => by
    rw [List.foldlM_cons] at e
    unfold fromStep at e
    by_cases hc : p i x = true
    · simp [hc] at e
      have := from_foldM p l (i + 1) r e
      have e2 : i + 1 + (l.length : Int) = i + ((x :: l).length : Int) := by simp; omega
      rw [e2] at this
      simpa [fromB, hc] using this
    · simp [hc] at e
      rw [← e]
      simp [fromB, hc]
theorem fromB_get {α : Type} (p : Int → α → Bool) : ∀ (l : List α) (i : Int) (j : Nat) (x : α), fromB p i l = true → l[j]? = some x → p (i + j) x = true
  | [], i, j, x, _, hj => by simp at hj
  | y :: l, i, j, x, h, hj => by
    simp only [fromB, Bool.and_eq_true] at h
    cases j with
    | zero => simp at hj; subst hj; simpa using h.1
    | succ j =>
      have := fromB_get p l (i + 1) j x h.2 (by simpa using hj)
      have e : i + 1 + (j : Int) = i + ((j + 1 : Nat) : Int) := by omega
      rwa [e] at this
/-- A loop that looks whether all are so, each at its place. -/
theorem at_from {α : Type} {G : Sigs} {F : Fns} {b b' : VC} {e0 : Env} (k : Tmp) (hb : b = b') (p : Int → α → Bool) (l : List α) {ks : List Fr} {Q : VX → Env → Prop} (he : e0 = e0.put k (.v (.leaf (.int .i64 0))))
    (hend : fromB p 0 l = true → Run G F b' (e0.put k (.v (.leaf (.int .i64 l.length)))) (.rep b' :: ks) Q)
    (hstep : ∀ (i : Nat) (x : α), l[i]? = some x → (i : Int) < l.length → p i x = true → Run G F (.loop b) (e0.put k (.v (.leaf (.int .i64 ((i : Int) + 1))))) ks Q → Run G F b' (e0.put k (.v (.leaf (.int .i64 i)))) (.rep b' :: ks) Q)
    (hret : ∀ (i : Nat) (x : α), l[i]? = some x → (i : Int) < l.length → p i x = false → fromB p 0 l = false → Run G F b' (e0.put k (.v (.leaf (.int .i64 i)))) (.rep b' :: ks) Q) : Run G F (.loop b) e0 ks Q := by
  have hst : ∀ (i : Nat) (s : Int), (i : Int) < l.length → (l.take i).foldlM (fromStep p) 0 = some s → s = i := by
    intro i s hi h
    rcases (from_foldM p (l.take i) 0 _ h).2 with h2 | h2
    · cases h2
    · simp at h2; omega
  refine at_foldM (fun e1 i (_ : Int) => e1.put k (.v (.leaf (.int .i64 i)))) hb (fromStep p) l 0 he (fun s hs => ?_) (fun i x s s' hx hi hs hf h => ?_) (fun i x s hx hi hs hf h => ?_)
  · have := from_foldM p l 0 _ hs
    refine hend (this.1.2 ?_)
    rcases this.2 with h2 | h2
    · cases h2
    · exact h2
  · obtain rfl := hst i s hi hs
    unfold fromStep at hf
    split at hf
    · rename_i hp
      exact hstep i x hx hi hp h
    · cases hf
  · obtain rfl := hst i s hi hs
    unfold fromStep at hf
    split at hf
    · cases hf
    · rename_i hp
      refine hret i x hx hi (by simpa using hp) ?_
      have := (from_foldM p l 0 _ h).1
      cases hb : fromB p 0 l with
      | false => rfl
      | true => have := this.1 hb; cases this
end Go.VS

/- Decimal numerals and words in a row of words: plain lemmas. -/
namespace Go.VS
open Go Go.RowKit Go.Lib
set_option linter.unusedSimpArgs false
set_option linter.unusedVariables false

def isDig (b : UInt8) : Prop := 48 ≤ b.toNat ∧ b.toNat ≤ 57
instance (b : UInt8) : Decidable (isDig b) := by unfold isDig; infer_instance

theorem decDigits_rec (u : Nat) : decDigits u = (if u < 10 then [] else decDigits (u / 10)) ++ [UInt8.ofNat (48 + u % 10)] := by
  rw [decDigits]
  by_cases h : u < 10
  · rw [dif_pos h, if_pos h, Nat.mod_eq_of_lt h]; rfl
  · rw [dif_neg h, if_neg h]

theorem digit_toNat (d : Nat) (h : d < 10) : (UInt8.ofNat (48 + d)).toNat = 48 + d := by
  simp only [UInt8.toNat_ofNat']
  omega

theorem decDigits_dig (u : Nat) : ∀ b ∈ decDigits u, isDig b := by
  induction u using Nat.strongRecOn with
  | _ u ih =>
    intro b hb
    rw [decDigits_rec, List.mem_append, List.mem_singleton] at hb
    rcases hb with hb | rfl
    · by_cases h : u < 10
      · rw [if_pos h] at hb; cases hb
      · rw [if_neg h] at hb; exact ih (u / 10) (by omega) b hb
    · unfold isDig
      rw [digit_toNat _ (by omega)]
      omega

theorem decDigits_ne (u : Nat) : decDigits u ≠ [] := by
  rw [decDigits_rec]; simp

theorem decDigits_len (k : Nat) : ∀ u, (decDigits u).length ≤ k + 1 ↔ u < 10 ^ (k + 1) := by
  induction k with
  | zero =>
    intro u
    rw [decDigits_rec]
    by_cases h : u < 10
    · rw [if_pos h]; simp; omega
    · rw [if_neg h]
      have := decDigits_ne (u / 10)
      have : 0 < (decDigits (u / 10)).length := List.length_pos_iff.mpr this
      simp
      constructor
      · intro h2; exact absurd h2 (decDigits_ne _)
      · intro h2; omega
  | succ k ih =>
    intro u
    rw [decDigits_rec]
    by_cases h : u < 10
    · rw [if_pos h]
      have : u < 10 ^ (k + 1 + 1) := Nat.lt_of_lt_of_le h (by rw [Nat.pow_succ]; exact Nat.le_mul_of_pos_left _ (Nat.pow_pos (by decide)))
      simp [this]
    · rw [if_neg h, List.length_append, List.length_singleton]
      have := ih (u / 10)
      rw [Nat.pow_succ]
      omega

theorem digitVal_of (d : Nat) (h : d < 10) : digitVal (UInt8.ofNat (48 + d)) = some d := by
  unfold digitVal
  rw [digit_toNat d h, if_pos (by omega)]
  congr 1
  omega

theorem decFrom_append (l : List UInt8) : ∀ (acc n d : Nat), d < 10 → decFrom acc l = some n → decFrom acc (l ++ [UInt8.ofNat (48 + d)]) = some (n * 10 + d) := by
  induction l with
  | nil =>
    intro acc n d hd h
    simp only [decFrom, Option.some.injEq] at h
    subst h
    simp only [List.nil_append, decFrom, digitVal_of d hd]
  | cons b l ih =>
    intro acc n d hd h
    simp only [List.cons_append, decFrom] at h ⊢
    cases hv : digitVal b with
    | none => rw [hv] at h; cases h
    | some x => rw [hv] at h; exact ih _ n d hd h

theorem decFrom_digits (u : Nat) : decFrom 0 (decDigits u) = some u := by
  induction u using Nat.strongRecOn with
  | _ u ih =>
    rw [decDigits_rec]
    by_cases h : u < 10
    · rw [if_pos h, decFrom_append [] 0 0 (u % 10) (by omega) rfl]
      congr 1
      omega
    · rw [if_neg h, decFrom_append _ 0 (u / 10) (u % 10) (by omega) (ih (u / 10) (by omega))]
      congr 1
      omega

theorem decNat_digits (u : Nat) : decNat (decDigits u) = some u := by
  unfold decNat
  have : (decDigits u).isEmpty = false := by
    cases h : decDigits u with
    | nil => exact absurd h (decDigits_ne u)
    | cons => rfl
  rw [this, decFrom_digits]
  rfl

theorem head_dig (u : Nat) : ∃ b t, decDigits u = b :: t ∧ isDig b := by
  cases h : decDigits u with
  | nil => exact absurd h (decDigits_ne u)
  | cons b t => exact ⟨b, t, rfl, decDigits_dig u b (by rw [h]; simp)⟩

theorem atoi_itoa (n : Int) : atoi (itoa n) = some n := by
  unfold itoa
  by_cases h : n < 0
  · rw [if_pos h]
    simp only [atoi, beq_self_eq_true, if_true, decNat_digits, Option.map_some]
    congr 1
    omega
  · rw [if_neg h]
    obtain ⟨b, t, hb, hd⟩ := head_dig n.toNat
    have h1 : (b == 45) = false := by
      rw [beq_eq_false_iff_ne]; rintro rfl; exact absurd hd (by decide)
    have h2 : (b == 43) = false := by
      rw [beq_eq_false_iff_ne]; rintro rfl; exact absurd hd (by decide)
    rw [hb]
    simp only [atoi, h1, h2]
    rw [← hb, decNat_digits]
    simp
    omega

theorem itoa_inj {a b : Int} (h : itoa a = itoa b) : a = b := by
  have h1 := atoi_itoa a
  rw [h, atoi_itoa] at h1
  injection h1 with h1
  exact h1.symm

/-- What ReadDec answers at a text. -/
def IsRD (l : List UInt8) (r : Int × Bool) : Prop :=
  (∃ n : Int, -1000000000 < n ∧ n < 1000000000 ∧ itoa n = l ∧ r = (n, true)) ∨ ((∀ n : Int, -1000000000 < n → n < 1000000000 → itoa n ≠ l) ∧ r = (0, false))

theorem IsRD.same {l : List UInt8} {r r' : Int × Bool} (h : IsRD l r) (h' : IsRD l r') : r = r' := by
  rcases h with ⟨n, h0, h1, h2, rfl⟩ | ⟨h, rfl⟩
  · rcases h' with ⟨m, k0, k1, k2, rfl⟩ | ⟨h', rfl⟩
    · rw [itoa_inj (h2.trans k2.symm)]
    · exact absurd h2 (h' n h0 h1)
  · rcases h' with ⟨m, k0, k1, k2, rfl⟩ | ⟨h', rfl⟩
    · exact absurd k2 (h m k0 k1)
    · rfl

/-- The digits of a number within nine, and their sum. -/
theorem itoa_len (n : Int) (h0 : -1000000000 < n) (h1 : n < 1000000000) : (itoa n).length ≤ 10 ∧ (itoa n ≠ []) := by
  have key : ∀ u : Nat, u < 1000000000 → (decDigits u).length ≤ 9 := fun u hu => (decDigits_len 8 u).mpr (by simpa using hu)
  unfold itoa
  by_cases h : n < 0
  · rw [if_pos h]
    have := key n.natAbs (by omega)
    exact ⟨by simp; omega, by simp⟩
  · rw [if_neg h]
    have := key n.toNat (by omega)
    exact ⟨by omega, decDigits_ne _⟩

/-- One step of the reference's loop: a digit counts, another byte doesn't. -/
def rdStep (x : Nat × Nat) (b : UInt8) : Nat × Nat := if 48 ≤ b.toNat ∧ b.toNat ≤ 57 then (x.1 * 10 + (b.toNat - 48), x.2 + 1) else x

theorem rd_append (l : List UInt8) (x : Nat × Nat) (b : UInt8) : (l ++ [b]).foldl rdStep x = rdStep (l.foldl rdStep x) b := by simp

theorem rd_digits (u : Nat) : (decDigits u).foldl rdStep (0, 0) = (u, (decDigits u).length) := by
  induction u using Nat.strongRecOn with
  | _ u ih =>
    rw [decDigits_rec, rd_append]
    have e : ∀ x : Nat × Nat, rdStep x (UInt8.ofNat (48 + u % 10)) = (x.1 * 10 + u % 10, x.2 + 1) := by
      intro x
      unfold rdStep
      rw [digit_toNat _ (by omega), if_pos (by omega)]
      congr 2
      omega
    rw [e]
    by_cases h : u < 10
    · rw [if_pos h]
      simp
      omega
    · rw [if_neg h, ih (u / 10) (by omega), List.length_append]
      simp
      omega

theorem rd_itoa (n : Int) : (itoa n).foldl rdStep (0, 0) = (n.natAbs, (decDigits n.natAbs).length) := by
  unfold itoa
  by_cases h : n < 0
  · rw [if_pos h, List.foldl_cons]
    have : rdStep (0, 0) 45 = (0, 0) := by decide
    rw [this, rd_digits]
  · rw [if_neg h, rd_digits, show n.toNat = n.natAbs from by omega]

theorem rd_lt (l : List UInt8) : ∀ x : Nat × Nat, x.1 < 10 ^ x.2 → (l.foldl rdStep x).1 < 10 ^ (l.foldl rdStep x).2 := by
  induction l with
  | nil => intro x h; exact h
  | cons b l ih =>
    intro x h
    rw [List.foldl_cons]
    refine ih _ ?_
    unfold rdStep
    by_cases hb : 48 ≤ b.toNat ∧ b.toNat ≤ 57
    · rw [if_pos hb]
      show x.1 * 10 + (b.toNat - 48) < 10 ^ (x.2 + 1)
      rw [Nat.pow_succ]
      omega
    · rw [if_neg hb]; exact h

theorem rd_count (l : List UInt8) : ∀ x : Nat × Nat, (l.foldl rdStep x).2 ≤ x.2 + l.length := by
  induction l with
  | nil => intro x; simp
  | cons b l ih =>
    intro x
    rw [List.foldl_cons, List.length_cons]
    refine Nat.le_trans (ih _) ?_
    unfold rdStep
    split
    · show x.2 + 1 + l.length ≤ _; omega
    · omega

/-- A minus ahead, as the head tells. -/
theorem itoa_head (n : Int) : (∃ t, itoa n = 45 :: t) ↔ n < 0 := by
  unfold itoa
  by_cases h : n < 0
  · rw [if_pos h]; exact ⟨fun _ => h, fun _ => ⟨_, rfl⟩⟩
  · rw [if_neg h]
    constructor
    · rintro ⟨t, ht⟩
      obtain ⟨b, t', hb, hd⟩ := head_dig n.toNat
      rw [ht] at hb
      injection hb with hb _
      rw [← hb] at hd
      exact absurd hd (by decide)
    · intro h2; exact absurd h2 h


theorem beq_dec (a b : List UInt8) : (a == b) = decide (a = b) := by
  by_cases h : a = b <;> simp [h]
/-- The text of these bytes. -/
def str (l : List UInt8) : ByteArray := ⟨l.toArray⟩
theorem str_size (l : List UInt8) : (str l).size = l.length := by simp [str, ByteArray.size]
theorem str_append (l m : List UInt8) : str l ++ str m = str (l ++ m) := by
  apply ByteArray.ext
  simp [str]
theorem str_data (s : ByteArray) : str s.data.toList = s := by cases s; simp [str]
theorem str_inj {l m : List UInt8} : str l = str m ↔ l = m := by
  constructor
  · intro h
    have := congrArg (fun s : ByteArray => s.data.toList) h
    simpa [str] using this
  · rintro rfl; rfl
theorem str_eq (l : List UInt8) (s : ByteArray) : str l = s ↔ l = s.data.toList := by
  constructor
  · rintro rfl; simp [str]
  · rintro rfl; exact str_data s

def dd (c : Nat) (l : List UInt8) : List UInt8 := if c = 0 then l else decDigits c ++ l
theorem dd_step (c : Nat) (l : List UInt8) (h : c ≠ 0) : dd c l = dd (c / 10) (UInt8.ofNat (48 + c % 10) :: l) := by
  unfold dd
  rw [if_neg h, decDigits_rec]
  by_cases h2 : c < 10
  · rw [if_pos h2, if_pos (by omega)]; rfl
  · rw [if_neg h2, if_neg (by omega), List.append_assoc]; rfl

theorem take_succ' (s : ByteArray) (i : Nat) (h : i < s.size) : s.data.toList.take (i + 1) = s.data.toList.take i ++ [s.data.toList[i]'(by rw [Array.length_toList]; exact h)] := by
  rw [List.take_succ_eq_append_getElem]

/-- The value and the count behind so many bytes. -/
def rdAt (s : ByteArray) (i : Nat) : Nat × Nat := (s.data.toList.take i).foldl rdStep (0, 0)
theorem rdAt_count (s : ByteArray) (i : Nat) : (rdAt s i).2 ≤ i := by
  have := rd_count (s.data.toList.take i) (0, 0)
  have h2 : (s.data.toList.take i).length ≤ i := List.length_take_le _ _
  unfold rdAt
  simp at this
  omega
theorem rdAt_lt (s : ByteArray) (i : Nat) (h : i ≤ 11) : (rdAt s i).1 < 100000000000 := by
  have h1 := rd_lt (s.data.toList.take i) (0, 0) (by decide)
  have h2 := rdAt_count s i
  unfold rdAt at h2 ⊢
  exact Nat.lt_of_lt_of_le h1 (Nat.pow_le_pow_right (by decide) (Nat.le_trans h2 h))

/-- The end of the reference's reading. -/
def rdEnd (s : ByteArray) (x : Nat × Nat) : Int × Bool :=
  if (x.2 : Int) > 9 then (0, false) else if (s.size : Int) > 10 then (0, false) else
    if itoa (if s.data.toList.head? = some 45 then -(x.1 : Int) else x.1) = s.data.toList then ((if s.data.toList.head? = some 45 then -(x.1 : Int) else (x.1 : Int)), true) else (0, false)

theorem rdEnd_is (s : ByteArray) : IsRD s.data.toList (rdEnd s (rdAt s (min s.size 11))) := by
  have hsz : s.data.toList.length = s.size := Array.length_toList
  have hc := rdAt_lt s (min s.size 11) (by omega)
  have hp := rd_lt (s.data.toList.take (min s.size 11)) (0, 0) (by decide)
  have hrd : (s.data.toList.take (min s.size 11)).foldl rdStep (0, 0) = rdAt s (min s.size 11) := rfl
  rw [hrd] at hp
  by_cases hex : ∃ n : Int, -1000000000 < n ∧ n < 1000000000 ∧ itoa n = s.data.toList
  · obtain ⟨n, h0, h1, h2⟩ := hex
    refine .inl ⟨n, h0, h1, h2, ?_⟩
    have hl := (itoa_len n h0 h1).1
    rw [h2, hsz] at hl
    have hm : min s.size 11 = s.size := by omega
    have e : rdAt s (min s.size 11) = (n.natAbs, (decDigits n.natAbs).length) := by
      rw [hm]
      unfold rdAt
      rw [List.take_of_length_le (by omega), ← h2, rd_itoa]
    have hd : (decDigits n.natAbs).length ≤ 9 := (decDigits_len 8 _).mpr (by omega)
    rw [e]
    unfold rdEnd
    rw [if_neg (by show ¬ (((decDigits n.natAbs).length : Int) > 9); omega), if_neg (by omega)]
    have hsgn : (if s.data.toList.head? = some 45 then -((n.natAbs : Nat) : Int) else ((n.natAbs : Nat) : Int)) = n := by
      by_cases hn : n < 0
      · obtain ⟨t, ht⟩ := (itoa_head n).mpr hn
        rw [← h2, ht]
        simp
        omega
      · have : ¬ s.data.toList.head? = some 45 := by
          intro hh
          apply hn
          apply (itoa_head n).mp
          rw [h2]
          cases hlst : s.data.toList with
          | nil => rw [hlst] at hh; cases hh
          | cons b t => rw [hlst] at hh; simp at hh; exact ⟨t, by rw [hh]⟩
        rw [if_neg this]
        omega
    show (if itoa (if s.data.toList.head? = some 45 then -((n.natAbs : Nat) : Int) else ((n.natAbs : Nat) : Int)) = s.data.toList then ((if s.data.toList.head? = some 45 then -((n.natAbs : Nat) : Int) else ((n.natAbs : Nat) : Int)), true) else (0, false)) = (n, true)
    rw [hsgn, if_pos h2]
  · refine .inr ⟨fun n h0 h1 h2 => hex ⟨n, h0, h1, h2⟩, ?_⟩
    unfold rdEnd
    by_cases c1 : ((rdAt s (min s.size 11)).2 : Int) > 9
    · rw [if_pos c1]
    · rw [if_neg c1]
      by_cases c2 : (s.size : Int) > 10
      · rw [if_pos c2]
      · rw [if_neg c2]
        have hb : (rdAt s (min s.size 11)).1 < 1000000000 := Nat.lt_of_lt_of_le hp (Nat.pow_le_pow_right (by decide) (show (rdAt s (min s.size 11)).2 ≤ 9 by omega))
        rw [if_neg]
        intro hh
        refine hex ⟨_, ?_, ?_, hh⟩
        · split <;> omega
        · split <;> omega


open Classical in
/-- What ReadDec tells. -/
noncomputable def rd (s : ByteArray) : Int × Bool := if h : ∃ n : Int, -1000000000 < n ∧ n < 1000000000 ∧ itoa n = s.data.toList then (h.choose, true) else (0, false)
theorem rd_is (s : ByteArray) : IsRD s.data.toList (rd s) := by
  unfold rd
  by_cases h : ∃ n : Int, -1000000000 < n ∧ n < 1000000000 ∧ itoa n = s.data.toList
  · rw [dif_pos h]
    exact .inl ⟨h.choose, h.choose_spec.1, h.choose_spec.2.1, h.choose_spec.2.2, rfl⟩
  · rw [dif_neg h]
    exact .inr ⟨fun n h0 h1 h2 => h ⟨n, h0, h1, h2⟩, rfl⟩
theorem rdEnd_rd (s : ByteArray) : rdEnd s (rdAt s (min s.size 11)) = rd s := (rdEnd_is s).same (rd_is s)
theorem rd_range (s : ByteArray) : -1000000000 < (rd s).1 ∧ (rd s).1 < 1000000000 := by
  rcases rd_is s with ⟨n, h0, h1, _, h⟩ | ⟨_, h⟩ <;> rw [h]
  · exact ⟨h0, h1⟩
  · exact ⟨by decide, by decide⟩
theorem contains_cons (b : UInt8) (l sub : List UInt8) : Lib.contains (b :: l) sub = (sub.isPrefixOf (b :: l) || Lib.contains l sub) := by
  unfold Lib.contains
  rw [Lib.index]
  have := Lib.index_ge l sub
  by_cases h : sub.isPrefixOf (b :: l) = true
  · simp [h]
  · simp only [h, Bool.false_or]
    by_cases h2 : (Lib.index l sub == -1) = true
    · have h3 : Lib.index l sub = -1 := by simpa using h2
      simp [h3]
    · have h3 : Lib.index l sub ≠ -1 := by simpa using h2
      simp only [h2]
      have a1 : decide (0 ≤ Lib.index l sub + 1) = true := by simp; omega
      have a2 : decide (0 ≤ Lib.index l sub) = true := by simp; omega
      simp [a1, a2]

theorem contains_nil (sub : List UInt8) : Lib.contains [] sub = sub.isEmpty := by
  unfold Lib.contains
  rw [Lib.index]
  cases sub <;> simp

/-- Words, each with a blank ahead, and a blank behind all. -/
def joinT : List (List UInt8) → List UInt8
  | [] => [32]
  | v :: ws => 32 :: (v ++ joinT ws)

theorem joinT_head (ws : List (List UInt8)) : ∃ t, joinT ws = 32 :: t := by
  cases ws with
  | nil => exact ⟨[], rfl⟩
  | cons v ws => exact ⟨v ++ joinT ws, rfl⟩

/-- Up to the first blank two words are alike or not. -/
theorem prefix_word : ∀ (w v t : List UInt8), (32 : UInt8) ∉ w → (32 : UInt8) ∉ v → ((w ++ [32]).isPrefixOf (v ++ 32 :: t) = true ↔ w = v)
  | [], [], t, _, _ => by simp [List.isPrefixOf]
  | [], b :: v, t, _, hv => by
    simp only [List.mem_cons, not_or] at hv
    simp [List.isPrefixOf, hv.1]
  | a :: w, [], t, hw, _ => by
    simp only [List.mem_cons, not_or] at hw
    simp [List.isPrefixOf, Ne.symm hw.1]
  | a :: w, b :: v, t, hw, hv => by
    simp only [List.mem_cons, not_or] at hw hv
    have ih := prefix_word w v t hw.2 hv.2
    simp only [List.cons_append, List.isPrefixOf, Bool.and_eq_true, beq_iff_eq, List.cons.injEq]
    rw [ih]

theorem contains_skip (w : List UInt8) : ∀ (v t : List UInt8), (32 : UInt8) ∉ v → Lib.contains (v ++ t) (32 :: (w ++ [32])) = Lib.contains t (32 :: (w ++ [32]))
  | [], t, _ => rfl
  | b :: v, t, hv => by
    simp only [List.mem_cons, not_or] at hv
    rw [List.cons_append, contains_cons, contains_skip w v t hv.2]
    simp [List.isPrefixOf, hv.1]

theorem contains_joinT (w : List UInt8) (hw : (32 : UInt8) ∉ w) : ∀ ws : List (List UInt8), (∀ v ∈ ws, (32 : UInt8) ∉ v) → (Lib.contains (joinT ws) (32 :: (w ++ [32])) = true ↔ w ∈ ws)
  | [], _ => by
    rw [joinT, contains_cons, contains_nil]
    cases w <;> simp [List.isPrefixOf]
  | v :: ws, hws => by
    have ih := contains_joinT w hw ws (fun x hx => hws x (by simp [hx]))
    have hv := hws v (by simp)
    obtain ⟨t, ht⟩ := joinT_head ws
    rw [joinT, contains_cons, contains_skip w v _ hv, Bool.or_eq_true, ih, List.mem_cons]
    have : ((32 :: (w ++ [32])).isPrefixOf (32 :: (v ++ joinT ws)) = true ↔ w = v) := by
      rw [List.isPrefixOf, ht]
      simp only [beq_self_eq_true, Bool.true_and]
      exact prefix_word w v t hw hv
    rw [this]

theorem contains_blank (w : List UInt8) : Lib.contains w [32] = true ↔ (32 : UInt8) ∈ w := by
  induction w with
  | nil => rw [contains_nil]; simp
  | cons b w ih =>
    rw [contains_cons, Bool.or_eq_true, ih, List.mem_cons]
    simp [List.isPrefixOf]

/-- What isOneOf answers: is it one of the words? -/
theorem oneOf (w row : List UInt8) (ws : List (List UInt8)) (hrow : 32 :: (row ++ [32]) = joinT ws) (hws : ∀ v ∈ ws, (32 : UInt8) ∉ v ∧ v ≠ []) :
    ((!(w == [])) && (!(Lib.contains w [32]) && Lib.contains (32 :: (row ++ [32])) (32 :: (w ++ [32])))) = decide (w ∈ ws) := by
  rw [Bool.eq_iff_iff, decide_eq_true_iff, Bool.and_eq_true, Bool.and_eq_true, hrow]
  constructor
  · intro ⟨_, h2, h3⟩
    have hn : (32 : UInt8) ∉ w := fun h => by
      rw [(contains_blank w).mpr h] at h2
      cases h2
    exact (contains_joinT w hn ws (fun v hv => (hws v hv).1)).mp h3
  · intro h
    have hn := (hws w h).1
    refine ⟨by have := (hws w h).2; simpa using this, ?_, (contains_joinT w hn ws (fun v hv => (hws v hv).1)).mpr h⟩
    cases hc : Lib.contains w [32] with
    | false => rfl
    | true => exact absurd ((contains_blank w).mp hc) hn


end Go.VS

/- Signs, symbols, words, names: what is asked of a text. -/
namespace Go.VS
open Go Go.RowKit Go.Lib
set_option linter.unusedSimpArgs false
set_option linter.unusedVariables false
def signs : List UInt8 := [33, 63, 42, 47, 60, 61, 62, 43, 45, 95]
/-- A sign that a symbol may hold. -/
def sign (b : UInt8) : Bool := decide (97 ≤ b.toNat ∧ b.toNat ≤ 122) || decide (48 ≤ b.toNat ∧ b.toNat ≤ 57) || decide (b ∈ signs)
def digit (b : UInt8) : Bool := decide (48 ≤ b.toNat ∧ b.toNat ≤ 57)
/-- Is it a symbol? -/
noncomputable def sym (s : ByteArray) : Bool := s.data.toList.all sign && (decide (1 ≤ s.size ∧ s.size ≤ 16) && (!(digit (s.data.toList.headD 0)) && !(rd s).2))
theorem sym_size {s : ByteArray} (h : sym s = true) : s.size ≤ 16 := by
  unfold sym at h
  simp at h
  exact h.2.1.2
theorem idx_signs (b : UInt8) : (0 ≤ Lib.indexByte [33, 63, 42, 47, 60, 61, 62, 43, 45, 95] b) ↔ b ∈ signs := by
  have h := contains_iff_indexByte signs b
  rw [List.contains_eq_mem] at h
  exact (decide_eq_decide.mp h).symm
instance decMem (s : ByteArray) : (l : List ByteArray) → Decidable (s ∈ l)
  | [] => isFalse (by simp)
  | x :: l => if h : s = x then isTrue (by simp [h]) else match decMem s l with
    | isTrue h2 => isTrue (by simp [h2])
    | isFalse h2 => isFalse (by simp [h, h2])
def twos : List ByteArray := [⟨#[43]⟩, ⟨#[45]⟩, ⟨#[42]⟩, ⟨#[60]⟩, ⟨#[61]⟩, ⟨#[101, 113, 63]⟩, ⟨#[99, 111, 110, 115]⟩]
def ones : List ByteArray := [⟨#[99, 97, 114]⟩, ⟨#[99, 100, 114]⟩, ⟨#[110, 117, 108, 108, 63]⟩, ⟨#[112, 97, 105, 114, 63]⟩, ⟨#[110, 111, 116]⟩, ⟨#[112, 114, 105, 110, 116]⟩, ⟨#[101, 114, 114, 111, 114]⟩, ⟨#[102, 105, 101, 108, 100]⟩, ⟨#[105, 115]⟩]
def words : List ByteArray := [⟨#[113, 117, 111, 116, 101]⟩, ⟨#[105, 102]⟩, ⟨#[108, 97, 109, 98, 100, 97]⟩, ⟨#[98, 101, 103, 105, 110]⟩, ⟨#[115, 101, 116, 33]⟩, ⟨#[108, 101, 116]⟩, ⟨#[108, 101, 116, 42]⟩, ⟨#[99, 111, 110, 100]⟩, ⟨#[101, 108, 115, 101]⟩, ⟨#[97, 110, 100]⟩, ⟨#[111, 114]⟩, ⟨#[119, 104, 101, 110]⟩, ⟨#[100, 101, 102, 105, 110, 101]⟩]
/-- How many arguments a primitive takes. -/
def ar (s : ByteArray) : Int := if s ∈ twos then 2 else if s ∈ ones then 1 else if s = ⟨#[109, 97, 107, 101]⟩ then 0 else -1
theorem ar_cases (s : ByteArray) : ar s = 2 ∨ ar s = 1 ∨ ar s = 0 ∨ ar s = -1 := by
  unfold ar
  split
  · exact .inl rfl
  · split
    · exact .inr (.inl rfl)
    · split
      · exact .inr (.inr (.inl rfl))
      · exact .inr (.inr (.inr rfl))
theorem data_inj {a b : ByteArray} : a.data.toList = b.data.toList ↔ a = b := by
  rw [← ByteArray.toList_eq, ← ByteArray.toList_eq, toList_injE]
theorem spaced (s : ByteArray) : ((⟨#[32]⟩ : ByteArray) ++ s ++ ⟨#[32]⟩).data.toList = 32 :: (s.data.toList ++ [32]) := by
  rw [ByteArray.data_append, ByteArray.data_append, Array.toList_append, Array.toList_append]
  rfl
theorem oneOf_is (a row : ByteArray) (ws : List ByteArray) (hrow : 32 :: (row.data.toList ++ [32]) = joinT (ws.map fun w => w.data.toList)) (hws : ∀ v ∈ ws, (32 : UInt8) ∉ v.data.toList ∧ v.data.toList ≠ []) :
    (¬ a = ⟨#[]⟩ ∧ Lib.contains a.data.toList [32] = false ∧ Lib.contains ((⟨#[32]⟩ : ByteArray) ++ row ++ ⟨#[32]⟩).data.toList ((⟨#[32]⟩ : ByteArray) ++ a ++ ⟨#[32]⟩).data.toList = true) ↔ a ∈ ws := by
  have h := oneOf a.data.toList row.data.toList (ws.map fun w => w.data.toList) hrow (fun v hv => by
    obtain ⟨w, hw, rfl⟩ := List.mem_map.1 hv
    exact hws w hw)
  have e : a.data.toList ∈ (ws.map fun w => w.data.toList) ↔ a ∈ ws := by
    rw [List.mem_map]
    exact ⟨fun ⟨w, hw, he⟩ => data_inj.1 he ▸ hw, fun h => ⟨a, h, rfl⟩⟩
  rw [spaced, spaced, ← e, ← decide_eq_true_iff (p := a.data.toList ∈ _), ← h]
  have e2 : (a.data.toList = []) ↔ a = ⟨#[]⟩ := by
    rw [← data_inj]
  rw [← e2]
  cases Lib.contains a.data.toList [32] <;> simp
/-- Is it a name? -/
noncomputable def isName (s : ByteArray) : Bool := decide (s = ⟨#[37, 116]⟩) || (sym s && (!decide (s ∈ words) && decide (ar s < 0)))
theorem isName_size {s : ByteArray} (h : isName s = true) : s.size ≤ 16 := by
  unfold isName at h
  simp only [Bool.or_eq_true, Bool.and_eq_true, decide_eq_true_eq] at h
  rcases h with rfl | h
  · decide
  · exact sym_size h.1
end Go.VS
