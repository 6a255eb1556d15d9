/- Functions: what the evaluator answers is what the model's function answers. -/
import Derived.Test.YtdoelepflcaijaaEngCode
namespace Go.VS
open Go Go.RowKit
set_option linter.unusedSimpArgs false
set_option linter.unusedVariables false

variable {P : Program} {arg : Tmp → Value} {W w w' : World} {I I' : Nat → Prop} {O O' : Tmp → Nat → Prop} {s s' : RS} {Q : Ending → World → Prop} {G : Sigs} {F : Fns} {pm : Tmp → Bool}

def compRes (P : Program) : ResultVar → Option RX
  | .tmp t => some (.tmp t)
  | .cell a t => match sizeB P t, aggB P t with
    | some n, some g => if g = true ∨ n = 1 then some (.cell a n g) else none
    | _, _ => none

def CV.plain : CV → Bool
  | .pbox _ _ => false
  | _ => true
theorem RepC.any {c : CV} {v : Value} {S : Nat → Prop} {arg' : Tmp → Value} (h : RepC arg w I c v S) (hp : c.plain = true) : RepC arg' w I c v S := by
  cases c with
  | pbox => cases hp
  | _ => exact h

theorem take_plain {x : Tmp} {c : CV} (h : s.take (.t x) = some (c, s')) : c.plain = true := by
  simp only [RS.take] at h
  split at h
  · cases h
  · cases h
  · rename_i c0 h1 h2 hav
    have : c0.plain = true := by cases c0 <;> first | rfl | exact absurd rfl (h1 _ _)
    split at h <;> simp only [Option.some.injEq, Prod.mk.injEq] at h <;> (rw [← h.1]; exact this)
  · split at h
    · rename_i c1 hl
      have hp : c1.plain = true := by
        simp only [RS.look] at hl
        split at hl
        · split at hl
          · unfold cellsOf at hl
            repeat' split at hl
            all_goals first | (obtain rfl := (Option.some.inj hl).symm; rfl) | cases hl
          · cases hl
        · cases hl
      split at h
      · simp only [Option.some.injEq, Prod.mk.injEq] at h
        rw [← h.1]; exact hp
      · split at h
        · simp only [Option.some.injEq, Prod.mk.injEq] at h
          rw [← h.1]; exact hp
        · cases h
    · cases h
  · cases h

/-- The value of a result variable. -/
def resVal (P : Program) (w : World) (tmps : Array Value) (rv : ResultVar) : Value :=
  match ((match rv with | .tmp t => pure (tmps.getD t undef) | .cell a t => do loadVar t (← asAddr (tmps.getD a undef)) : Sem Value)).run P w with
  | .ok v _ => v
  | _ => undef
def resRun (tmps : Array Value) (rv : ResultVar) : Sem Value := match rv with | .tmp t => pure (tmps.getD t undef) | .cell a t => do loadVar t (← asAddr (tmps.getD a undef))

theorem results_sound {vs : Array Value} : ∀ (rvs : List ResultVar) (rs : List RX) (cs : List CV) (O : Tmp → Nat → Prop) (s s' : RS), rvs.mapM (compRes P) = some rs → Rel arg W I O s vs w → s.results rs = some (cs, s') →
    ∃ (O' : Tmp → Nat → Prop) (D : Nat → Nat → Prop), Rel arg W I O' s' vs w ∧ cs.length = rvs.length ∧ (∀ rv ∈ rvs, (resRun vs rv).run P w = .ok (resVal P w vs rv) w) ∧ (∀ j b, D j b → ∃ t, O t b) ∧ (∀ t b, O' t b → O t b) ∧ (∀ t b, O' t b → ∀ j, ¬ D j b) ∧ (∀ j j' b, D j b → D j' b → j = j') ∧
      ∀ (j : Nat) c, cs[j]? = some c → ∃ rv, rvs[j]? = some rv ∧ c.plain = true ∧ RepC arg w I c (resVal P w vs rv) (D j)
  | [], rs, cs, O, s, s', hm, h, hr => by
    simp at hm
    subst hm
    simp only [RS.results, Option.some.injEq, Prod.mk.injEq] at hr
    obtain ⟨rfl, rfl⟩ := hr
    exact ⟨O, fun _ _ => False, h, rfl, fun rv h => by simp at h, fun _ _ h => h.elim, fun _ _ h => h, fun _ _ _ _ h => h, fun _ _ _ h => h.elim, fun j c h => by simp at h⟩
  | rv :: rvs, rs, cs, O, s, s', hm, h, hr => by
    obtain ⟨r, rs', h1, h2, rfl⟩ := mapM_cons_some hm
    -- the first result
    have first : ∃ c s1 S O1 cs', cs = c :: cs' ∧ s1.results rs' = some (cs', s') ∧ c.plain = true ∧ RepC arg w I c (resVal P w vs rv) S ∧ Rel arg W I O1 s1 vs w ∧ Out O O1 S ∧ (resRun vs rv).run P w = .ok (resVal P w vs rv) w := by
      cases rv with
      | tmp t =>
        simp only [compRes, Option.some.injEq] at h1
        subst h1
        simp only [RS.results] at hr
        split at hr
        · rename_i c s1 ht
          split at hr
          · rename_i cs' s2 h3
            simp only [Option.some.injEq, Prod.mk.injEq] at hr
            obtain ⟨rfl, rfl⟩ := hr
            obtain ⟨S, O1, k1, k2, k3⟩ := h.take (x := .t t) rfl ht
            exact ⟨c, s1, S, O1, cs', rfl, h3, take_plain ht, k1, k2, k3, rfl⟩
          · cases hr
        · cases hr
      | cell ad ty =>
        simp only [compRes] at h1
        split at h1
        · rename_i n g hn hg
          obtain ⟨hng, rfl⟩ := ite_some h1
          simp only [RS.results] at hr
          split at hr
          · rename_i row hav
            split at hr
            · rename_i hlen
              split at hr
              · rename_i c hc
                split at hr
                · rename_i cs' s2 h3
                  simp only [Option.some.injEq, Prod.mk.injEq] at hr
                  obtain ⟨rfl, rfl⟩ := hr
                  have hrep := h.rep ad
                  rw [hav] at hrep
                  obtain ⟨b, cells, e, hv, q1, q2, q3, q4⟩ := hrep
                  have hcell : ∀ j, w.cell? ⟨b, 0 + j, none⟩ = cells[j]? := fun j => by simp only [World.cell?, q2, Nat.zero_add]; rfl
                  obtain ⟨u, hu, hl⟩ := run_loadVar_at (P := P) (w := w) hn hg hng b 0 fun j hj => by
                    obtain ⟨v, hv', _⟩ := row_cells q4 (j := j) (by omega)
                    exact ⟨v, by rw [hcell]; exact hv'⟩
                  have hrun : (resRun vs (.cell ad ty)).run P w = .ok u w := by
                    simp only [resRun, hv, asAddr, Sem.run_bind, Sem.run_pure, Result.andThen_ok, hu]
                  have hval : resVal P w vs (.cell ad ty) = u := by
                    have : resVal P w vs (.cell ad ty) = (match (resRun vs (.cell ad ty)).run P w with | .ok v _ => v | _ => undef) := rfl
                    rw [this, hrun]
                  rw [hval]
                  have hfun : (fun j => w.cell? ⟨b, 0 + j, none⟩) = fun j => cells[j]? := funext hcell
                  have hl' : Loaded (fun j => cells[j]?) 0 n g u := by rw [← hfun]; exact hl
                  have hplain : c.plain = true := by
                    unfold cellsOf at hc
                    repeat' split at hc
                    all_goals first | (obtain rfl := (Option.some.inj hc).symm; rfl) | cases hc
                  refine ⟨c, s.put ad .bad, fun x => O ad x ∧ x ≠ b, _, cs', rfl, h3, hplain, cells_rep (arg := arg) q4 hc hl', h.strike ad .bad rfl, ⟨fun x hx => ⟨ad, hx.1⟩, fun t x hx => ?_, fun t x hx hx' => ?_⟩, hrun⟩
                  · by_cases ht : t = ad
                    · simp only [ht, if_true] at hx
                    · simp only [ht, if_false] at hx; exact hx
                  · by_cases ht : t = ad
                    · simp only [ht, if_true] at hx
                    · simp only [ht, if_false] at hx; exact ht (h.disj t ad x hx hx'.1)
                · cases hr
              · cases hr
            · cases hr
          · cases hr
        · cases h1
    obtain ⟨c, s1, S, O1, cs', rfl, h3, hpl, hrep, hrel, hout, hrun⟩ := first
    obtain ⟨O', D, k1, k2, k3, k4, k5, k6, k7, k8⟩ := results_sound rvs rs' cs' O1 s1 s' h2 hrel h3
    refine ⟨O', fun j b => match j with | 0 => S b | j + 1 => D j b, k1, by simp [k2], fun rv' hm' => ?_, fun j b hb => ?_, fun t b hb => hout.2.1 t b (k5 t b hb), fun t b hb j hj => ?_, fun j j' b hb hb' => ?_, fun j c' hj => ?_⟩
    · rcases List.mem_cons.1 hm' with rfl | hm'
      · exact hrun
      · exact k3 rv' hm'
    · cases j with
      | zero => exact hout.1 b hb
      | succ j => obtain ⟨t, ht⟩ := k4 j b hb; exact ⟨t, hout.2.1 t b ht⟩
    · cases j with
      | zero => exact hout.2.2 t b (k5 t b hb) hj
      | succ j => exact k6 t b hb j hj
    · have hno : ∀ j, S b → ¬ D j b := fun j hS hD => by obtain ⟨t, ht⟩ := k4 j b hD; exact hout.2.2 t b ht hS
      cases j with
      | zero => cases j' with
        | zero => rfl
        | succ j' => exact absurd hb' (hno j' hb)
      | succ j => cases j' with
        | zero => exact absurd hb (hno j hb')
        | succ j' => rw [k7 j j' b hb hb']
    · cases j with
      | zero => simp at hj; subst hj; exact ⟨rv, rfl, hpl, hrep⟩
      | succ j => simpa using k8 j c' (by simpa using hj)

/-- The slots where the arguments that were lent lie at the end. -/
theorem boxOf_some {E : Env} {i : Tmp} {row : List L} : ∀ {e : Env}, Env.boxOf E i e = some row → ∃ k, E.get k = .v (.pbox i row)
  | [], h => by cases h
  | (k, _) :: e, h => by
    simp only [Env.boxOf] at h
    split at h
    · rename_i t row' hk
      split at h
      · rename_i ht
        subst ht
        obtain rfl := (Option.some.inj h).symm
        exact ⟨k, hk⟩
      · exact boxOf_some h
    · exact boxOf_some h

theorem outs_get {e : Env} : ∀ (ms : List Mode) (i : Nat) (os : List CV), outs e i ms = some os → ∀ (j : Nat) c, os[j]? = some c → ∃ m, ms[j]? = some m ∧ out e (i + j) m = some c
  | [], i, os, h, j, c, hj => by simp only [outs, Option.some.injEq] at h; subst h; simp at hj
  | m :: ms, i, os, h, j, c, hj => by
    simp only [outs] at h
    split at h
    · rename_i c1 h1
      split at h
      · rename_i os' h2
        obtain rfl := (Option.some.inj h).symm
        cases j with
        | zero => simp at hj; subst hj; exact ⟨m, rfl, h1⟩
        | succ j =>
          obtain ⟨m', k1, k2⟩ := outs_get ms (i + 1) os' h2 j c (by simpa using hj)
          exact ⟨m', by simpa using k1, by rw [← k2]; congr 1; omega⟩
      · cases h
    · cases h

theorem out_sound {vs : Array Value} (h : Rel arg W I O s vs w) {i : Nat} {c : CV} (ho : out s.e i .M = some c) (hv : vs.getD i undef = arg i) :
    c.plain = true ∧ ∃ k, RepC arg w I c (arg i) (O k) ∧ ((k = i ∧ ∀ j row, s.e.get k ≠ .v (.pbox j row)) ∨ ∃ row, s.e.get k = .v (.pbox i row)) := by
  unfold out at ho
  have hr := h.rep i
  simp only at ho
  split at ho
  · rename_i l hav
    obtain rfl := (Option.some.inj ho).symm
    rw [hav] at hr
    exact ⟨rfl, i, hv ▸ hr, .inl ⟨rfl, fun j row he => by rw [hav] at he; cases he⟩⟩
  · rename_i ls hav
    obtain rfl := (Option.some.inj ho).symm
    rw [hav] at hr
    exact ⟨rfl, i, hv ▸ hr, .inl ⟨rfl, fun j row he => by rw [hav] at he; cases he⟩⟩
  · rename_i row hav
    obtain rfl := (Option.some.inj ho).symm
    rw [hav] at hr
    exact ⟨rfl, i, hv ▸ hr, .inl ⟨rfl, fun j row he => by rw [hav] at he; cases he⟩⟩
  · split at ho
    · rename_i row hb
      obtain rfl := (Option.some.inj ho).symm
      obtain ⟨k, hk⟩ := boxOf_some hb
      refine ⟨rfl, k, ?_, .inr ⟨row, hk⟩⟩
      have hrk := h.rep k
      rw [hk] at hrk
      obtain ⟨b, cs, e, _, q1, q2, q3, q4, q5⟩ := hrk
      exact ⟨cs, q5, q3, q4.mono (fun _ h => h) fun x hx => hx.1⟩
    · cases ho
  · cases ho

theorem params_get : ∀ (cs : List CV) (i : Nat) (t : Tmp), (params i cs).get t = if i ≤ t then (match cs[t - i]? with | some c => .v c | none => .bad) else .bad
  | [], i, t => by simp [params, Env.get]
  | c :: cs, i, t => by
    simp only [params, Env.get]
    by_cases h : i = t
    · subst h; simp
    · rw [if_neg h, params_get cs (i + 1) t]
      by_cases h2 : i ≤ t
      · have h1 : i < t := Nat.lt_of_le_of_ne h2 h
        rw [if_pos h2, if_pos (Nat.succ_le_of_lt h1)]
        obtain ⟨k, rfl⟩ := Nat.exists_eq_add_of_lt h1
        have e1 : i + k + 1 - i = k + 1 := by omega
        have e2 : i + k + 1 - (i + 1) = k := by omega
        rw [e1, e2]; simp
      · rw [if_neg h2, if_neg (show ¬ i + 1 ≤ t by omega)]

/-- Function f is turned to vf. -/
def Comp (P : Program) (f : FuncId) (vf : VFn) : Prop :=
  ∃ fn c lv, P.funcs[f]? = some fn ∧ fn.body = some c ∧ compC P (fun t => vf.sig.modes[t]? == some .M) fn.ntmps c lv = some vf.body ∧ fn.results.toList.mapM (compRes P) = some vf.res

/-- A function turned; 'lv' tells the slots that are kept. -/
def compFn (P : Program) (g : Sig) (lv : VC) (fn : Func) : Option VFn :=
  match fn.body, fn.results.toList.mapM (compRes P) with
  | some c, some rs => (compC P (fun t => g.modes[t]? == some .M) fn.ntmps c lv).map fun b => ⟨g, b, rs⟩
  | _, _ => none
theorem compFn_comp {f : FuncId} {fn : Func} {g : Sig} {vf : VFn} (hf : P.funcs[f]? = some fn) {lv : VC} (h : compFn P g lv fn = some vf) : Comp P f vf ∧ vf.sig = g := by
  unfold compFn at h
  split at h
  · rename_i c rs hb hr
    obtain ⟨b, h1, rfl⟩ := map_some h
    exact ⟨⟨fn, c, _, hf, hb, h1, hr⟩, rfl⟩
  · cases h

theorem fn_sound {f : FuncId} {vf : VFn} {n : Nat} {cs res os : List CV} (hc : Comp P f vf) (hK : Knows P W G F) (hv : vfn G F n vf cs = some (res, os)) :
    Answers P W f cs res os ∧ (vf.sig.own = true → res.all CV.free = true ∧ os.all CV.free = true) := by
  obtain ⟨fn, c, lv, hf, hb, hcomp, hres⟩ := hc
  have core : ∃ x e s2, ex G F n vf.body (params 0 cs) = some (x, e) ∧ (x = .normal ∨ x = .ret) ∧ (RS.mk e []).results vf.res = some (res, s2) ∧ outs s2.e 0 vf.sig.modes = some os ∧ (vf.sig.own = false ∨ (res.all CV.free = true ∧ os.all CV.free = true)) := by
    have tail : ∀ e, (match (RS.mk e []).results vf.res with | some (cs, s) => (match outs s.e 0 vf.sig.modes with | some os => if vf.sig.own = false ∨ (cs.all CV.free ∧ os.all CV.free) then some (cs, os) else none | none => none) | none => none) = some (res, os) →
        ∃ s2, (RS.mk e []).results vf.res = some (res, s2) ∧ outs s2.e 0 vf.sig.modes = some os ∧ (vf.sig.own = false ∨ (res.all CV.free = true ∧ os.all CV.free = true)) := by
      intro e he
      split at he
      · rename_i cs1 s1 h1
        split at he
        · rename_i os1 h2
          obtain ⟨h3, he⟩ := ite_some he
          simp only [Prod.mk.injEq] at he
          obtain ⟨rfl, rfl⟩ := he
          exact ⟨s1, h1, h2, h3⟩
        · cases he
      · cases he
    unfold vfn at hv
    split at hv
    · rename_i e he
      obtain ⟨s2, k⟩ := tail e hv
      exact ⟨_, e, s2, he, .inl rfl, k⟩
    · rename_i e he
      obtain ⟨s2, k⟩ := tail e hv
      exact ⟨_, e, s2, he, .inr rfl, k⟩
    · cases hv
  obtain ⟨x, e, s2, hex, hx, hrs, hos, hown⟩ := core
  refine ⟨?_, fun ho => hown.resolve_left (by simp [ho])⟩
  intro w I A us Q hbel hold hilt hlen hA hAd hrep hQ
  refine calls_of_wp hf hb ?_
  let a0 : Act := { tmps := us ++ Array.replicate (fn.ntmps - us.size) undef, defers := [] }
  have hget : ∀ t, a0.tmps.getD t undef = us.getD t undef := by
    intro t
    simp only [a0, Array.getD_eq_getD_getElem?, Array.getElem?_append, Array.getElem?_replicate]
    split
    · rfl
    · rename_i h
      rw [Array.getElem?_eq_none (by omega)]
      split <;> rfl
  let argv : Tmp → Value := fun t => us.getD t undef
  have hrel : Rel argv W I (fun t b => A t b) ⟨params 0 cs, []⟩ a0.tmps w := by
    refine ⟨hbel, hold, hilt, fun t b hb => (hA t b hb).1, fun t b hb => (hA t b hb).2, hAd, fun t => ?_⟩
    rw [params_get, if_pos (Nat.zero_le _), hget]
    cases hc' : cs[t - 0]? with
    | none => trivial
    | some c' => exact hrep t c' (by simpa using hc') argv
  refine ex_sound (pm := fun t => vf.sig.modes[t]? == some .M) hK c lv vf.body I _ (params 0 cs) e x a0 w _ hcomp hex hrel (by simp only [a0, Array.size_append, Array.size_replicate]; omega) (fun t _ => hget t) fun a' w' hcome => ?_
  obtain ⟨I1, O1, k1, k2, k3, k4, k5⟩ := hcome
  obtain ⟨O2, D, r1, r2, r3, r4, r5, r6, r7, r8⟩ := results_sound fn.results.toList vf.res res O1 ⟨e, []⟩ s2 hres k3 hrs
  let vals : Array Value := fn.results.map (resVal P w' a'.tmps)
  have hmap : (fn.results.mapM (resRun a'.tmps)).run P w' = .ok vals w' := run_mapM fun rv hrv => r3 rv (by simpa using hrv)
  have hvs : vals.size = res.length := by simp [vals, r2]
  let v : Value := if h : vals.size = 1 then vals[0] else .tuple vals
  have hrun : (results fn a'.tmps).run P w' = .ok v w' := by
    have : results fn a'.tmps = (do let vs ← fn.results.mapM (resRun a'.tmps); pure (if h : vs.size = 1 then vs[0] else .tuple vs)) := rfl
    rw [this, Sem.run_bind, hmap, Result.andThen_ok]
    rfl
  have hgetv : ∀ (j : Nat) c, res[j]? = some c → ∃ u, vals[j]? = some u ∧ c.plain = true ∧ RepC argv w' I1 c u (D j) := by
    intro j c hj
    obtain ⟨rv, q1, q2, q3⟩ := r8 j c hj
    exact ⟨_, by simp only [vals, Array.getElem?_map]; rw [← Array.getElem?_toList, q1]; rfl, q2, q3⟩
  -- where the lent arguments lie
  have hout : ∀ (j : Nat) c, os[j]? = some c → c = .gone ∨ (c.plain = true ∧ ∃ k, RepC argv w' I1 c (argv j) (O2 k) ∧ ((k = j ∧ ∀ i row, s2.e.get k ≠ .v (.pbox i row)) ∨ ∃ row, s2.e.get k = .v (.pbox j row))) := by
    intro j c hj
    obtain ⟨m, q1, q2⟩ := outs_get vf.sig.modes 0 os hos j c hj
    rw [Nat.zero_add] at q2
    cases m with
    | M =>
      refine .inr (out_sound r1 q2 ?_)
      rw [k5 j (by simp [q1]), hget]
    | V => simp only [out, Option.some.injEq] at q2; exact .inl q2.symm
    | O => simp only [out, Option.some.injEq] at q2; exact .inl q2.symm
  let A' : Nat → Nat → Prop := fun j b => ∃ k, O2 k b ∧ ((k = j ∧ ∀ i row, s2.e.get k ≠ .v (.pbox i row)) ∨ ∃ row, s2.e.get k = .v (.pbox j row))
  have hafter : After W w I A us res os v w' I1 (fun b => ∃ j, D j b) A' := by
    refine ⟨k3.bel, k4.imm, k3.ilt, k4.size, fun b hb hno => k4.kept b hb hno, fun b hb => ?_, fun b hb => ?_, fun j b hb => ?_, fun j j' b hb hb' => ?_, fun arg' => ?_, fun j c hj arg' => ?_⟩
    · rcases hb with ⟨j, hb⟩ | ⟨j, k, hb, _⟩ | hb
      · exact k4.got b (.inl (r4 j b hb))
      · exact k4.got b (.inl ⟨k, r5 k b hb⟩)
      · exact k4.got b (.inr hb)
    · obtain ⟨j, hb⟩ := hb
      obtain ⟨t, ht⟩ := r4 j b hb
      exact ⟨k3.olt t b ht, k3.notI t b ht, fun j' ⟨k, hk, _⟩ => r6 k b hk j hb⟩
    · obtain ⟨k, hk, _⟩ := hb
      exact ⟨r1.olt k b hk, r1.notI k b hk⟩
    · obtain ⟨k, hk, q⟩ := hb
      obtain ⟨k', hk', q'⟩ := hb'
      obtain rfl := r1.disj k k' b hk hk'
      rcases q with ⟨rfl, q⟩ | ⟨row, q⟩ <;> rcases q' with ⟨rfl, q'⟩ | ⟨row', q'⟩
      · rfl
      · exact absurd q' (q _ _)
      · exact absurd q (q' _ _)
      · rw [q] at q'
        simp only [AV.v.injEq, CV.pbox.injEq] at q'
        exact q'.1
    · have htup : RepT arg' w' I1 res (.tuple vals) (fun b => ∃ j, D j b) := by
        refine ⟨vals, rfl, hvs, D, fun j b hb => ⟨j, hb⟩, r7, fun j c hj => ?_⟩
        obtain ⟨u, q1, q2, q3⟩ := hgetv j c hj
        exact ⟨u, q1, q3.any q2⟩
      unfold RepR
      split
      · rename_i c
        obtain ⟨u, q1, q2, q3⟩ := hgetv 0 c rfl
        have hs1 : vals.size = 1 := by rw [hvs]; rfl
        have hv : v = u := by
          simp only [v, dif_pos hs1]
          rw [Array.getElem?_eq_getElem (by omega)] at q1
          exact Option.some.inj q1
        rw [hv]
        exact (q3.any q2).mono (fun _ h => h) fun b hb => ⟨0, hb⟩
      · rename_i hne
        have hs1 : vals.size ≠ 1 := by
          rw [hvs]
          intro h1
          match res, h1, hne with
          | [c], _, hne => exact hne c rfl
        have hv : v = .tuple vals := by simp only [v, dif_neg hs1]
        rw [hv]
        exact htup
    · rcases hout j c hj with rfl | ⟨q1, k, q2, q3⟩
      · trivial
      · exact (q2.any q1).mono (fun _ h => h) fun b hb => ⟨k, hb, q3⟩
  rcases hx with rfl | rfl
  · exact ⟨by rw [k1], v, hrun, hQ v w' I1 _ A' hafter⟩
  · exact ⟨by rw [k1], v, hrun, hQ v w' I1 _ A' hafter⟩

end Go.VS
