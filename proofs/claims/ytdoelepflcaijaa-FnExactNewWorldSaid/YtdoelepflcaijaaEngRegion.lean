/- Regions in their text's order. -/
import Derived.Test.YtdoelepflcaijaaEngDisp
import Derived.Tactics
namespace Go.VS
open Go Go.RowKit
set_option linter.unusedSimpArgs false
set_option linter.unusedVariables false

variable {P : Program} {arg : Tmp → Value} {W w w' : World} {I I' : Nat → Prop} {O O' : Tmp → Nat → Prop} {s s' : RS} {a : Act} {K : Act → World → Prop} {Q : Exit → Act → World → Prop} {G : Sigs} {F : Fns} {pm : Tmp → Bool}

/-- What holds behind some operations. -/
def Come (arg : Tmp → Value) (W : World) (pm : Tmp → Bool) (I : Nat → Prop) (O : Tmp → Nat → Prop) (w : World) (a : Act) (s' : RS) (a' : Act) (w' : World) : Prop :=
  ∃ I' O', a'.defers = a.defers ∧ a'.tmps.size = a.tmps.size ∧ Rel arg W I' O' s' a'.tmps w' ∧ Ext w I O w' I' O' ∧ ∀ t, pm t = true → a'.tmps.getD t undef = a.tmps.getD t undef

theorem Come.refl (h : Rel arg W I O s a.tmps w) : Come arg W pm I O w a s a w := ⟨I, O, rfl, rfl, h, .refl, fun _ _ => rfl⟩

def compG (P : Program) (pm : Tmp → Bool) (ops : Array Oper) (o : Oper) : Option GOp :=
  match guardOf ops o, compOp P pm o with
  | some g, some vo => if vo.dst = o.dst ∧ (∀ d ∈ vo.dst, pm d = false) then some ⟨g, vo⟩ else none
  | _, _ => none
def compR (P : Program) (pm : Tmp → Bool) (ops : Array Oper) : Option (List GOp) := ops.toList.mapM (compG P pm ops)

theorem getD_some {vs : Array Value} {t : Tmp} {v : Value} (h : vs.getD t undef = v) (hv : v ≠ undef) : vs[t]? = some v := by
  rw [Array.getD_eq_getD_getElem?] at h
  cases hh : vs[t]? with
  | none => rw [hh] at h; exact absurd h.symm hv
  | some u => rw [hh] at h; exact congrArg some h

/-- A skipped operation. -/
theorem good_skip (h : Rel arg W I O s a.tmps w) (o : Option Tmp) (he : (match o with | some d => some (s.put d .un) | none => some s) = some s') (hd : ∀ d, o = some d → d < a.tmps.size) : Good arg W I O w a s' o (a.put o undef) w := by
  cases o with
  | none => obtain rfl := Option.some.inj he; exact ⟨I, O, rfl, rfl, h, .refl, fun _ _ => rfl⟩
  | some d => obtain rfl := Option.some.inj he; exact good_free h (hd d rfl) (Below.refl _ _) rfl (fun _ _ _ h => by cases h)

theorem gop_sound {ops : Array Oper} {o : Oper} {g : GOp} (hK : Knows P W G F) (hg : compG P pm ops o = some g) (h : Rel arg W I O s a.tmps w) (hsz : ∀ d, o.dst = some d → d < a.tmps.size) (hpm : ∀ t, pm t = true → a.tmps.getD t undef = arg t) (hs : gop G F s g = some s')
    (hk : ∀ a' w', Come arg W pm I O w a s' a' w' → K a' w') : if Region.wanted o (yielded ops a.tmps) then o.wp P a w K Q else K (a.put o.dst undef) w := by
  unfold compG at hg
  split at hg
  · rename_i gd vo hgd hvo
    obtain ⟨⟨hdst, hnp⟩, rfl⟩ := ite_some hg
    have hgood : ∀ a' w', Good arg W I O w a s' vo.dst a' w' → Come arg W pm I O w a s' a' w' := by
      rintro a' w' ⟨I', O', k1, k2, k3, k4, k5⟩
      exact ⟨I', O', k1, k2, k3, k4, fun t ht => k5 t fun he => by rw [hnp t (by simp [he])] at ht; cases ht⟩
    have hrun : vop G F s vo = some s' → o.wp P a w K Q := fun hv => compOp_sound hK hvo I O s s' a w K Q h (fun d hd => hsz d (hdst ▸ hd)) hpm hv fun a' w' hh => hk a' w' (hgood a' w' hh)
    have hskip : (match vo.dst with | some d => some (s.put d .un) | none => some s) = some s' → K (a.put o.dst undef) w := by
      intro he
      refine hk _ _ (hgood _ _ ?_)
      have := good_skip h vo.dst he (fun d hd => hsz d (hdst ▸ hd))
      rw [hdst] at this ⊢
      exact this
    unfold guardOf at hgd
    unfold gop at hs
    split at hgd
    · rename_i hno
      obtain rfl := (Option.some.inj hgd).symm
      rw [if_pos (by simp [Region.wanted, hno])]
      exact hrun hs
    · rename_i j want hgj
      split at hgd
      · rename_i t ht
        obtain rfl := (Option.some.inj hgd).symm
        simp only at hs
        have hr := h.rep t
        split at hs
        · rename_i b hb
          rw [hb] at hr
          have hv : a.tmps.getD t undef = .bool b := by
            have := hr.2
            generalize a.tmps.getD t undef = u at this ⊢
            cases this; rfl
          have hy : yielded ops a.tmps j = some b := by
            simp only [yielded, ht, Option.bind_some]
            rw [getD_some hv (by intro h; cases h)]
          split at hs
          · rename_i hbw
            rw [if_pos (by simp [Region.wanted, hgj, hy, hbw])]
            exact hrun hs
          · rename_i hbw
            rw [if_neg (by simp [Region.wanted, hgj, hy, hbw])]
            exact hskip hs
        · rename_i hb
          rw [hb] at hr
          have hv : a.tmps.getD t undef = undef := hr
          have hy : yielded ops a.tmps j = none := by
            simp only [yielded, ht, Option.bind_some]
            rw [Array.getD_eq_getD_getElem?] at hv
            cases hh : a.tmps[t]? with
            | none => rfl
            | some u => rw [hh] at hv; simp only [Option.getD_some] at hv; subst hv; rfl
          rw [if_neg (by simp [Region.wanted, hgj, hy])]
          exact hskip hs
        · cases hs
      · cases hgd
  · cases hg

theorem Come.trans {s'' : RS} {a' a'' : Act} {w'' : World} (h : Come arg W pm I O w a s' a' w') (k : ∀ I' O', Rel arg W I' O' s' a'.tmps w' → Come arg W pm I' O' w' a' s'' a'' w'') : Come arg W pm I O w a s'' a'' w'' := by
  obtain ⟨I', O', h1, h2, h3, h4, h5⟩ := h
  obtain ⟨I2, O2, k1, k2, k3, k4, k5⟩ := k I' O' h3
  exact ⟨I2, O2, k1.trans h1, k2.trans h2, k3, h4.trans h3.notI k4, fun t ht => (k5 t ht).trans (h5 t ht)⟩
/-- The same, from within. -/
theorem Come.next {s'' : RS} {a' a'' : Act} {w'' : World} {I1 : Nat → Prop} {O1 : Tmp → Nat → Prop} (h1 : a'.defers = a.defers) (h2 : a'.tmps.size = a.tmps.size) (h3 : Rel arg W I1 O1 s' a'.tmps w') (h4 : Ext w I O w' I1 O1) (h5 : ∀ t, pm t = true → a'.tmps.getD t undef = a.tmps.getD t undef)
    (k : Come arg W pm I1 O1 w' a' s'' a'' w'') : Come arg W pm I O w a s'' a'' w'' := by
  obtain ⟨I2, O2, k1, k2, k3, k4, k5⟩ := k
  exact ⟨I2, O2, k1.trans h1, k2.trans h2, k3, h4.trans h3.notI k4, fun t ht => (k5 t ht).trans (h5 t ht)⟩

theorem mapM_cons_some {α β : Type} {f : α → Option β} {x : α} {xs : List α} {ys : List β} (h : (x :: xs).mapM f = some ys) : ∃ y ys', f x = some y ∧ xs.mapM f = some ys' ∧ ys = y :: ys' := by
  rw [List.mapM_cons] at h
  cases h1 : f x with
  | none => simp [h1] at h
  | some y =>
    cases h2 : xs.mapM f with
    | none => simp [h1, h2] at h
    | some ys' =>
      simp [h1, h2] at h
      exact ⟨y, ys', rfl, rfl, h.symm⟩

theorem gops_sound {ops : Array Oper} (hK : Knows P W G F) : ∀ (l : List Oper) (gs : List GOp) (I : Nat → Prop) (O : Tmp → Nat → Prop) (s s' : RS) (a : Act) (w : World), l.mapM (compG P pm ops) = some gs → Rel arg W I O s a.tmps w →
    (∀ o ∈ l, ∀ d, o.dst = some d → d < a.tmps.size) → (∀ t, pm t = true → a.tmps.getD t undef = arg t) → gops G F gs s = some s' → (∀ a' w', Come arg W pm I O w a s' a' w' → Q .normal a' w') → wpList P ops Q l a w
  | [], gs, I, O, s, s', a, w, hm, h, hsz, hpm, hg, hk => by
    simp at hm
    subst hm
    simp only [gops, Option.some.injEq] at hg
    subst hg
    exact hk a w (.refl h)
  | o :: l, gs, I, O, s, s', a, w, hm, h, hsz, hpm, hg, hk => by
    obtain ⟨g, gs', h1, h2, rfl⟩ := mapM_cons_some hm
    simp only [gops] at hg
    split at hg
    · rename_i s1 hs1
      have key := gop_sound (Q := Q) (K := wpList P ops Q l) hK h1 h (hsz o (by simp)) hpm hs1 fun a' w' hc => by
        obtain ⟨I', O', k1, k2, k3, k4, k5⟩ := hc
        exact gops_sound hK l gs' I' O' s1 s' a' w' h2 k3 (fun o' ho d hd => by rw [k2]; exact hsz o' (by simp [ho]) d hd) (fun t ht => (k5 t ht).trans (hpm t ht)) hg fun a'' w'' hh => hk a'' w'' (Come.next k1 k2 k3 k4 k5 hh)
      unfold wpList
      split
      · rename_i hw
        rw [if_pos hw] at key
        exact .inl key
      · rename_i hw
        rw [if_neg hw] at key
        exact key
    · cases hg

theorem get_keepV {d : List Dirt} {live : List Tmp} : ∀ (e : Env) (t : Tmp), (Env.keepV d live e).get t = if live.contains t = true then (e.get t).keepRef d live else .bad
  | [], t => by simp [Env.keepV, Env.get, AV.keepRef]
  | (k, v) :: e, t => by
    simp only [Env.keepV]
    by_cases hk : live.contains k = true
    · rw [if_pos hk]
      simp only [Env.get]
      by_cases h : k = t
      · subst h; rw [if_pos rfl, if_pos rfl, if_pos hk]
      · rw [if_neg h, if_neg h]; exact get_keepV e t
    · rw [if_neg hk, get_keepV e t]
      simp only [Env.get]
      by_cases h : k = t
      · subst h; rw [if_neg hk, if_neg hk]
      · rw [if_neg h]
theorem get_keys : ∀ {e : Env} {t : Tmp}, t ∉ e.map (·.1) → e.get t = .bad
  | [], t, h => rfl
  | (k, v) :: e, t, h => by
    simp only [List.map_cons, List.mem_cons, not_or] at h
    simp only [Env.get]
    rw [if_neg (fun e => h.1 e.symm)]
    exact get_keys h.2

theorem fin_sound {vs : Array Value} {live : List Tmp} : ∀ (keep : List Tmp) (O : Tmp → Nat → Prop) (s s' : RS), Rel arg W I O s vs w → (∀ t ∈ keep, t < vs.size) → s.fin live keep = some s' → ∃ O', Rel arg W I O' s' vs w ∧ ∀ t b, O' t b → ∃ t', O t' b
  | [], O, s, s', h, hk, hf => by
    simp only [RS.fin, Option.some.injEq] at hf
    subst hf
    let rs : List Tmp := (s.e.map (·.1)).filter fun k => !live.contains k
    have hrs : ∀ t, rs.contains t = true → live.contains t = false := fun t ht => by
      have := List.contains_iff_mem.1 ht
      simpa using (List.mem_filter.1 this).2
    refine ⟨fun t b => rs.contains t = false ∧ O t b, ?_, fun t b hb => ⟨t, hb.2⟩⟩
    have hh := h.hide rs
    refine ⟨hh.bel, hh.old, hh.ilt, hh.olt, hh.notI, hh.disj, fun t => ?_⟩
    have := hh.rep t
    show RepA arg w I _ vs ((Env.keepV s.d live s.e).get t) _ _
    change RepA arg w I _ vs ((s.e.del rs).get t) _ _ at this
    have hroot : ∀ {r p B row}, live.contains r = true → Roots w (s.hide rs).e vs r p B row → Roots w (Env.keepV s.d live s.e) vs r p B row := by
      rintro r p B row hl ⟨c, q1, q2⟩
      refine ⟨c, ?_, q2⟩
      rw [get_keepV, if_pos hl]
      change (s.e.del rs).get r = .v c at q1
      rw [get_del] at q1
      split at q1
      · cases q1
      · rw [q1]; rfl
    rw [get_keepV]
    by_cases hlt : live.contains t = true
    case neg => rw [if_neg hlt]; trivial
    rw [if_pos hlt]
    have hrt : rs.contains t = false := by
      cases hh : rs.contains t with
      | false => rfl
      | true => rw [hrs t hh] at hlt; cases hlt
    rw [get_del, if_neg (by rw [hrt]; simp)] at this
    have hnr : ∀ r, live.contains r = true → rs.contains r = false := fun r hr => by
      cases hh : rs.contains r with
      | false => rfl
      | true => rw [hrs r hh] at hr; cases hr
    cases hav : s.e.get t with
    | ptr r p o =>
      rw [hav] at this
      simp only [AV.keepRef]
      split
      · rename_i hc
        intro _
        obtain ⟨b, o', row', k1, k2⟩ := this (by rw [RS.hide, cleanP_hide, hc.1, hnr r hc.2]; rfl)
        exact ⟨b, o', row', hroot hc.2 k1, k2⟩
      · trivial
    | ld r p o n g =>
      rw [hav] at this
      simp only [AV.keepRef]
      split
      · rename_i hc
        intro _
        obtain ⟨B, row', k1, k2⟩ := this (by rw [RS.hide, clean_hide, hc.1, hnr r hc.2]; rfl)
        exact ⟨B, row', hroot hc.2 k1, k2⟩
      · trivial
    | _ => rw [hav] at this; exact this
  | t :: ts, O, s, s', h, hk, hf => by
    have hts : ∀ t' ∈ ts, t' < vs.size := fun t' ht => hk t' (by simp [ht])
    have htv := hk t (by simp)
    simp only [RS.fin] at hf
    split at hf
    · split at hf
      case isFalse => exact fin_sound ts O s s' h hts hf
      split at hf
      · rename_i c s1 htk
        obtain ⟨S, O1, k1, k2, k3⟩ := h.take (x := .t t) rfl htk
        have hp := k2.put_same (av := .v c) (S := S) htv (fun b hb => ⟨(by obtain ⟨t', h'⟩ := k3.1 b hb; exact h.olt t' b h'), (by obtain ⟨t', h'⟩ := k3.1 b hb; exact h.notI t' b h'), fun t' _ ho => k3.2.2 t' b ho hb⟩) k1 (fun _ _ _ h => by cases h)
        obtain ⟨O', q1, q2⟩ := fin_sound ts _ _ s' hp hts hf
        refine ⟨O', q1, fun t1 b hb => ?_⟩
        obtain ⟨t2, h2⟩ := q2 t1 b hb
        by_cases ht : t2 = t
        · simp only [ht, if_true] at h2; exact k3.1 b h2
        · simp only [ht, if_false] at h2; exact ⟨t2, k3.2.1 t2 b h2⟩
      · cases hf
    · rename_i r hav
      split at hf
      · rename_i hcond
        obtain ⟨_, hcl, hrt⟩ := hcond
        split at hf
        · rename_i row hrow
          have hr := h.rep r
          rw [hrow] at hr
          have hr : RepC arg w I (.box row) (vs.getD r undef) (O r) := hr
          have hpt := h.rep t
          rw [hav] at hpt
          obtain ⟨b, o', row', ⟨c1, e1, e2⟩, k2⟩ := hpt hcl
          rw [hrow] at e1
          obtain rfl := (AV.v.inj e1).symm
          have hval : vs.getD t undef = vs.getD r undef := by
            obtain ⟨b2, cs, e, hv2, _⟩ := hr
            rw [hv2] at e2
            generalize hB : CV.base (.box row) (.pointer (some ⟨b2, 0, none⟩)) = B0 at e2
            cases e2
            simp only [CV.base, Base.addr.injEq] at hB
            obtain ⟨rfl, rfl⟩ := hB
            rw [k2, hv2]
          have h1 := h.strike r .bad rfl
          have hp := h1.put_same (av := .v (.box row)) (S := O r) htv (fun b hb => ⟨h.olt r b hb, h.notI r b hb, fun t' ht ho => by
            by_cases hr' : t' = r
            · simp only [hr', if_true] at ho
            · simp only [hr', if_false] at ho; exact hr' (h.disj t' r b ho hb)⟩) (by rw [hval]; exact hr) (fun _ _ _ h => by cases h)
          obtain ⟨O', q1, q2⟩ := fin_sound ts _ _ s' hp hts hf
          refine ⟨O', q1, fun t1 b hb => ?_⟩
          obtain ⟨t2, h2⟩ := q2 t1 b hb
          by_cases ht : t2 = t
          · simp only [ht, if_true] at h2; exact ⟨r, h2⟩
          · simp only [ht, if_false] at h2
            by_cases hr' : t2 = r
            · simp only [hr', if_true] at h2
            · simp only [hr', if_false] at h2; exact ⟨t2, h2⟩
        · cases hf
      · exact fin_sound ts O s s' h hts hf
    · exact fin_sound ts O s s' h hts hf

end Go.VS
