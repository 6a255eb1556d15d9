/- A whole operation does not see slots that it does not name. -/
import Derived.Test.YtdoelepflcaijaaEngAgree3
namespace Go.VS
open Go Go.RowKit
set_option linter.unusedSimpArgs false
set_option linter.unusedVariables false

variable {s s2 s' s2' : RS} {N C : Tmp → Prop} {x : X} {c : CV} {G : Sigs} {F : Fns}

theorem out_t {N : Tmp → Prop} {t : Tmp} (h : (X.t t).out N) : ¬ N t := h
/-- Taking alike marks alike. -/
theorem Agree.take_pre (h : Agree N C s s2) (hx : x.out N) (ht : s2.take x = some (c, s2')) : ∃ s' pre, s.take x = some (c, s') ∧ Agree N C s' s2' ∧ s'.d = pre ++ s.d ∧ s2'.d = pre ++ s2.d := by
  obtain ⟨s', k1, k2⟩ := h.take hx ht
  cases x with
  | c c0 =>
    simp only [RS.take, Option.some.injEq, Prod.mk.injEq] at ht k1
    obtain ⟨rfl, rfl⟩ := ht
    obtain ⟨_, rfl⟩ := k1
    exact ⟨_, [], by simp only [RS.take], k2, rfl, rfl⟩
  | t t =>
    refine ⟨s', ?_⟩
    have hx' : ¬ N t := hx
    have k0 := k1
    simp only [RS.take] at ht k1
    rw [h.e t hx'] at k1
    cases hav : s2.e.get t with
    | v c0 =>
      rw [hav] at ht k1
      have key : (if c0.shal then some (c0, s2) else some (c0, s2.put t .bad)) = some (c, s2') → (if c0.shal then some (c0, s) else some (c0, s.put t .bad)) = some (c, s') → ∃ pre, s'.d = pre ++ s.d ∧ s2'.d = pre ++ s2.d := by
        intro ht k1
        split at ht
        · rename_i hs
          rw [if_pos hs] at k1
          simp only [Option.some.injEq, Prod.mk.injEq] at ht k1
          obtain ⟨rfl, rfl⟩ := ht
          obtain ⟨_, rfl⟩ := k1
          exact ⟨[], rfl, rfl⟩
        · rename_i hs
          rw [if_neg hs] at k1
          simp only [Option.some.injEq, Prod.mk.injEq] at ht k1
          obtain ⟨rfl, rfl⟩ := ht
          obtain ⟨_, rfl⟩ := k1
          refine ⟨[(t, [], 0, 0)], ?_, ?_⟩
          · simp only [RS.put, h.e t hx', hav, AV.isV, if_true, List.singleton_append]
          · simp only [RS.put, hav, AV.isV, if_true, List.singleton_append]
      cases c0 with
      | pbox => cases ht
      | gone => cases ht
      | leaf l => obtain ⟨pre, q1, q2⟩ := key ht k1; exact ⟨pre, k0, k2, q1, q2⟩
      | agg ls => obtain ⟨pre, q1, q2⟩ := key ht k1; exact ⟨pre, k0, k2, q1, q2⟩
      | box row => obtain ⟨pre, q1, q2⟩ := key ht k1; exact ⟨pre, k0, k2, q1, q2⟩
    | ld r p o n agg =>
      rw [hav] at ht k1
      have hrC := h.refs t hx' r (by rw [hav]; rfl)
      have hl : s.look (.ld r p o n agg) = s2.look (.ld r p o n agg) := h.look (fun r' hr' => by cases hr'; exact hrC)
      simp only at ht k1
      rw [hl] at k1
      split at ht
      · rename_i c1 hc1
        split at ht
        · rename_i hs
          rw [hc1] at k1
          simp only [hs, if_pos, Option.some.injEq, Prod.mk.injEq] at ht k1
          obtain ⟨rfl, rfl⟩ := ht
          obtain ⟨_, rfl⟩ := k1
          exact ⟨[], k0, k2, rfl, rfl⟩
        · rename_i hs
          rw [hc1] at k1
          simp only [if_neg hs] at k1
          split at ht
          · rename_i s1 hp
            obtain ⟨s1', j1, j2⟩ := h.poke hrC hp
            rw [j1] at k1
            simp only [Option.some.injEq, Prod.mk.injEq] at ht k1
            obtain ⟨rfl, rfl⟩ := ht
            obtain ⟨_, rfl⟩ := k1
            refine ⟨[(r, p, o, n)], k0, k2, ?_, ?_⟩
            · have : s1'.d = s.d := by
                unfold RS.poke at j1
                repeat' split at j1
                all_goals first | (obtain rfl := (Option.some.inj j1).symm; rfl) | cases j1
              simp only [RS.mark, this, List.singleton_append]
            · have : s1.d = s2.d := by
                unfold RS.poke at hp
                repeat' split at hp
                all_goals first | (obtain rfl := (Option.some.inj hp).symm; rfl) | cases hp
              simp only [RS.mark, this, List.singleton_append]
          · cases ht
      · cases ht
    | _ => rw [hav] at ht; cases ht

theorem Agree.given_pre : ∀ (as : List Arg) (xs : List X) (s s2 s2' : RS) (cs : List CV), Agree N C s s2 → (∀ x ∈ xs, x.out N) → s2.given as xs = some (cs, s2') → ∃ s' pre, s.given as xs = some (cs, s') ∧ Agree N C s' s2' ∧ s'.d = pre ++ s.d ∧ s2'.d = pre ++ s2.d
  | [], [], s, s2, s2', cs, h, hx, hg => by
    simp only [RS.given, Option.some.injEq, Prod.mk.injEq] at hg ⊢
    obtain ⟨rfl, rfl⟩ := hg
    exact ⟨s, [], ⟨rfl, rfl⟩, h, rfl, rfl⟩
  | [], _ :: _, s, s2, s2', cs, h, hx, hg => by simp [RS.given] at hg
  | .v .. :: _, [], s, s2, s2', cs, h, hx, hg => by simp [RS.given] at hg
  | .m .. :: _, [], s, s2, s2', cs, h, hx, hg => by simp [RS.given] at hg
  | .o :: _, [], s, s2, s2', cs, h, hx, hg => by simp [RS.given] at hg
  | .v c r :: as, x :: xs, s, s2, s2', cs, h, hx, hg => by
    simp only [RS.given] at hg ⊢
    split at hg
    · rename_i cs1 s1 h1
      simp only [Option.some.injEq, Prod.mk.injEq] at hg
      obtain ⟨rfl, rfl⟩ := hg
      obtain ⟨s', pre, k1, k2⟩ := Agree.given_pre as xs s s2 s1 cs1 h (fun x hx' => hx x (by simp [hx'])) h1
      exact ⟨s', pre, by simp only [k1], k2⟩
    · cases hg
  | .m c r p o :: as, x :: xs, s, s2, s2', cs, h, hx, hg => by
    simp only [RS.given] at hg ⊢
    split at hg
    · rename_i cs1 s1 h1
      simp only [Option.some.injEq, Prod.mk.injEq] at hg
      obtain ⟨rfl, rfl⟩ := hg
      obtain ⟨s', pre, k1, k2⟩ := Agree.given_pre as xs s s2 s1 cs1 h (fun x hx' => hx x (by simp [hx'])) h1
      exact ⟨s', pre, by simp only [k1], k2⟩
    · cases hg
  | .o :: as, x :: xs, s, s2, s2', cs, h, hx, hg => by
    simp only [RS.given] at hg ⊢
    split at hg
    · rename_i c s1 ht
      obtain ⟨s1', pre1, k1, k2, k3, k4⟩ := h.take_pre (hx x (by simp)) ht
      split at hg
      · rename_i hf
        split at hg
        · rename_i cs1 s3 h1
          simp only [Option.some.injEq, Prod.mk.injEq] at hg
          obtain ⟨rfl, rfl⟩ := hg
          obtain ⟨s', pre2, q1, q2, q3, q4⟩ := Agree.given_pre as xs s1' s1 s3 cs1 k2 (fun x hx' => hx x (by simp [hx'])) h1
          exact ⟨s', pre2 ++ pre1, by simp only [k1, if_pos hf, q1], q2, by rw [q3, k3, List.append_assoc], by rw [q4, k4, List.append_assoc]⟩
        · cases hg
      · cases hg
    · cases hg

theorem Agree.core {f : FuncId} {own : Bool} {modes : List Mode} {xs : List X} {res outs : List CV} {as : List Arg} (h : Agree N C s s2) (hx : ∀ x ∈ xs, x.out N) (hc : s2.core F f own modes xs = some (res, outs, as, s2')) : ∃ s', s.core F f own modes xs = some (res, outs, as, s') ∧ Agree N C s' s2' ∧ ∀ r ∈ rootsM as, ¬ C r := by
  unfold RS.core at hc ⊢
  obtain ⟨k1, k2⟩ := h.seen modes xs hx
  split at hc
  · rename_i as' has
    obtain ⟨hv, hm⟩ := k2 as' has
    rw [has] at k1
    split at hc
    · rename_i hcond
      split at hc
      · rename_i cs s1 hgiv
        obtain ⟨s1', pre, q1, q2, q3, q4⟩ := Agree.given_pre as' xs _ _ s1 cs (h.hide (rootsM as' ++ rootsV as')) hx hgiv
        split at hc
        · rename_i res' outs' hF
          split at hc
          · rename_i s3 hb
            simp only [Option.some.injEq, Prod.mk.injEq] at hc
            obtain ⟨rfl, rfl, rfl, rfl⟩ := hc
            have htake : ∀ (d : List Dirt) (pre d0 : List Dirt), d = pre ++ (((rootsM as' ++ rootsV as').map fun r => (r, [], 0, 0)) ++ d0) → d.take (d.length - ((rootsM as').length + (rootsV as').length + d0.length)) = pre := by
              intro d pre d0 e
              subst e
              have : (pre ++ (((rootsM as' ++ rootsV as').map fun r => ((r, [], 0, 0) : Dirt)) ++ d0)).length - ((rootsM as').length + (rootsV as').length + d0.length) = pre.length := by
                simp only [List.length_append, List.length_map]; omega
              rw [this, List.take_left]
            have e1 := htake s1.d pre s2.d (by rw [q4]; rfl)
            have e2 := htake s1'.d pre s.d (by rw [q3]; rfl)
            rw [e1] at hb
            have hag : Agree N C ⟨s1'.e, pre ++ s.d⟩ ⟨s1.e, pre ++ s2.d⟩ :=
              ⟨h.sub, q2.e, fun r p hr => by simp only [cleanP_append, h.cp r p hr], fun r p x k hr => by simp only [clean_append, h.cl r p x k hr], q2.refs, q2.cal⟩
            obtain ⟨s', j1, j2⟩ := Agree.back h as' _ _ _ s3 hag hv hm hb
            refine ⟨s', ?_, j2, hm⟩
            simp only [k1, if_pos hcond, q1, hF, e2, j1]
          · cases hc
        · cases hc
      · cases hc
    · cases hc
  · cases hc
theorem Agree.lendAt (h : Agree N C s s2) : ∀ (ms : List Mode) (xs : List X) (j : Nat), (∀ x ∈ xs, x.out N) → s.lendAt ms xs j = s2.lendAt ms xs j
  | [], xs, j, hx => by simp [RS.lendAt]
  | m :: ms, [], j, hx => by cases m <;> simp [RS.lendAt]
  | m :: ms, x :: xs, j, hx => by
    have ih := Agree.lendAt h ms xs (j + 1) fun x hx' => hx x (by simp [hx'])
    cases m with
    | M =>
      cases x with
      | t t =>
        have hl : s.look (s.e.get t) = s2.look (s2.e.get t) := h.lookX (x := .t t) (hx (.t t) (by simp))
        simp only [RS.lendAt, hl, ih]
      | c c0 => simp only [RS.lendAt, ih]
    | _ => simp only [RS.lendAt, ih]
theorem Agree.relay {sb sb2 : RS} {ms : List Tmp} {t : Tmp} {av : AV} (h0 : Agree N C sb sb2) (h : Agree N C s s2) (ht : ¬ N t) (hroot : ∀ r, av.root = some r → ¬ C r) (hcal : C t → ∀ c, av = .v c → c.shal = true) (hav : ∀ c, av = .v c → c.shal = false) (hr : sb2.relay s2 ms t c av = some s2') : ∃ s', sb.relay s ms t c av = some s' ∧ Agree N C s' s2' := by
  cases av with
  | v c0 =>
    simp only [RS.relay] at hr ⊢
    split at hr
    · rename_i hf
      obtain rfl := Option.some.inj hr
      exact ⟨_, by rw [if_pos hf], h.put' ht root_v fun hC c' _ => by have := hcal hC c0 rfl; rw [hav c0 rfl] at this; cases this⟩
    · cases hr
  | ld r p o n agg =>
    have hrC := hroot r rfl
    simp only [RS.relay] at hr ⊢
    rw [h.slotAt hrC, show rowOf sb.e r = rowOf sb2.e r by simp only [rowOf, h0.root hrC], show rowOf s.e r = rowOf s2.e r by simp only [rowOf, h.root hrC]]
    split at hr
    · rename_i row r0 r2 e1 e2 e3
      try rw [e1, e2, e3]
      try simp only
      split at hr
      · rename_i hcond
        rw [if_pos hcond]
        split at hr
        · rename_i s3 hp
          obtain ⟨s3', q1, q2⟩ := h.poke hrC hp
          obtain rfl := Option.some.inj hr
          exact ⟨_, by rw [q1], q2.mark ..⟩
        · cases hr
      · cases hr
    · cases hr
  | _ => cases hr
theorem Agree.call {f : FuncId} {xs : List X} {res : List CV} (h : Agree N C s s2) (hx : ∀ x ∈ xs, x.out N) (hc : s2.call G F f xs = some (res, s2')) : ∃ s', s.call G F f xs = some (res, s') ∧ Agree N C s' s2' := by
  unfold RS.call at hc ⊢
  split at hc
  · rename_i g hg
    try rw [hg]
    try simp only
    rw [h.lendAt g.modes xs 0 hx]
    split at hc
    · rename_i hle
      try rw [hle]
      try simp only
      split at hc
      · rename_i res' outs as s3 hcore
        simp only [Option.some.injEq, Prod.mk.injEq] at hc
        obtain ⟨rfl, rfl⟩ := hc
        obtain ⟨s', k1, k2, _⟩ := h.core hx hcore
        exact ⟨s', by rw [k1], k2⟩
      · cases hc
    · rename_i j t hle
      obtain ⟨i, e1, e2, e3, c1, e4, e5, e6⟩ := lendAt_spec hle
      have ht : ¬ N t := out_t (hx (.t t) (List.mem_of_getElem? e2))
      try rw [hle]
      try simp only
      split at hc
      · rename_i res' outs as s3 hcore
        obtain ⟨s', k1, k2, _⟩ := h.core hx hcore
        rw [k1]
        simp only
        split at hc
        · rename_i c hout
          try rw [hout]
          try simp only
          rw [h.e t ht]
          split at hc
          · rename_i s4 hrel
            simp only [Option.some.injEq, Prod.mk.injEq] at hc
            obtain ⟨rfl, rfl⟩ := hc
            obtain ⟨s'', q1, q2⟩ := Agree.relay h k2 ht (h.refs t ht) (fun hC c hc => h.cal t hC c hc) (fun c hc => by
              rw [hc] at e4
              simp only [RS.look, Option.some.injEq] at e4
              rw [e4]; exact e6) hrel
            exact ⟨s'', by rw [q1], q2⟩
          · cases hc
        · cases hc
      · cases hc
  · cases hc

theorem after_put2 (h : Agree N C s s2) {o : VOp} {d : Tmp} (hd : o.dst = some d) {av : AV} (hr : ∀ r, av.root = some r → ¬ C r) (hc : ∀ d, o.dst = some d → C d → ∀ c, s2'.e.get d = .v c → c.shal = true) {r : Option RS} (he : r = some (s.put d av)) (he2 : some (s2.put d av) = some s2') : After1 N C o r s2' := by
  obtain rfl := (Option.some.inj he2).symm
  refine after_put h hd hr (fun hC c hav => hc d hd hC c ?_) he rfl
  simp only [RS.put, get_put, if_true, hav]

theorem vop_agree (h : Agree N C s s2) {o : VOp} (hx : ∀ x ∈ o.uses, x.out N) (hv : vop G F s2 o = some s2') (hc : ∀ d, o.dst = some d → C d → ∀ c, s2'.e.get d = .v c → c.shal = true) : After1 N C o (vop G F s o) s2' := by
  cases o with
  | mv d x =>
    have hx' : x.out N := hx x (by simp [VOp.uses])
    have hroot := h.vroot hx'
    simp only [vop] at hv ⊢
    rw [h.val hx']
    cases hav : s2.val x with
    | v c0 =>
      rw [hav] at hv
      simp only at hv ⊢
      by_cases hs : c0.shal = true
      · rw [if_pos hs] at hv
        exact after_put2 h rfl root_v hc (by first | rfl | rw [if_pos hs]) hv
      · rw [if_neg hs] at hv
        cases x with
        | c _ => exact after_put2 h rfl root_v hc (by first | rfl | rw [if_neg hs]) hv
        | t t =>
          have hC : ¬ C t := fun hC => hs (h.cal t hC c0 hav)
          cases c0 with
          | box row => exact after_put2 h rfl (root_some (r := t) rfl hC) hc (by first | rfl | rw [if_neg hs]) hv
          | pbox t0 row => exact after_put2 h rfl (root_some (r := t) rfl hC) hc (by first | rfl | rw [if_neg hs]) hv
          | leaf l => exact after_put2 h rfl (root_some (r := t) rfl hC) hc (by first | rfl | rw [if_neg hs]) hv
          | agg ls => exact after_put2 h rfl (root_some (r := t) rfl hC) hc (by first | rfl | rw [if_neg hs]) hv
          | gone => cases hv
    | ld r p o n a => rw [hav] at hv hroot; exact after_put2 h rfl (root_some (r := r) rfl (hroot r rfl)) hc rfl hv
    | ptr r p o => rw [hav] at hv hroot; exact after_put2 h rfl (root_some (r := r) rfl (hroot r rfl)) hc rfl hv
    | iptr row o => rw [hav] at hv; exact after_put2 h rfl (root_none rfl) hc rfl hv
    | un => rw [hav] at hv; exact after_put2 h rfl (root_none rfl) hc rfl hv
    | bad => rw [hav] at hv; cases hv
    | tup cs =>
      rw [hav] at hv
      cases x with
      | c _ => cases hv
      | t t =>
        simp only at hv ⊢
        split at hv
        · cases hv
        · rename_i hdt
          try rw [if_neg hdt]
          exact after_put2 (h.put' (d := t) (av := .bad) hx' (root_none rfl) (fun _ c h => by cases h)) rfl (root_none rfl) hc rfl hv
  | asg d x =>
    have hx' : x.out N := hx x (by simp [VOp.uses])
    have hroot := h.vroot hx'
    have key : ∀ q : Option (CV × RS), s2.take x = q → (match q with | some (c, s') => some (s'.put d (.v c)) | none => none) = some s2' → After1 N C (.asg d x) (match s.take x with | some (c, s') => some (s'.put d (.v c)) | none => none) s2' := by
      intro q hq hv
      cases q with
      | none => cases hv
      | some q =>
        obtain ⟨c, s1⟩ := q
        obtain ⟨s1', k1, k2⟩ := h.take hx' hq
        exact after_put2 k2 rfl root_v hc (by rw [k1]) hv
    simp only [vop] at hv ⊢
    rw [h.val hx']
    cases hav : s2.val x with
    | ptr r p o => rw [hav] at hv hroot; exact after_put2 h rfl (root_some (r := r) rfl (hroot r rfl)) hc rfl hv
    | iptr row o => rw [hav] at hv; exact after_put2 h rfl (root_none rfl) hc rfl hv
    | _ => rw [hav] at hv; exact key _ rfl hv
  | bad d => simp only [vop] at hv ⊢; exact after_put2 h rfl (root_none rfl) hc rfl hv
  | pick d c a b =>
    have h1 : c.out N := hx c (by simp [VOp.uses])
    have h2 : a.out N := hx a (by simp [VOp.uses])
    have h3 : b.out N := hx b (by simp [VOp.uses])
    simp only [vop] at hv ⊢
    rw [h.lookX h1]
    split at hv
    · rename_i t ht
      try rw [ht]
      have h4 : (if t = true then a else b).out N := by split <;> assumption
      try simp only
      rw [h.lookX h4]
      split at hv
      · rename_i v hv'
        try rw [hv']
        split at hv
        · rename_i hs
          exact after_put2 h rfl root_v hc (by first | rfl | simp only [if_pos hs]) hv
        · cases hv
      · cases hv
    · cases hv
  | alloc d zs => simp only [vop] at hv ⊢; exact after_put2 h rfl root_v hc rfl hv
  | box d x =>
    have hx' : x.out N := hx x (by simp [VOp.uses])
    simp only [vop] at hv ⊢
    split at hv
    · rename_i l s1 ht
      obtain ⟨s1', k1, k2⟩ := h.take hx' ht
      rw [k1]
      exact after_put2 k2 rfl root_v hc rfl hv
    · rename_i ls s1 ht
      obtain ⟨s1', k1, k2⟩ := h.take hx' ht
      rw [k1]
      exact after_put2 k2 rfl root_v hc rfl hv
    · cases hv
  | boxM d t =>
    have hx' : ¬ N t := out_t (hx (.t t) (by simp [VOp.uses]))
    simp only [vop] at hv ⊢
    rw [h.e t hx']
    split at hv
    · rename_i ls ht
      try rw [ht]
      try simp only
      split at hv
      · cases hv
      · rename_i hdt
        try rw [if_neg hdt]
        exact after_put2 (h.put' (d := t) (av := .bad) hx' (root_none rfl) (fun _ c h => by cases h)) rfl root_v hc rfl hv
    · cases hv
  | build d zs parts =>
    simp only [vop] at hv ⊢
    split at hv
    · rename_i row s1 hp
      obtain ⟨s1', k1, k2⟩ := Agree.parts parts s s2 s1 zs row h (fun q hq => hx _ (by simp only [VOp.uses]; exact List.mem_map.2 ⟨q, hq, rfl⟩)) hp
      rw [k1]
      exact after_put2 k2 rfl root_v hc rfl hv
    · cases hv
  | mk d zs n parts =>
    simp only [vop] at hv ⊢
    split at hv
    · rename_i row s1 hp
      obtain ⟨s1', k1, k2⟩ := Agree.rows zs.length parts s s2 s1 _ row h (fun q hq => hx _ (by simp only [VOp.uses]; exact List.mem_map.2 ⟨q, hq, rfl⟩)) hp
      rw [k1]
      exact after_put2 k2 rfl root_v hc rfl hv
    · cases hv
  | load d x n agg =>
    have hx' : x.out N := hx x (by simp [VOp.uses])
    obtain ⟨p1, p2⟩ := h.place hx'
    simp only [vop] at hv ⊢
    rw [p1]
    split at hv
    · rename_i r p o hpl
      have hrC := p2 r p o hpl
      try rw [hpl]
      try simp only
      rw [h.slotAt hrC]
      split at hv
      · rename_i row hrow
        try rw [hrow]
        try simp only
        split at hv
        · rename_i c hcell
          try rw [hcell]
          try simp only
          split at hv
          · rename_i hs
            exact after_put2 h rfl root_v hc (by first | rfl | rw [if_pos hs]) hv
          · rename_i hs
            exact after_put2 h rfl (root_some (r := r) rfl hrC) hc (by first | rfl | rw [if_neg hs]) hv
        · cases hv
      · cases hv
    · rename_i hpl
      try rw [hpl]
      try simp only
      rw [h.val hx']
      split at hv
      · rename_i row o hav
        try rw [hav]
        try simp only
        split at hv
        · rename_i c hcell
          try rw [hcell]
          try simp only
          split at hv
          · rename_i hs
            exact after_put2 h rfl root_v hc (by first | rfl | rw [if_pos hs]) hv
          · cases hv
        · cases hv
      · cases hv
  | store a x n =>
    have ha : a.out N := hx a (by simp [VOp.uses])
    have hx' : x.out N := hx x (by simp [VOp.uses])
    simp only [vop] at hv ⊢
    split at hv
    · rename_i c s1 ht
      obtain ⟨s1', k1, k2⟩ := h.take hx' ht
      rw [k1]
      try simp only
      split at hv
      · cases hv
      · rename_i hcond
        try rw [if_neg hcond]
        obtain ⟨p1, p2⟩ := k2.place ha
        rw [p1]
        split at hv
        · rename_i r p o hpl
          have hrC := p2 r p o hpl
          try rw [hpl]
          try simp only
          rw [k2.slotAt hrC, k2.root hrC]
          split at hv
          · rename_i row hrow
            try rw [hrow]
            try simp only
            split at hv
            · rename_i hcond2
              try rw [if_pos hcond2]
              split at hv
              · rename_i s3 hp
                obtain ⟨s3', q1, q2⟩ := k2.poke hrC hp
                obtain rfl := (Option.some.inj hv).symm
                rw [q1]
                refine ⟨_, rfl, ?_⟩
                have e : (fun t => N t ∧ (VOp.store a x n).dst ≠ some t) = N := by
                  funext t
                  exact propext ⟨fun h => h.1, fun hn => ⟨hn, by simp [VOp.dst]⟩⟩
                rw [e]
                exact q2.mark ..
              · cases hv
            · cases hv
          · cases hv
        · cases hv
    · cases hv
  | nil d x =>
    have hx' : x.out N := hx x (by simp [VOp.uses])
    have hroot := h.vroot hx'
    simp only [vop] at hv ⊢
    rw [h.val hx']
    cases hav : s2.val x with
    | v c0 =>
      rw [hav] at hv
      cases c0 with
      | box row =>
        cases x with
        | c _ => cases hv
        | t t =>
          have hC : ¬ C t := fun hC => by cases h.cal t hC _ hav
          exact after_put2 h rfl (root_some (r := t) rfl hC) hc rfl hv
      | pbox t0 row =>
        cases x with
        | c _ => cases hv
        | t t =>
          have hC : ¬ C t := fun hC => by cases h.cal t hC _ hav
          exact after_put2 h rfl (root_some (r := t) rfl hC) hc rfl hv
      | _ => cases hv
    | ptr r p o =>
      rw [hav] at hv hroot
      simp only at hv ⊢
      rw [h.cp r p (hroot r rfl)]
      split at hv
      · rename_i hcl
        exact after_put2 h rfl (root_some (r := r) rfl (hroot r rfl)) hc (by first | rfl | rw [if_pos hcl]) hv
      · cases hv
    | iptr row o => rw [hav] at hv; exact after_put2 h rfl (root_none rfl) hc rfl hv
    | _ => rw [hav] at hv; cases hv
  | bin d op x y =>
    have h1 : x.out N := hx x (by simp [VOp.uses])
    have h2 : y.out N := hx y (by simp [VOp.uses])
    simp only [vop] at hv ⊢
    rw [h.lookX h1, h.lookX h2]
    split at hv
    · rename_i a b ha hb
      try rw [ha, hb]
      try simp only
      split at hv
      · rename_i r hr
        try rw [hr]
        exact after_put2 h rfl root_v hc rfl hv
      · cases hv
    · cases hv
  | eqs d neg es x y =>
    have h1 : x.out N := hx x (by simp [VOp.uses])
    have h2 : y.out N := hx y (by simp [VOp.uses])
    simp only [vop] at hv ⊢
    rw [h.lookX h1, h.lookX h2]
    split at hv
    · rename_i a b ha hb
      try rw [ha, hb]
      try simp only
      split at hv
      · rename_i r hr
        try rw [hr]
        exact after_put2 h rfl root_v hc rfl hv
      · cases hv
    · cases hv
  | eqb d neg x y =>
    have h1 : x.out N := hx x (by simp [VOp.uses])
    have h2 : y.out N := hx y (by simp [VOp.uses])
    simp only [vop] at hv ⊢
    rw [h.lookX h1, h.lookX h2]
    split at hv
    · rename_i a b ha hb
      try rw [ha, hb]
      exact after_put2 h rfl root_v hc rfl hv
    · cases hv
  | un d op x =>
    have h1 : x.out N := hx x (by simp [VOp.uses])
    simp only [vop] at hv ⊢
    rw [h.lookX h1]
    split at hv
    · rename_i k n ha
      try rw [ha]
      cases op with
      | neg => exact after_put2 h rfl root_v hc rfl hv
      | _ => cases hv
    · rename_i b ha
      try rw [ha]
      cases op with
      | not => exact after_put2 h rfl root_v hc rfl hv
      | _ => cases hv
    · cases hv
  | conv d k x =>
    have h1 : x.out N := hx x (by simp [VOp.uses])
    simp only [vop] at hv ⊢
    rw [h.int h1]
    split at hv
    · rename_i k' n ha
      try rw [ha]
      exact after_put2 h rfl root_v hc rfl hv
    · cases hv
  | bytes d x =>
    have h1 : x.out N := hx x (by simp [VOp.uses])
    simp only [vop] at hv ⊢
    rw [h.lookX h1]
    split at hv
    · rename_i o rows ha
      try rw [ha]
      try simp only
      split at hv
      · rename_i l hl
        try rw [hl]
        exact after_put2 h rfl root_v hc rfl hv
      · cases hv
    · cases hv
  | make d zs bytes l c =>
    have h1 : l.out N := hx l (by simp [VOp.uses])
    have h2 : c.out N := hx c (by simp [VOp.uses])
    simp only [vop] at hv ⊢
    rw [h.int h1, h.int h2]
    split at hv
    · rename_i k1 n k2 m e1 e2
      try rw [e1, e2]
      try simp only
      split at hv
      · rename_i hcond
        exact after_put2 h rfl root_v hc (by first | rfl | rw [if_pos hcond]) hv
      · cases hv
    · cases hv
  | subStr d x lo hi =>
    have h1 : x.out N := hx x (by simp [VOp.uses])
    have h2 : ∀ y, lo = some y → y.out N := fun y e => hx y (by subst e; simp [VOp.uses])
    have h3 : ∀ y, hi = some y → y.out N := fun y e => hx y (by subst e; simp [VOp.uses])
    simp only [vop] at hv ⊢
    rw [h.lookX h1]
    split at hv
    · rename_i a ha
      try rw [ha]
      try simp only
      rw [h.bound h2, h.bound h3]
      split at hv
      · rename_i l hh e1 e2
        try rw [e1, e2]
        try simp only
        split at hv
        · rename_i hcond
          exact after_put2 h rfl root_v hc (by first | rfl | rw [if_pos hcond]) hv
        · cases hv
      · cases hv
    · cases hv
  | subSl d x lo hi sz0 =>
    have h1 : x.out N := hx x (by simp [VOp.uses])
    have h2 : ∀ y, lo = some y → y.out N := fun y e => hx y (by subst e; simp [VOp.uses])
    have h3 : ∀ y, hi = some y → y.out N := fun y e => hx y (by subst e; simp [VOp.uses])
    simp only [vop] at hv ⊢
    rw [h.lookX h1]
    split at hv
    · rename_i o sz rows ha
      try rw [ha]
      try simp only
      rw [h.bound h2, h.bound h3]
      split at hv
      · rename_i l hh e1 e2
        try rw [e1, e2]
        try simp only
        split at hv
        · rename_i hcond
          try rw [if_pos hcond]
          cases o with
          | false =>
            simp only [Bool.false_eq_true, if_false] at hv ⊢
            exact after_put2 h rfl root_v hc rfl hv
          | true =>
            simp only [if_true] at hv ⊢
            cases x with
            | c _ => cases hv
            | t t =>
              have hx' : ¬ N t := out_t h1
              have hroot := h.refs t hx'
              have hcal := h.cal t
              simp only at hv ⊢
              rw [h.e t hx']
              have ha2 : s2.look (s2.e.get t) = some (.leaf (.sl true sz rows)) := ha
              have key : ∀ (r : Tmp) (p : List (Nat × Nat)) (cc : Nat), ¬ C r → (match s2.poke r p cc [.sl false sz (freezeRR rows)] with
                  | some s' => some ((s'.mark r p cc 1).put d (.v (.leaf (.sl false sz (((freezeRR rows).take hh).drop l)))))
                  | none => none) = some s2' → After1 N C (.subSl d (.t t) lo hi sz0) (match s.poke r p cc [.sl false sz (freezeRR rows)] with
                  | some s' => some ((s'.mark r p cc 1).put d (.v (.leaf (.sl false sz (((freezeRR rows).take hh).drop l)))))
                  | none => none) s2' := by
                intro r p cc hrC hv
                split at hv
                · rename_i s3 hp
                  obtain ⟨s3', q1, q2⟩ := h.poke hrC hp
                  rw [q1]
                  exact after_put2 (q2.mark r p cc 1) rfl root_v hc rfl hv
                · cases hv
              cases hav : s2.e.get t with
              | v c0 =>
                rw [hav] at hv hcal
                cases c0 with
                | leaf l0 =>
                  have hC : ¬ C t := fun hC => by
                    have := hcal hC _ rfl
                    rw [hav] at ha2
                    simp only [RS.look, Option.some.injEq, CV.leaf.injEq] at ha2
                    subst ha2
                    cases this
                  exact key t [] 0 hC hv
                | _ => cases hv
              | ld r p c n ag =>
                rw [hav] at hv hroot
                exact key r p c (hroot r rfl) hv
              | _ => rw [hav] at hv; cases hv
        · cases hv
      · cases hv
    · cases hv
  | fld d x off =>
    have hx' : x.out N := hx x (by simp [VOp.uses])
    have hroot := h.vroot hx'
    simp only [vop] at hv ⊢
    rw [h.val hx']
    cases hav : s2.val x with
    | v c0 =>
      rw [hav] at hv
      cases c0 with
      | box row =>
        cases x with
        | c _ => cases hv
        | t t =>
          have hC : ¬ C t := fun hC => by cases h.cal t hC _ hav
          exact after_put2 h rfl (root_some (r := t) rfl hC) hc rfl hv
      | pbox t0 row =>
        cases x with
        | c _ => cases hv
        | t t =>
          have hC : ¬ C t := fun hC => by cases h.cal t hC _ hav
          exact after_put2 h rfl (root_some (r := t) rfl hC) hc rfl hv
      | _ => cases hv
    | ptr r p o =>
      rw [hav] at hv hroot
      simp only at hv ⊢
      rw [h.cp r p (hroot r rfl)]
      split at hv
      · rename_i hcl
        exact after_put2 h rfl (root_some (r := r) rfl (hroot r rfl)) hc (by first | rfl | rw [if_pos hcl]) hv
      · cases hv
    | iptr row o => rw [hav] at hv; exact after_put2 h rfl (root_none rfl) hc rfl hv
    | _ => rw [hav] at hv; cases hv
  | idx d x i sz0 =>
    have h1 : x.out N := hx x (by simp [VOp.uses])
    have h2 : i.out N := hx i (by simp [VOp.uses])
    simp only [vop] at hv ⊢
    rw [h.int h2, h.lookX h1]
    split at hv
    · rename_i k n hi
      try rw [hi]
      try simp only
      split at hv
      · rename_i own sz rows ha
        try rw [ha]
        try simp only
        split at hv
        · rename_i hcond
          try rw [if_pos hcond]
          split at hv
          · rename_i row hrow
            try rw [hrow]
            try simp only
            cases own with
            | false =>
              simp only [Bool.false_eq_true, if_false] at hv ⊢
              exact after_put2 h rfl (root_none rfl) hc rfl hv
            | true =>
              simp only [if_true] at hv ⊢
              cases x with
              | c _ => cases hv
              | t t =>
                have hx' : ¬ N t := out_t h1
                have hroot := h.refs t hx'
                have hcal := h.cal t
                have ha2 : s2.look (s2.e.get t) = some (.leaf (.sl true sz rows)) := ha
                simp only at hv ⊢
                rw [h.e t hx']
                cases hav : s2.e.get t with
                | v c0 =>
                  rw [hav] at hv ha2
                  simp only [RS.look, Option.some.injEq] at ha2
                  have hC : ¬ C t := fun hC => by
                    have := hcal hC _ hav
                    subst ha2
                    cases this
                  exact after_put2 h rfl (root_some (r := t) rfl hC) hc rfl hv
                | ld r p o n ag =>
                  rw [hav] at hv hroot
                  exact after_put2 h rfl (root_some (r := r) rfl (hroot r rfl)) hc rfl hv
                | _ => rw [hav] at hv; cases hv
          · cases hv
        · cases hv
      · cases hv
    · cases hv
  | byte d x i =>
    have h1 : x.out N := hx x (by simp [VOp.uses])
    have h2 : i.out N := hx i (by simp [VOp.uses])
    simp only [vop] at hv ⊢
    rw [h.int h2, h.lookX h1]
    split at hv
    · rename_i k n a e1 e2
      try rw [e1, e2]
      try simp only
      split at hv
      · rename_i hn
        try rw [if_pos hn]
        split at hv
        · rename_i b hb
          try rw [hb]
          exact after_put2 h rfl root_v hc rfl hv
        · cases hv
      · cases hv
    · cases hv
  | len d x str =>
    have h1 : x.out N := hx x (by simp [VOp.uses])
    simp only [vop] at hv ⊢
    rw [h.lookX h1]
    split at hv
    · rename_i o sz rows ha
      try rw [ha]
      try simp only
      split at hv
      · cases hv
      · rename_i hs
        exact after_put2 h rfl root_v hc (by first | rfl | rw [if_neg hs]) hv
    · rename_i a ha
      try rw [ha]
      try simp only
      split at hv
      · rename_i hs
        exact after_put2 h rfl root_v hc (by first | rfl | rw [if_pos hs]) hv
      · cases hv
    · cases hv
  | app d x y sz bytes str =>
    have h1 : x.out N := hx x (by simp [VOp.uses])
    have h2 : y.out N := hx y (by simp [VOp.uses])
    simp only [vop] at hv ⊢
    split at hv
    · rename_i sz' rows s1 ht
      obtain ⟨s1', k1, k2⟩ := h.take h1 ht
      rw [k1]
      try simp only
      rw [k2.lookX h2]
      split at hv
      · rename_i a ha
        try rw [ha]
        try simp only
        split at hv
        · rename_i hcond
          exact after_put2 k2 rfl root_v hc (by first | rfl | rw [if_pos hcond]) hv
        · cases hv
      · rename_i sz2 rows2 ha
        try rw [ha]
        try simp only
        split at hv
        · rename_i hcond
          exact after_put2 k2 rfl root_v hc (by first | rfl | rw [if_pos hcond]) hv
        · cases hv
      · rename_i sz2 rows2 ha
        try rw [ha]
        try simp only
        split at hv
        · rename_i o3 sz3 rows3 s3 ht2
          obtain ⟨s3', q1, q2⟩ := k2.take h2 ht2
          rw [q1]
          try simp only
          split at hv
          · rename_i hcond
            exact after_put2 q2 rfl root_v hc (by first | rfl | rw [if_pos hcond]) hv
          · cases hv
        · cases hv
      · cases hv
    · cases hv
  | min d x y =>
    have h1 : x.out N := hx x (by simp [VOp.uses])
    have h2 : y.out N := hx y (by simp [VOp.uses])
    simp only [vop] at hv ⊢
    rw [h.int h1, h.int h2]
    split at hv
    · rename_i k a k' b e1 e2
      try rw [e1, e2]
      exact after_put2 h rfl root_v hc rfl hv
    · cases hv
  | call d f xs =>
    have h1 : ∀ x ∈ xs, x.out N := fun x hm => hx x (by simpa [VOp.uses] using hm)
    simp only [vop] at hv ⊢
    split at hv
    · rename_i c s3 hcall
      obtain ⟨s3', k1, k2⟩ := h.call h1 hcall
      rw [k1]
      exact after_put2 k2 rfl root_v hc rfl hv
    · rename_i res s3 hne hcall
      obtain ⟨s3', k1, k2⟩ := h.call h1 hcall
      rw [k1]
      refine after_put2 (av := .tup res) k2 rfl (root_none rfl) hc ?_ hv
      split
      · rename_i c s4 he
        simp only [Option.some.injEq, Prod.mk.injEq] at he
        obtain ⟨rfl, rfl⟩ := he
        first | exact (hne _ rfl).elim | exact (hne _ _ rfl).elim
      · rename_i he
        simp only [Option.some.injEq, Prod.mk.injEq] at he
        obtain ⟨rfl, rfl⟩ := he
        rfl
      · rename_i he; cases he
    · cases hv
  | ext d x i =>
    have h1 : x.out N := hx x (by simp [VOp.uses])
    simp only [vop] at hv ⊢
    cases x with
    | c _ => cases hv
    | t t =>
      have hx' : ¬ N t := out_t h1
      simp only at hv ⊢
      rw [h.e t hx']
      split at hv
      · rename_i cs hav
        try rw [hav]
        try simp only
        split at hv
        · rename_i c0 hci
          try rw [hci]
          try simp only
          split at hv
          · rename_i hs
            exact after_put2 h rfl root_v hc (by first | rfl | rw [if_pos hs]) hv
          · rename_i hs
            exact after_put2 (h.put' (d := t) (av := .tup (cs.set i .gone)) hx' (root_none rfl) (fun _ c h => by cases h)) rfl root_v hc (by first | rfl | rw [if_neg hs]) hv
        · cases hv
      · cases hv

end Go.VS
