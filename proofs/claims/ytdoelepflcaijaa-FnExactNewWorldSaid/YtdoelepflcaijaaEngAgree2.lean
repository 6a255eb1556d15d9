/- An operation that names none of some slots does not see them. -/
import Derived.Test.YtdoelepflcaijaaEngAgree
namespace Go.VS
open Go Go.RowKit
set_option linter.unusedSimpArgs false
set_option linter.unusedVariables false

variable {s s2 s' s2' : RS} {N C : Tmp → Prop} {x : X} {c : CV} {G : Sigs} {F : Fns}

/-- The operands that an operation names. -/
def VOp.uses : VOp → List X
  | .mv _ x | .asg _ x | .box _ x | .load _ x _ _ | .nil _ x | .un _ _ x | .conv _ _ x | .bytes _ x | .fld _ x _ | .len _ x _ | .ext _ x _ => [x]
  | .bad _ | .alloc _ _ => []
  | .pick _ c a b => [c, a, b]
  | .boxM _ t => [.t t]
  | .build _ _ ps => ps.map (·.2.2)
  | .mk _ _ _ ps => ps.map (·.2)
  | .store a x _ => [a, x]
  | .bin _ _ x y | .eqs _ _ _ x y | .eqb _ _ x y | .idx _ x y _ | .byte _ x y | .app _ x y _ _ _ | .min _ x y => [x, y]
  | .make _ _ _ l c => [l, c]
  | .subStr _ x lo hi | .subSl _ x lo hi _ => x :: (lo.toList ++ hi.toList)
  | .call _ _ xs => xs

/-- What is known behind an operation. -/
def After1 (N C : Tmp → Prop) (o : VOp) (r : Option RS) (s2' : RS) : Prop := ∃ s', r = some s' ∧ Agree (fun t => N t ∧ o.dst ≠ some t) C s' s2'

theorem after_put (h : Agree N C s s2) {o : VOp} {d : Tmp} (hd : o.dst = some d) {av : AV} (hr : ∀ r, av.root = some r → ¬ C r) (hc : C d → ∀ c, av = .v c → c.shal = true) {r : Option RS} (he : r = some (s.put d av)) (he2 : s2' = s2.put d av) : After1 N C o r s2' := by
  subst he2
  refine ⟨_, he, ?_⟩
  have := h.put d hr hc
  have e : (fun t => N t ∧ o.dst ≠ some t) = fun t => N t ∧ t ≠ d := by
    funext t
    rw [hd]
    exact propext ⟨fun h => ⟨h.1, fun e => h.2 (by rw [e])⟩, fun h => ⟨h.1, fun e => h.2 (Option.some.inj e).symm⟩⟩
  rw [e]
  exact this
theorem root_v {C : Tmp → Prop} {c : CV} : ∀ r, (AV.v c).root = some r → ¬ C r := fun r h => by cases h
theorem root_none {C : Tmp → Prop} {av : AV} (h : av.root = none) : ∀ r, av.root = some r → ¬ C r := fun r hr => by rw [h] at hr; cases hr
theorem root_some {C : Tmp → Prop} {av : AV} {r : Tmp} (h : av.root = some r) (hC : ¬ C r) : ∀ r, av.root = some r → ¬ C r := fun r' hr => by rw [h] at hr; cases hr; exact hC

theorem Agree.argV (h : Agree N C s s2) (hx : x.out N) : s.argV x = s2.argV x ∧ ∀ c r, s2.argV x = some (.v c (some r)) → ¬ C r := by
  cases x with
  | c c0 =>
    refine ⟨rfl, fun c r hh => ?_⟩
    simp only [RS.argV] at hh
    split at hh
    · simp at hh
    · cases hh
  | t t =>
    have hx' : ¬ N t := hx
    have hl : s.look (s.e.get t) = s2.look (s2.e.get t) := h.lookX (x := .t t) hx
    refine ⟨by simp only [RS.argV]; rw [hl, h.e t hx'], fun c r hh => ?_⟩
    simp only [RS.argV] at hh
    split at hh
    · rename_i c0 hl2
      split at hh
      · split at hh
        · simp at hh
        · rename_i hns
          split at hh
          · rename_i c1 hav
            simp only [Option.some.injEq, Arg.v.injEq] at hh
            obtain ⟨_, rfl⟩ := hh
            rw [hav] at hl2
            simp only [RS.look, Option.some.injEq] at hl2
            subst hl2
            exact fun hC => hns (h.cal _ hC _ hav)
          · rename_i r' p o n agg hav
            simp only [Option.some.injEq, Arg.v.injEq] at hh
            obtain ⟨_, rfl⟩ := hh
            exact h.refs t hx' _ (by rw [hav]; rfl)
          · cases hh
      · cases hh
    · cases hh

theorem Agree.argM (h : Agree N C s s2) (hx : x.out N) : s.argM x = s2.argM x ∧ (∀ c r, s2.argM x = some (.v c (some r)) → ¬ C r) ∧ ∀ c r p o, s2.argM x = some (.m c r p o) → ¬ C r := by
  cases x with
  | c c0 => exact ⟨rfl, fun c r hh => (by cases hh), fun c r p o hh => (by cases hh)⟩
  | t t =>
    have hx' : ¬ N t := hx
    have hl : s.look (s.e.get t) = s2.look (s2.e.get t) := h.lookX (x := .t t) hx
    obtain ⟨v1, v2⟩ := h.argV (x := .t t) hx
    have hrefs := h.refs t hx'
    have hcal := h.cal t
    simp only [RS.argM]
    rw [hl, v1, h.e t hx']
    by_cases hs : shalO (s2.look (s2.e.get t)) = true
    · rw [if_pos hs, if_pos hs]
      refine ⟨rfl, v2, fun c r p o hh => ?_⟩
      simp only [RS.argV] at hh
      repeat' split at hh
      all_goals cases hh
    · rw [if_neg hs, if_neg hs]
      cases hav : s2.e.get t with
      | v c0 =>
        rw [hav] at hs
        have hC : ¬ C t := fun hC => hs (hcal hC c0 hav)
        cases c0 with
        | box row => exact ⟨rfl, fun c r hh => (by cases hh), fun c r p o hh => (by cases hh; exact hC)⟩
        | leaf l => exact ⟨rfl, fun c r hh => (by cases hh), fun c r p o hh => (by cases hh; exact hC)⟩
        | agg ls => exact ⟨rfl, fun c r hh => (by cases hh), fun c r p o hh => (by cases hh; exact hC)⟩
        | pbox t0 row => exact ⟨rfl, fun c r hh => (by cases hh), fun c r p o hh => (by cases hh)⟩
        | gone => exact ⟨rfl, fun c r hh => (by cases hh), fun c r p o hh => (by cases hh)⟩
      | ptr r p o =>
        have hr : ¬ C r := hrefs r (by rw [hav]; rfl)
        cases p with
        | cons q p' => exact ⟨rfl, fun c r hh => (by cases hh), fun c r p o hh => (by cases hh)⟩
        | nil =>
          cases o with
          | succ o => exact ⟨rfl, fun c r hh => (by cases hh), fun c r p o hh => (by cases hh)⟩
          | zero =>
            simp only [h.cp r [] hr, h.root hr]
            refine ⟨trivial, fun c r' hh => ?_, fun c r' p o hh => ?_⟩
            · repeat' split at hh
              all_goals cases hh
            · repeat' split at hh
              all_goals first | (cases hh; done) | (simp only [Option.some.injEq, Arg.m.injEq] at hh; obtain ⟨_, rfl, _⟩ := hh; exact hr)
      | ld r p o n agg =>
        have hr : ¬ C r := hrefs r (by rw [hav]; rfl)
        simp only [h.look (av := .ld r p o n agg) (fun r' e => by cases e; exact hr)]
        refine ⟨trivial, fun c r' hh => ?_, fun c r' p o hh => ?_⟩
        · split at hh <;> cases hh
        · split at hh
          · simp only [Option.some.injEq, Arg.m.injEq] at hh; obtain ⟨_, rfl, _⟩ := hh; exact hr
          · cases hh
      | _ => exact ⟨rfl, fun c r hh => (by cases hh), fun c r p o hh => (by cases hh)⟩

theorem Agree.hide (h : Agree N C s s2) (rs : List Tmp) : Agree N C (s.hide rs) (s2.hide rs) := by
  have hg : ∀ (s : RS) t, (s.hide rs).e.get t = if rs.contains t then .bad else s.e.get t := fun s t => get_del ..
  refine ⟨h.sub, fun t ht => ?_, fun r p hr => ?_, fun r p x k hr => ?_, fun t ht r hr => ?_, fun t ht c hc => ?_⟩
  · rw [hg, hg, h.e t ht]
  · simp only [RS.hide, cleanP_hide, h.cp r p hr]
  · simp only [RS.hide, clean_hide, h.cl r p x k hr]
  · rw [hg] at hr
    split at hr
    · cases hr
    · exact h.refs t ht r hr
  · rw [hg] at hc
    split at hc
    · cases hc
    · exact h.cal t ht c hc
theorem Agree.given : ∀ (as : List Arg) (xs : List X) (s s2 s2' : RS) (cs : List CV), Agree N C s s2 → (∀ x ∈ xs, x.out N) → s2.given as xs = some (cs, s2') → ∃ s', s.given as xs = some (cs, s') ∧ Agree N C s' s2'
  | [], [], s, s2, s2', cs, h, hx, hg => by
    simp only [RS.given, Option.some.injEq, Prod.mk.injEq] at hg ⊢
    obtain ⟨rfl, rfl⟩ := hg
    exact ⟨s, ⟨rfl, rfl⟩, h⟩
  | [], _ :: _, s, s2, s2', cs, h, hx, hg => by simp [RS.given] at hg
  | .v .. :: _, [], s, s2, s2', cs, h, hx, hg => by simp [RS.given] at hg
  | .m .. :: _, [], s, s2, s2', cs, h, hx, hg => by simp [RS.given] at hg
  | .o :: _, [], s, s2, s2', cs, h, hx, hg => by simp [RS.given] at hg
  | .v c r :: as, x :: xs, s, s2, s2', cs, h, hx, hg => by
    simp only [RS.given] at hg ⊢
    split at hg
    · rename_i cs1 s1 h1
      simp only [Option.some.injEq, Prod.mk.injEq] at hg
      obtain ⟨rfl, rfl⟩ := hg
      obtain ⟨s', k1, k2⟩ := Agree.given as xs s s2 s1 cs1 h (fun x hx' => hx x (by simp [hx'])) h1
      exact ⟨s', by simp only [k1], k2⟩
    · cases hg
  | .m c r p o :: as, x :: xs, s, s2, s2', cs, h, hx, hg => by
    simp only [RS.given] at hg ⊢
    split at hg
    · rename_i cs1 s1 h1
      simp only [Option.some.injEq, Prod.mk.injEq] at hg
      obtain ⟨rfl, rfl⟩ := hg
      obtain ⟨s', k1, k2⟩ := Agree.given as xs s s2 s1 cs1 h (fun x hx' => hx x (by simp [hx'])) h1
      exact ⟨s', by simp only [k1], k2⟩
    · cases hg
  | .o :: as, x :: xs, s, s2, s2', cs, h, hx, hg => by
    simp only [RS.given] at hg ⊢
    split at hg
    · rename_i c s1 ht
      obtain ⟨s1', k1, k2⟩ := h.take (hx x (by simp)) ht
      split at hg
      · rename_i hf
        split at hg
        · rename_i cs1 s3 h1
          simp only [Option.some.injEq, Prod.mk.injEq] at hg
          obtain ⟨rfl, rfl⟩ := hg
          obtain ⟨s', q1, q2⟩ := Agree.given as xs s1' s1 s3 cs1 k2 (fun x hx' => hx x (by simp [hx'])) h1
          exact ⟨s', by simp only [k1, if_pos hf, q1], q2⟩
        · cases hg
      · cases hg
    · cases hg

theorem Agree.seen (h : Agree N C s s2) : ∀ (ms : List Mode) (xs : List X), (∀ x ∈ xs, x.out N) → s.seen ms xs = s2.seen ms xs ∧ ∀ as, s2.seen ms xs = some as → (∀ r ∈ rootsV as, ¬ C r) ∧ ∀ r ∈ rootsM as, ¬ C r
  | [], [], hx => ⟨rfl, fun as ha => by simp only [RS.seen, Option.some.injEq] at ha; subst ha; exact ⟨fun r hr => by simp [rootsV] at hr, fun r hr => by simp [rootsM] at hr⟩⟩
  | [], _ :: _, hx => ⟨rfl, fun as ha => by simp [RS.seen] at ha⟩
  | _ :: _, [], hx => ⟨rfl, fun as ha => by simp [RS.seen] at ha⟩
  | m :: ms, x :: xs, hx => by
    obtain ⟨k1, k2⟩ := Agree.seen h ms xs fun x hx' => hx x (by simp [hx'])
    obtain ⟨v1, v2⟩ := h.argV (hx x (by simp))
    obtain ⟨m1, m2, m3⟩ := h.argM (hx x (by simp))
    refine ⟨by simp only [RS.seen, k1, v1, m1], fun as ha => ?_⟩
    simp only [RS.seen] at ha
    split at ha
    · rename_i a as' h1 h2
      obtain rfl := (Option.some.inj ha).symm
      obtain ⟨q1, q2⟩ := k2 as' h2
      have hv : ∀ c r, a = .v c (some r) → ¬ C r := by
        intro c r e
        subst e
        cases m with
        | V => exact v2 c r h1
        | M => exact m2 c r h1
        | O => simp at h1
      have hm : ∀ c r p o, a = .m c r p o → ¬ C r := by
        intro c r p o e
        subst e
        cases m with
        | V =>
          simp only [RS.argV] at h1
          cases x <;> simp only [RS.argV] at h1 <;> (repeat' split at h1) <;> cases h1
        | M => exact m3 c r p o h1
        | O => simp at h1
      refine ⟨fun r hr => ?_, fun r hr => ?_⟩
      · cases a with
        | v c r' =>
          cases r' with
          | none => exact q1 r hr
          | some r' =>
            rcases List.mem_cons.1 hr with rfl | hr
            · exact hv c _ rfl
            · exact q1 r hr
        | _ => exact q1 r hr
      · cases a with
        | m c r' p o =>
          rcases List.mem_cons.1 hr with rfl | hr
          · exact hm c _ p o rfl
          · exact q2 r hr
        | _ => exact q2 r hr
    · cases ha

end Go.VS
