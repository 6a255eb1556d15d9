/- Slots that are alike but for some: what an operation does that names none of these. -/
import Derived.Test.YtjcjodcpiickaaaGreatDoorEngM3
import Derived.Orders
namespace Go.VS
open Go Go.RowKit
set_option linter.unusedSimpArgs false
set_option linter.unusedVariables false

variable {s s2 s' s2' : RS} {N C : Tmp → Prop} {x : X} {c : CV} {G : Sigs} {F : Fns}

/-- The root that a hold stands for a place of. -/
def AV.root : AV → Option Tmp
 | .ptr r _ _ => some r
 | .ld r _ _ _ _ => some r
 | _ => none
/-- Alike but for the slots N; C (calm slots): nothing stands for a place in them, they own nothing. -/
structure Agree (N C : Tmp → Prop) (s s2 : RS) : Prop where
 sub : ∀ t, N t → C t
 e : ∀ t, ¬ N t → s.e.get t = s2.e.get t
 cp : ∀ r p, ¬ C r → cleanP s.d r p = cleanP s2.d r p
 cl : ∀ r p x k, ¬ C r → clean s.d r p x k = clean s2.d r p x k
 refs : ∀ t, ¬ N t → ∀ r, (s2.e.get t).root = some r → ¬ C r
 cal : ∀ t, C t → ∀ c, s2.e.get t = .v c → c.shal = true

/-- An operand outside N. -/
def X.out (N : Tmp → Prop) : X → Prop
 | .t a => ¬ N a
 | .c _ => True

theorem Agree.val (h : Agree N C s s2) (hx : x.out N) : s.val x = s2.val x := by
 cases x with
 | t t => exact h.e t hx
 | c c => rfl
theorem Agree.vroot (h : Agree N C s s2) (hx : x.out N) : ∀ r, (s2.val x).root = some r → ¬ C r := by
 cases x with
 | t t => exact h.refs t hx
 | c c => intro r hr; cases hr
theorem Agree.root (h : Agree N C s s2) {r : Tmp} (hr : ¬ C r) : s.e.get r = s2.e.get r := h.e r fun hn => hr (h.sub r hn)
theorem Agree.slotAt (h : Agree N C s s2) {r : Tmp} (hr : ¬ C r) (p : List (Nat × Nat)) : VS.slotAt s.e r p = VS.slotAt s2.e r p := by
 simp only [VS.slotAt, rowOf, h.root hr]
theorem Agree.look (h : Agree N C s s2) {av : AV} (hr : ∀ r, av.root = some r → ¬ C r) : s.look av = s2.look av := by
 cases av with
 | ld r p o n agg => simp only [RS.look, h.cl r p o n (hr r rfl), h.slotAt (hr r rfl) p]
 | _ => rfl
theorem Agree.lookX (h : Agree N C s s2) (hx : x.out N) : s.look (s.val x) = s2.look (s2.val x) := by
 rw [h.val hx]; exact h.look (h.vroot hx)
theorem Agree.int (h : Agree N C s s2) (hx : x.out N) : s.int x = s2.int x := by
 simp only [RS.int, h.lookX hx]
theorem Agree.bound (h : Agree N C s s2) {d : Nat} {o : Option X} (hx : ∀ x, o = some x → x.out N) : s.bound d o = s2.bound d o := by
 cases o with
 | none => rfl
 | some x => simp only [RS.bound, h.int (hx x rfl)]

theorem Agree.put (h : Agree N C s s2) (d : Tmp) {av : AV} (hr : ∀ r, av.root = some r → ¬ C r) (hc : C d → ∀ c, av = .v c → c.shal = true) : Agree (fun t => N t ∧ t ≠ d) C (s.put d av) (s2.put d av) := by
 refine ⟨fun t ht => h.sub t ht.1, fun t ht => ?_, fun r p hr' => ?_, fun r p x k hr' => ?_, fun t ht r hr' => ?_, fun t ht c hc' => ?_⟩
 ·simp only [RS.put, get_put]
  by_cases htd : t = d
  ·rw [if_pos htd, if_pos htd]
  ·rw [if_neg htd, if_neg htd]; exact h.e t fun hn => ht ⟨hn, htd⟩
 ·have hdc : ∀ (dd : List Dirt), ¬ C r → C d → cleanP ((d, [], 0, 0) :: dd) r p = cleanP dd r p := fun dd h1 h2 => by
   have : (d == r) = false := by simpa using fun (e : d = r) => h1 (e ▸ h2)
   simp [cleanP, this]
  simp only [RS.put]
  by_cases hd : C d
  ·split <;> split <;> simp only [hdc _ hr' hd, h.cp r p hr']
  ·rw [h.root hd]
   split <;> simp only [cleanP, h.cp r p hr']
 ·have hdc : ∀ (dd : List Dirt), ¬ C r → C d → clean ((d, [], 0, 0) :: dd) r p x k = clean dd r p x k := fun dd h1 h2 => by
   have : (d == r) = false := by simpa using fun (e : d = r) => h1 (e ▸ h2)
   simp [clean, this]
  simp only [RS.put]
  by_cases hd : C d
  ·split <;> split <;> simp only [hdc _ hr' hd, h.cl r p x k hr']
  ·rw [h.root hd]
   split <;> simp only [clean, h.cl r p x k hr']
 ·simp only [RS.put, get_put] at hr'
  by_cases htd : t = d
  ·rw [if_pos htd] at hr'; exact hr r hr'
  ·rw [if_neg htd] at hr'; exact h.refs t (fun hn => ht ⟨hn, htd⟩) r hr'
 ·simp only [RS.put, get_put] at hc'
  by_cases htd : t = d
  ·rw [if_pos htd] at hc'; subst htd; exact hc ht c hc'
  ·rw [if_neg htd] at hc'; exact h.cal t ht c hc'
/-- .. where the slot is none of N. -/
theorem Agree.put' (h : Agree N C s s2) {d : Tmp} (hd : ¬ N d) {av : AV} (hr : ∀ r, av.root = some r → ¬ C r) (hc : C d → ∀ c, av = .v c → c.shal = true) : Agree N C (s.put d av) (s2.put d av) := by
 have := h.put d hr hc
 have he : (fun t => N t ∧ t ≠ d) = N := by
  funext t
  exact propext ⟨fun h => h.1, fun hn => ⟨hn, fun e => hd (e ▸ hn)⟩⟩
 rw [he] at this
 exact this
theorem Agree.mark (h : Agree N C s s2) (r : Tmp) (q : List (Nat × Nat)) (o n : Nat) : Agree N C (s.mark r q o n) (s2.mark r q o n) :=
 ⟨h.sub, h.e, fun r' p hr => by simp only [RS.mark, cleanP, h.cp r' p hr], fun r' p x k hr => by simp only [RS.mark, clean, h.cl r' p x k hr], h.refs, h.cal⟩
theorem Agree.setV (h : Agree N C s s2) {r : Tmp} (hr : ¬ C r) (c : CV) : Agree N C (s.set r (.v c)) (s2.set r (.v c)) := by
 refine ⟨h.sub, fun t ht => ?_, h.cp, h.cl, fun t ht r' hr' => ?_, fun t ht c' hc' => ?_⟩
 ·simp only [RS.set, get_put]
  by_cases htd : t = r
  ·rw [if_pos htd, if_pos htd]
  ·rw [if_neg htd, if_neg htd]; exact h.e t ht
 ·simp only [RS.set, get_put] at hr'
  by_cases htd : t = r
  ·rw [if_pos htd] at hr'; cases hr'
  ·rw [if_neg htd] at hr'; exact h.refs t ht r' hr'
 ·simp only [RS.set, get_put] at hc'
  by_cases htd : t = r
  ·exact absurd ht (htd ▸ hr)
  ·rw [if_neg htd] at hc'; exact h.cal t ht c' hc'
theorem Agree.poke (h : Agree N C s s2) {r : Tmp} (hr : ¬ C r) {p : List (Nat × Nat)} {o : Nat} {ls : List L} (hp : s2.poke r p o ls = some s2') : ∃ s', s.poke r p o ls = some s' ∧ Agree N C s' s2' := by
 unfold RS.poke at hp ⊢
 rw [h.root hr]
 split at hp
 ·rename_i c hc
  split at hp
  ·rename_i row hrow
   obtain rfl := (Option.some.inj hp).symm
   exact ⟨_, by simp only [hrow], h.setV hr _⟩
  ·cases hp
 ·cases hp
theorem Agree.take (h : Agree N C s s2) (hx : x.out N) (ht : s2.take x = some (c, s2')) : ∃ s', s.take x = some (c, s') ∧ Agree N C s' s2' := by
 cases x with
 | c c0 =>
  simp only [RS.take, Option.some.injEq, Prod.mk.injEq] at ht ⊢
  obtain ⟨rfl, rfl⟩ := ht
  exact ⟨s, ⟨rfl, rfl⟩, h⟩
 | t t =>
  have hx' : ¬ N t := hx
  have hroot := h.refs t hx'
  simp only [RS.take] at ht ⊢
  rw [h.e t hx']
  cases hav : s2.e.get t with
  | v c0 =>
   rw [hav] at ht
   have key : (if c0.shal then some (c0, s2) else some (c0, s2.put t .bad)) = some (c, s2') → ∃ s', (if c0.shal then some (c0, s) else some (c0, s.put t .bad)) = some (c, s') ∧ Agree N C s' s2' := by
    intro ht
    split at ht
    ·rename_i hs
     simp only [Option.some.injEq, Prod.mk.injEq] at ht
     obtain ⟨rfl, rfl⟩ := ht
     exact ⟨s, by rw [if_pos hs], h⟩
    ·rename_i hs
     simp only [Option.some.injEq, Prod.mk.injEq] at ht
     obtain ⟨rfl, rfl⟩ := ht
     exact ⟨_, by rw [if_neg hs], h.put' hx' (fun r hr => by cases hr) (fun _ c h => by cases h)⟩
   cases c0 with
   | pbox => cases ht
   | gone => cases ht
   | leaf l => exact key ht
   | agg ls => exact key ht
   | box row => exact key ht
  | ld r p o n agg =>
   rw [hav] at ht hroot
   have hrC := hroot r rfl
   have hl : s.look (.ld r p o n agg) = s2.look (.ld r p o n agg) := h.look (fun r' hr' => by cases hr'; exact hrC)
   simp only at ht ⊢
   rw [hl]
   split at ht
   ·rename_i c1 hc1
    split at ht
    ·rename_i hs
     simp only [Option.some.injEq, Prod.mk.injEq] at ht
     obtain ⟨rfl, rfl⟩ := ht
     exact ⟨s, by simp only [hs, if_pos], h⟩
    ·rename_i hs
     split at ht
     ·rename_i s1 hp
      simp only [Option.some.injEq, Prod.mk.injEq] at ht
      obtain ⟨rfl, rfl⟩ := ht
      obtain ⟨s1', k1, k2⟩ := h.poke hrC hp
      exact ⟨_, by simp only [if_neg hs, k1], k2.mark ..⟩
     ·cases ht
   ·cases ht
  | _ => rw [hav] at ht; cases ht

theorem Agree.place (h : Agree N C s s2) (hx : x.out N) : s.place x = s2.place x ∧ ∀ r p o, s2.place x = some (r, p, o) → ¬ C r := by
 cases x with
 | c c => exact ⟨rfl, fun r p o h => by cases h⟩
 | t t =>
  have hx' : ¬ N t := hx
  simp only [RS.place]
  rw [h.e t hx']
  cases hav : s2.e.get t with
  | v c =>
   have hcal := fun hC => h.cal t hC c hav
   cases c with
   | box row => exact ⟨rfl, fun r p o hh => by simp only [Option.some.injEq, Prod.mk.injEq] at hh; obtain ⟨rfl, _⟩ := hh; exact fun hC => by cases hcal hC⟩
   | pbox t0 row => exact ⟨rfl, fun r p o hh => by simp only [Option.some.injEq, Prod.mk.injEq] at hh; obtain ⟨rfl, _⟩ := hh; exact fun hC => by cases hcal hC⟩
   | _ => exact ⟨rfl, fun r p o hh => by cases hh⟩
  | ptr r p o =>
   have hrC := h.refs t hx' r (by rw [hav]; rfl)
   simp only [h.cp r p hrC]
   refine ⟨trivial, fun r' p' o' hh => ?_⟩
   split at hh
   ·simp only [Option.some.injEq, Prod.mk.injEq] at hh
    obtain ⟨rfl, _⟩ := hh
    exact hrC
   ·cases hh
  | _ => exact ⟨rfl, fun r p o hh => by cases hh⟩

theorem Agree.parts : ∀ (ps : List (Nat × Nat × X)) (s s2 s2' : RS) (row row' : List L), Agree N C s s2 → (∀ q ∈ ps, q.2.2.out N) → s2.parts ps row = some (row', s2') → ∃ s', s.parts ps row = some (row', s') ∧ Agree N C s' s2'
 | [], s, s2, s2', row, row', h, hx, hp => by
  simp only [RS.parts, Option.some.injEq, Prod.mk.injEq] at hp ⊢
  obtain ⟨rfl, rfl⟩ := hp
  exact ⟨s, ⟨rfl, rfl⟩, h⟩
 | (o, n, x) :: ps, s, s2, s2', row, row', h, hx, hp => by
  simp only [RS.parts] at hp ⊢
  split at hp
  ·rename_i c s1 ht
   obtain ⟨s1', k1, k2⟩ := h.take (hx (o, n, x) (by simp)) ht
   split at hp
   ·rename_i hc
    obtain ⟨s', q1, q2⟩ := Agree.parts ps s1' s1 s2' _ row' k2 (fun q hq => hx q (by simp [hq])) hp
    exact ⟨s', by simp only [k1, if_pos hc]; exact q1, q2⟩
   ·cases hp
  ·cases hp
theorem Agree.rows (sz : Nat) : ∀ (ps : List (Nat × X)) (s s2 s2' : RS) (rows rows' : List (List L)), Agree N C s s2 → (∀ q ∈ ps, q.2.out N) → s2.rows sz ps rows = some (rows', s2') → ∃ s', s.rows sz ps rows = some (rows', s') ∧ Agree N C s' s2'
 | [], s, s2, s2', rows, rows', h, hx, hp => by
  simp only [RS.rows, Option.some.injEq, Prod.mk.injEq] at hp ⊢
  obtain ⟨rfl, rfl⟩ := hp
  exact ⟨s, ⟨rfl, rfl⟩, h⟩
 | (i, x) :: ps, s, s2, s2', rows, rows', h, hx, hp => by
  simp only [RS.rows] at hp ⊢
  split at hp
  ·rename_i c s1 ht
   obtain ⟨s1', k1, k2⟩ := h.take (hx (i, x) (by simp)) ht
   split at hp
   ·rename_i hc
    obtain ⟨s', q1, q2⟩ := Agree.rows sz ps s1' s1 s2' _ rows' k2 (fun q hq => hx q (by simp [hq])) hp
    exact ⟨s', by simp only [k1, if_pos hc]; exact q1, q2⟩
   ·cases hp
  ·cases hp

end Go.VS

/- An operation that names none of some slots does not see them. -/
namespace Go.VS
open Go Go.RowKit
set_option linter.unusedSimpArgs false
set_option linter.unusedVariables false

variable {s s2 s' s2' : RS} {N C : Tmp → Prop} {x : X} {c : CV} {G : Sigs} {F : Fns}

/-- The operands that an operation names. -/
def VOp.uses : VOp → List X
 | .mv _ x | .asg _ x | .box _ x | .load _ x _ _ | .nil _ x | .un _ _ x | .conv _ _ x | .bytes _ x | .fld _ x _ | .len _ x _ | .ext _ x _ => [x]
 | .bad _ | .alloc _ _ | .stop _ => []
 | .cut0 _ x _ => [x]
 | .pick _ c a b => [c, a, b]
 | .boxM _ t => [.t t]
 | .build _ _ ps => ps.map (·.2.2)
 | .mk _ _ _ ps => ps.map (·.2)
 | .store a x _ => [a, x]
 | .bin _ _ x y | .eqs _ _ _ x y | .eqb _ _ x y | .idx _ x y _ | .byte _ x y | .app _ x y _ _ _ | .min _ x y | .max _ x y => [x, y]
 | .make _ _ _ l c => [l, c]
 | .subStr _ x lo hi | .subSl _ x lo hi _ => x :: (lo.toList ++ hi.toList)
 | .call _ _ xs => xs
 | .mkf _ _ xs => xs
 | .callD _ x xs => x :: xs

/-- What is known behind an operation. -/
def After1 (N C : Tmp → Prop) (o : VOp) (r : Option RS) (s2' : RS) : Prop := ∃ s', r = some s' ∧ Agree (fun t => N t ∧ o.dst ≠ some t) C s' s2'

theorem after_put (h : Agree N C s s2) {o : VOp} {d : Tmp} (hd : o.dst = some d) {av : AV} (hr : ∀ r, av.root = some r → ¬ C r) (hc : C d → ∀ c, av = .v c → c.shal = true) {r : Option RS} (he : r = some (s.put d av)) (he2 : s2' = s2.put d av) : After1 N C o r s2' := by
 subst he2
 refine ⟨_, he, ?_⟩
 have := h.put d hr hc
 have e : (fun t => N t ∧ o.dst ≠ some t) = fun t => N t ∧ t ≠ d := by
  funext t
  rw [hd]
  exact propext ⟨fun h => ⟨h.1, fun e => h.2 (by rw [e])⟩, fun h => ⟨h.1, fun e => h.2 (Option.some.inj e).symm⟩⟩
 rw [e]
 exact this
theorem root_v {C : Tmp → Prop} {c : CV} : ∀ r, (AV.v c).root = some r → ¬ C r := fun r h => by cases h
theorem root_none {C : Tmp → Prop} {av : AV} (h : av.root = none) : ∀ r, av.root = some r → ¬ C r := fun r hr => by rw [h] at hr; cases hr
theorem root_some {C : Tmp → Prop} {av : AV} {r : Tmp} (h : av.root = some r) (hC : ¬ C r) : ∀ r, av.root = some r → ¬ C r := fun r' hr => by rw [h] at hr; cases hr; exact hC

theorem Agree.argV (h : Agree N C s s2) (hx : x.out N) : s.argV x = s2.argV x ∧ ∀ c r, s2.argV x = some (.v c (some r)) → ¬ C r := by
 cases x with
 | c c0 =>
  refine ⟨rfl, fun c r hh => ?_⟩
  simp only [RS.argV] at hh
  split at hh
  ·simp at hh
  ·cases hh
 | t t =>
  have hx' : ¬ N t := hx
  have hl : s.look (s.e.get t) = s2.look (s2.e.get t) := h.lookX (x := .t t) hx
  refine ⟨by simp only [RS.argV]; rw [hl, h.e t hx'], fun c r hh => ?_⟩
  simp only [RS.argV] at hh
  split at hh
  ·rename_i c0 hl2
   split at hh
   ·split at hh
    ·simp at hh
    ·rename_i hns
     split at hh
     ·rename_i c1 hav
      simp only [Option.some.injEq, Arg.v.injEq] at hh
      obtain ⟨_, rfl⟩ := hh
      rw [hav] at hl2
      simp only [RS.look, Option.some.injEq] at hl2
      subst hl2
      exact fun hC => hns (h.cal _ hC _ hav)
     ·rename_i r' p o n agg hav
      simp only [Option.some.injEq, Arg.v.injEq] at hh
      obtain ⟨_, rfl⟩ := hh
      exact h.refs t hx' _ (by rw [hav]; rfl)
     ·cases hh
   ·cases hh
  ·cases hh

theorem Agree.argM (h : Agree N C s s2) (hx : x.out N) : s.argM x = s2.argM x ∧ (∀ c r, s2.argM x = some (.v c (some r)) → ¬ C r) ∧ ∀ c r p o, s2.argM x = some (.m c r p o) → ¬ C r := by
 cases x with
 | c c0 => exact ⟨rfl, fun c r hh => (by cases hh), fun c r p o hh => (by cases hh)⟩
 | t t =>
  have hx' : ¬ N t := hx
  have hl : s.look (s.e.get t) = s2.look (s2.e.get t) := h.lookX (x := .t t) hx
  obtain ⟨v1, v2⟩ := h.argV (x := .t t) hx
  have hrefs := h.refs t hx'
  have hcal := h.cal t
  simp only [RS.argM]
  rw [hl, v1, h.e t hx']
  by_cases hs : shalO (s2.look (s2.e.get t)) = true
  ·rw [if_pos hs, if_pos hs]
   refine ⟨rfl, v2, fun c r p o hh => ?_⟩
   simp only [RS.argV] at hh
   repeat' split at hh
   all_goals cases hh
  ·rw [if_neg hs, if_neg hs]
   cases hav : s2.e.get t with
   | v c0 =>
    rw [hav] at hs
    have hC : ¬ C t := fun hC => hs (hcal hC c0 hav)
    cases c0 with
    | box row => exact ⟨rfl, fun c r hh => (by cases hh), fun c r p o hh => (by cases hh; exact hC)⟩
    | leaf l => exact ⟨rfl, fun c r hh => (by cases hh), fun c r p o hh => (by cases hh; exact hC)⟩
    | agg ls => exact ⟨rfl, fun c r hh => (by cases hh), fun c r p o hh => (by cases hh; exact hC)⟩
    | pbox t0 row => exact ⟨rfl, fun c r hh => (by cases hh), fun c r p o hh => (by cases hh)⟩
    | gone => exact ⟨rfl, fun c r hh => (by cases hh), fun c r p o hh => (by cases hh)⟩
   | ptr r p o =>
    have hr : ¬ C r := hrefs r (by rw [hav]; rfl)
    cases p with
    | cons q p' => exact ⟨rfl, fun c r hh => (by cases hh), fun c r p o hh => (by cases hh)⟩
    | nil =>
     cases o with
     | succ o => exact ⟨rfl, fun c r hh => (by cases hh), fun c r p o hh => (by cases hh)⟩
     | zero =>
      simp only [h.cp r [] hr, h.root hr]
      refine ⟨trivial, fun c r' hh => ?_, fun c r' p o hh => ?_⟩
      ·repeat' split at hh
       all_goals cases hh
      ·repeat' split at hh
       all_goals first | (cases hh; done) | (simp only [Option.some.injEq, Arg.m.injEq] at hh; obtain ⟨_, rfl, _⟩ := hh; exact hr)
   | ld r p o n agg =>
    have hr : ¬ C r := hrefs r (by rw [hav]; rfl)
    simp only [h.look (av := .ld r p o n agg) (fun r' e => by cases e; exact hr)]
    refine ⟨trivial, fun c r' hh => ?_, fun c r' p o hh => ?_⟩
    ·split at hh <;> cases hh
    ·split at hh
     ·simp only [Option.some.injEq, Arg.m.injEq] at hh; obtain ⟨_, rfl, _⟩ := hh; exact hr
     ·cases hh
   | _ => exact ⟨rfl, fun c r hh => (by cases hh), fun c r p o hh => (by cases hh)⟩

theorem Agree.hide (h : Agree N C s s2) (rs : List Tmp) : Agree N C (s.hide rs) (s2.hide rs) := by
 have hg : ∀ (s : RS) t, (s.hide rs).e.get t = if rs.contains t then .bad else s.e.get t := fun s t => get_del ..
 refine ⟨h.sub, fun t ht => ?_, fun r p hr => ?_, fun r p x k hr => ?_, fun t ht r hr => ?_, fun t ht c hc => ?_⟩
 ·rw [hg, hg, h.e t ht]
 ·simp only [RS.hide, cleanP_hide, h.cp r p hr]
 ·simp only [RS.hide, clean_hide, h.cl r p x k hr]
 ·rw [hg] at hr
  split at hr
  ·cases hr
  ·exact h.refs t ht r hr
 ·rw [hg] at hc
  split at hc
  ·cases hc
  ·exact h.cal t ht c hc
theorem Agree.given : ∀ (as : List Arg) (xs : List X) (s s2 s2' : RS) (cs : List CV), Agree N C s s2 → (∀ x ∈ xs, x.out N) → s2.given as xs = some (cs, s2') → ∃ s', s.given as xs = some (cs, s') ∧ Agree N C s' s2'
 | [], [], s, s2, s2', cs, h, hx, hg => by
  simp only [RS.given, Option.some.injEq, Prod.mk.injEq] at hg ⊢
  obtain ⟨rfl, rfl⟩ := hg
  exact ⟨s, ⟨rfl, rfl⟩, h⟩
 | [], _ :: _, s, s2, s2', cs, h, hx, hg => by simp [RS.given] at hg
 | .v .. :: _, [], s, s2, s2', cs, h, hx, hg => by simp [RS.given] at hg
 | .m .. :: _, [], s, s2, s2', cs, h, hx, hg => by simp [RS.given] at hg
 | .o :: _, [], s, s2, s2', cs, h, hx, hg => by simp [RS.given] at hg
 | .v c r :: as, x :: xs, s, s2, s2', cs, h, hx, hg => by
  simp only [RS.given] at hg ⊢
  split at hg
  ·rename_i cs1 s1 h1
   simp only [Option.some.injEq, Prod.mk.injEq] at hg
   obtain ⟨rfl, rfl⟩ := hg
   obtain ⟨s', k1, k2⟩ := Agree.given as xs s s2 s1 cs1 h (fun x hx' => hx x (by simp [hx'])) h1
   exact ⟨s', by simp only [k1], k2⟩
  ·cases hg
 | .m c r p o :: as, x :: xs, s, s2, s2', cs, h, hx, hg => by
  simp only [RS.given] at hg ⊢
  split at hg
  ·rename_i cs1 s1 h1
   simp only [Option.some.injEq, Prod.mk.injEq] at hg
   obtain ⟨rfl, rfl⟩ := hg
   obtain ⟨s', k1, k2⟩ := Agree.given as xs s s2 s1 cs1 h (fun x hx' => hx x (by simp [hx'])) h1
   exact ⟨s', by simp only [k1], k2⟩
  ·cases hg
 | .o :: as, x :: xs, s, s2, s2', cs, h, hx, hg => by
  simp only [RS.given] at hg ⊢
  split at hg
  ·rename_i c s1 ht
   obtain ⟨s1', k1, k2⟩ := h.take (hx x (by simp)) ht
   split at hg
   ·rename_i hf
    split at hg
    ·rename_i cs1 s3 h1
     simp only [Option.some.injEq, Prod.mk.injEq] at hg
     obtain ⟨rfl, rfl⟩ := hg
     obtain ⟨s', q1, q2⟩ := Agree.given as xs s1' s1 s3 cs1 k2 (fun x hx' => hx x (by simp [hx'])) h1
     exact ⟨s', by simp only [k1, if_pos hf, q1], q2⟩
    ·cases hg
   ·cases hg
  ·cases hg

theorem Agree.seen (h : Agree N C s s2) : ∀ (ms : List Mode) (xs : List X), (∀ x ∈ xs, x.out N) → s.seen ms xs = s2.seen ms xs ∧ ∀ as, s2.seen ms xs = some as → (∀ r ∈ rootsV as, ¬ C r) ∧ ∀ r ∈ rootsM as, ¬ C r
 | [], [], hx => ⟨rfl, fun as ha => by simp only [RS.seen, Option.some.injEq] at ha; subst ha; exact ⟨fun r hr => by simp [rootsV] at hr, fun r hr => by simp [rootsM] at hr⟩⟩
 | [], _ :: _, hx => ⟨rfl, fun as ha => by simp [RS.seen] at ha⟩
 | _ :: _, [], hx => ⟨rfl, fun as ha => by simp [RS.seen] at ha⟩
 | m :: ms, x :: xs, hx => by
  obtain ⟨k1, k2⟩ := Agree.seen h ms xs fun x hx' => hx x (by simp [hx'])
  obtain ⟨v1, v2⟩ := h.argV (hx x (by simp))
  obtain ⟨m1, m2, m3⟩ := h.argM (hx x (by simp))
  refine ⟨by simp only [RS.seen, k1, v1, m1], fun as ha => ?_⟩
  simp only [RS.seen] at ha
  split at ha
  ·rename_i a as' h1 h2
   obtain rfl := (Option.some.inj ha).symm
   obtain ⟨q1, q2⟩ := k2 as' h2
   have hv : ∀ c r, a = .v c (some r) → ¬ C r := by
    intro c r e
    subst e
    cases m with
    | V => exact v2 c r h1
    | M => exact m2 c r h1
    | O => simp at h1
   have hm : ∀ c r p o, a = .m c r p o → ¬ C r := by
    intro c r p o e
    subst e
    cases m with
    | V =>
     simp only [RS.argV] at h1
     cases x <;> simp only [RS.argV] at h1 <;> (repeat' split at h1) <;> cases h1
    | M => exact m3 c r p o h1
    | O => simp at h1
   refine ⟨fun r hr => ?_, fun r hr => ?_⟩
   ·cases a with
    | v c r' =>
     cases r' with
     | none => exact q1 r hr
     | some r' =>
      rcases List.mem_cons.1 hr with rfl | hr
      ·exact hv c _ rfl
      ·exact q1 r hr
    | _ => exact q1 r hr
   ·cases a with
    | m c r' p o =>
     rcases List.mem_cons.1 hr with rfl | hr
     ·exact hm c _ p o rfl
     ·exact q2 r hr
    | _ => exact q2 r hr
  ·cases ha

end Go.VS

/- A whole call does not see slots that it does not name. -/
namespace Go.VS
open Go Go.RowKit
set_option linter.unusedSimpArgs false
set_option linter.unusedVariables false

variable {s s2 s' s2' : RS} {N C : Tmp → Prop} {x : X} {c : CV} {G : Sigs} {F : Fns}

theorem Agree.setA (h : Agree N C s s2) {r : Tmp} (hr : ¬ C r) {av : AV} (hav : ∀ r', av.root = some r' → ¬ C r') : Agree N C (s.set r av) (s2.set r av) := by
 refine ⟨h.sub, fun t ht => ?_, h.cp, h.cl, fun t ht r' hr' => ?_, fun t ht c' hc' => ?_⟩
 ·simp only [RS.set, get_put]
  by_cases htd : t = r
  ·rw [if_pos htd, if_pos htd]
  ·rw [if_neg htd, if_neg htd]; exact h.e t ht
 ·simp only [RS.set, get_put] at hr'
  by_cases htd : t = r
  ·rw [if_pos htd] at hr'; exact hav r' hr'
  ·rw [if_neg htd] at hr'; exact h.refs t ht r' hr'
 ·simp only [RS.set, get_put] at hc'
  by_cases htd : t = r
  ·exact absurd ht (htd ▸ hr)
  ·rw [if_neg htd] at hc'; exact h.cal t ht c' hc'

theorem Agree.back {s0 s02 : RS} (h0 : Agree N C s0 s02) : ∀ (as : List Arg) (cs : List CV) (s s2 s2' : RS), Agree N C s s2 → (∀ r ∈ rootsV as, ¬ C r) → (∀ r ∈ rootsM as, ¬ C r) → s02.back s2 as cs = some s2' → ∃ s', s0.back s as cs = some s' ∧ Agree N C s' s2'
 | [], [], s, s2, s2', h, hv, hm, hb => by
  simp only [RS.back, Option.some.injEq] at hb ⊢
  subst hb
  exact ⟨s, rfl, h⟩
 | [], _ :: _, s, s2, s2', h, hv, hm, hb => by simp [RS.back] at hb
 | .v _ none :: _, [], s, s2, s2', h, hv, hm, hb => by simp [RS.back] at hb
 | .v _ (some _) :: _, [], s, s2, s2', h, hv, hm, hb => by simp [RS.back] at hb
 | .m .. :: _, [], s, s2, s2', h, hv, hm, hb => by simp [RS.back] at hb
 | .o :: _, [], s, s2, s2', h, hv, hm, hb => by simp [RS.back] at hb
 | .v c none :: as, c1 :: cs, s, s2, s2', h, hv, hm, hb => by
  simp only [RS.back] at hb ⊢
  exact Agree.back h0 as cs s s2 s2' h hv hm hb
 | .o :: as, c1 :: cs, s, s2, s2', h, hv, hm, hb => by
  simp only [RS.back] at hb ⊢
  exact Agree.back h0 as cs s s2 s2' h hv hm hb
 | .v c (some r) :: as, c1 :: cs, s, s2, s2', h, hv, hm, hb => by
  simp only [RS.back] at hb ⊢
  have hr : ¬ C r := hv r (by simp [rootsV])
  rw [h0.root hr]
  exact Agree.back h0 as cs _ _ s2' (h.setA hr (h0.refs r fun hn => hr (h0.sub r hn))) (fun r' hr' => hv r' (by simp [rootsV, hr'])) hm hb
 | .m c r p o :: as, c1 :: cs, s, s2, s2', h, hv, hm, hb => by
  simp only [RS.back] at hb ⊢
  have hr : ¬ C r := hm r (by simp [rootsM])
  rw [h0.root hr]
  split at hb
  ·rename_i cr hcr
   split at hb
   ·rename_i cr' n hl
    obtain ⟨s', k1, k2⟩ := Agree.back h0 as cs _ _ s2' ((h.setV hr cr').mark r [] 0 n) hv (fun r' hr' => hm r' (by simp [rootsM, hr'])) hb
    exact ⟨s', k1, k2⟩
   ·cases hb
  ·cases hb

end Go.VS

/- A whole operation does not see slots that it does not name. -/
namespace Go.VS
open Go Go.RowKit
set_option linter.unusedSimpArgs false
set_option linter.unusedVariables false

variable {s s2 s' s2' : RS} {N C : Tmp → Prop} {x : X} {c : CV} {G : Sigs} {F : Fns}

theorem out_t {N : Tmp → Prop} {t : Tmp} (h : (X.t t).out N) : ¬ N t := h
/-- Taking alike marks alike. -/
theorem Agree.take_pre (h : Agree N C s s2) (hx : x.out N) (ht : s2.take x = some (c, s2')) : ∃ s' pre, s.take x = some (c, s') ∧ Agree N C s' s2' ∧ s'.d = pre ++ s.d ∧ s2'.d = pre ++ s2.d := by
 obtain ⟨s', k1, k2⟩ := h.take hx ht
 cases x with
 | c c0 =>
  simp only [RS.take, Option.some.injEq, Prod.mk.injEq] at ht k1
  obtain ⟨rfl, rfl⟩ := ht
  obtain ⟨_, rfl⟩ := k1
  exact ⟨_, [], by simp only [RS.take], k2, rfl, rfl⟩
 | t t =>
  refine ⟨s', ?_⟩
  have hx' : ¬ N t := hx
  have k0 := k1
  simp only [RS.take] at ht k1
  rw [h.e t hx'] at k1
  cases hav : s2.e.get t with
  | v c0 =>
   rw [hav] at ht k1
   have key : (if c0.shal then some (c0, s2) else some (c0, s2.put t .bad)) = some (c, s2') → (if c0.shal then some (c0, s) else some (c0, s.put t .bad)) = some (c, s') → ∃ pre, s'.d = pre ++ s.d ∧ s2'.d = pre ++ s2.d := by
    intro ht k1
    split at ht
    ·rename_i hs
     rw [if_pos hs] at k1
     simp only [Option.some.injEq, Prod.mk.injEq] at ht k1
     obtain ⟨rfl, rfl⟩ := ht
     obtain ⟨_, rfl⟩ := k1
     exact ⟨[], rfl, rfl⟩
    ·rename_i hs
     rw [if_neg hs] at k1
     simp only [Option.some.injEq, Prod.mk.injEq] at ht k1
     obtain ⟨rfl, rfl⟩ := ht
     obtain ⟨_, rfl⟩ := k1
     refine ⟨[(t, [], 0, 0)], ?_, ?_⟩
     ·simp only [RS.put, h.e t hx', hav, AV.isV, if_true, List.singleton_append]
     ·simp only [RS.put, hav, AV.isV, if_true, List.singleton_append]
   cases c0 with
   | pbox => cases ht
   | gone => cases ht
   | leaf l => obtain ⟨pre, q1, q2⟩ := key ht k1; exact ⟨pre, k0, k2, q1, q2⟩
   | agg ls => obtain ⟨pre, q1, q2⟩ := key ht k1; exact ⟨pre, k0, k2, q1, q2⟩
   | box row => obtain ⟨pre, q1, q2⟩ := key ht k1; exact ⟨pre, k0, k2, q1, q2⟩
  | ld r p o n agg =>
   rw [hav] at ht k1
   have hrC := h.refs t hx' r (by rw [hav]; rfl)
   have hl : s.look (.ld r p o n agg) = s2.look (.ld r p o n agg) := h.look (fun r' hr' => by cases hr'; exact hrC)
   simp only at ht k1
   rw [hl] at k1
   split at ht
   ·rename_i c1 hc1
    split at ht
    ·rename_i hs
     rw [hc1] at k1
     simp only [hs, if_pos, Option.some.injEq, Prod.mk.injEq] at ht k1
     obtain ⟨rfl, rfl⟩ := ht
     obtain ⟨_, rfl⟩ := k1
     exact ⟨[], k0, k2, rfl, rfl⟩
    ·rename_i hs
     rw [hc1] at k1
     simp only [if_neg hs] at k1
     split at ht
     ·rename_i s1 hp
      obtain ⟨s1', j1, j2⟩ := h.poke hrC hp
      rw [j1] at k1
      simp only [Option.some.injEq, Prod.mk.injEq] at ht k1
      obtain ⟨rfl, rfl⟩ := ht
      obtain ⟨_, rfl⟩ := k1
      refine ⟨[(r, p, o, n)], k0, k2, ?_, ?_⟩
      ·have : s1'.d = s.d := by
        unfold RS.poke at j1
        repeat' split at j1
        all_goals first | (obtain rfl := (Option.some.inj j1).symm; rfl) | cases j1
       simp only [RS.mark, this, List.singleton_append]
      ·have : s1.d = s2.d := by
        unfold RS.poke at hp
        repeat' split at hp
        all_goals first | (obtain rfl := (Option.some.inj hp).symm; rfl) | cases hp
       simp only [RS.mark, this, List.singleton_append]
     ·cases ht
   ·cases ht
  | _ => rw [hav] at ht; cases ht

theorem Agree.given_pre : ∀ (as : List Arg) (xs : List X) (s s2 s2' : RS) (cs : List CV), Agree N C s s2 → (∀ x ∈ xs, x.out N) → s2.given as xs = some (cs, s2') → ∃ s' pre, s.given as xs = some (cs, s') ∧ Agree N C s' s2' ∧ s'.d = pre ++ s.d ∧ s2'.d = pre ++ s2.d
 | [], [], s, s2, s2', cs, h, hx, hg => by
  simp only [RS.given, Option.some.injEq, Prod.mk.injEq] at hg ⊢
  obtain ⟨rfl, rfl⟩ := hg
  exact ⟨s, [], ⟨rfl, rfl⟩, h, rfl, rfl⟩
 | [], _ :: _, s, s2, s2', cs, h, hx, hg => by simp [RS.given] at hg
 | .v .. :: _, [], s, s2, s2', cs, h, hx, hg => by simp [RS.given] at hg
 | .m .. :: _, [], s, s2, s2', cs, h, hx, hg => by simp [RS.given] at hg
 | .o :: _, [], s, s2, s2', cs, h, hx, hg => by simp [RS.given] at hg
 | .v c r :: as, x :: xs, s, s2, s2', cs, h, hx, hg => by
  simp only [RS.given] at hg ⊢
  split at hg
  ·rename_i cs1 s1 h1
   simp only [Option.some.injEq, Prod.mk.injEq] at hg
   obtain ⟨rfl, rfl⟩ := hg
   obtain ⟨s', pre, k1, k2⟩ := Agree.given_pre as xs s s2 s1 cs1 h (fun x hx' => hx x (by simp [hx'])) h1
   exact ⟨s', pre, by simp only [k1], k2⟩
  ·cases hg
 | .m c r p o :: as, x :: xs, s, s2, s2', cs, h, hx, hg => by
  simp only [RS.given] at hg ⊢
  split at hg
  ·rename_i cs1 s1 h1
   simp only [Option.some.injEq, Prod.mk.injEq] at hg
   obtain ⟨rfl, rfl⟩ := hg
   obtain ⟨s', pre, k1, k2⟩ := Agree.given_pre as xs s s2 s1 cs1 h (fun x hx' => hx x (by simp [hx'])) h1
   exact ⟨s', pre, by simp only [k1], k2⟩
  ·cases hg
 | .o :: as, x :: xs, s, s2, s2', cs, h, hx, hg => by
  simp only [RS.given] at hg ⊢
  split at hg
  ·rename_i c s1 ht
   obtain ⟨s1', pre1, k1, k2, k3, k4⟩ := h.take_pre (hx x (by simp)) ht
   split at hg
   ·rename_i hf
    split at hg
    ·rename_i cs1 s3 h1
     simp only [Option.some.injEq, Prod.mk.injEq] at hg
     obtain ⟨rfl, rfl⟩ := hg
     obtain ⟨s', pre2, q1, q2, q3, q4⟩ := Agree.given_pre as xs s1' s1 s3 cs1 k2 (fun x hx' => hx x (by simp [hx'])) h1
     exact ⟨s', pre2 ++ pre1, by simp only [k1, if_pos hf, q1], q2, by rw [q3, k3, List.append_assoc], by rw [q4, k4, List.append_assoc]⟩
    ·cases hg
   ·cases hg
  ·cases hg

theorem Agree.core {f : FuncId} {own : Bool} {modes : List Mode} {xs : List X} {res outs : List CV} {as : List Arg} (h : Agree N C s s2) (hx : ∀ x ∈ xs, x.out N) (hc : s2.core F f own modes xs = some (res, outs, as, s2')) : ∃ s', s.core F f own modes xs = some (res, outs, as, s') ∧ Agree N C s' s2' ∧ ∀ r ∈ rootsM as, ¬ C r := by
 unfold RS.core at hc ⊢
 obtain ⟨k1, k2⟩ := h.seen modes xs hx
 split at hc
 ·rename_i as' has
  obtain ⟨hv, hm⟩ := k2 as' has
  rw [has] at k1
  split at hc
  ·rename_i hcond
   split at hc
   ·rename_i cs s1 hgiv
    obtain ⟨s1', pre, q1, q2, q3, q4⟩ := Agree.given_pre as' xs _ _ s1 cs (h.hide (rootsM as' ++ rootsV as')) hx hgiv
    split at hc
    ·rename_i res' outs' hF
     split at hc
     ·rename_i s3 hb
      simp only [Option.some.injEq, Prod.mk.injEq] at hc
      obtain ⟨rfl, rfl, rfl, rfl⟩ := hc
      have htake : ∀ (d : List Dirt) (pre d0 : List Dirt), d = pre ++ (((rootsM as' ++ rootsV as').map fun r => (r, [], 0, 0)) ++ d0) → d.take (d.length - ((rootsM as').length + (rootsV as').length + d0.length)) = pre := by
       intro d pre d0 e
       subst e
       have : (pre ++ (((rootsM as' ++ rootsV as').map fun r => ((r, [], 0, 0) : Dirt)) ++ d0)).length - ((rootsM as').length + (rootsV as').length + d0.length) = pre.length := by
        simp only [List.length_append, List.length_map]; omega
       rw [this, List.take_left]
      have e1 := htake s1.d pre s2.d (by rw [q4]; rfl)
      have e2 := htake s1'.d pre s.d (by rw [q3]; rfl)
      rw [e1] at hb
      have hag : Agree N C ⟨s1'.e, pre ++ s.d⟩ ⟨s1.e, pre ++ s2.d⟩ :=
       ⟨h.sub, q2.e, fun r p hr => by simp only [cleanP_append, h.cp r p hr], fun r p x k hr => by simp only [clean_append, h.cl r p x k hr], q2.refs, q2.cal⟩
      obtain ⟨s', j1, j2⟩ := Agree.back h as' _ _ _ s3 hag hv hm hb
      refine ⟨s', ?_, j2, hm⟩
      simp only [k1, if_pos hcond, q1, hF, e2, j1]
     ·cases hc
    ·cases hc
   ·cases hc
  ·cases hc
 ·cases hc
theorem Agree.lendAt (h : Agree N C s s2) : ∀ (ms : List Mode) (xs : List X) (j : Nat), (∀ x ∈ xs, x.out N) → s.lendAt ms xs j = s2.lendAt ms xs j
 | [], xs, j, hx => by simp [RS.lendAt]
 | m :: ms, [], j, hx => by cases m <;> simp [RS.lendAt]
 | m :: ms, x :: xs, j, hx => by
  have ih := Agree.lendAt h ms xs (j + 1) fun x hx' => hx x (by simp [hx'])
  cases m with
  | M =>
   cases x with
   | t t =>
    have hl : s.look (s.e.get t) = s2.look (s2.e.get t) := h.lookX (x := .t t) (hx (.t t) (by simp))
    simp only [RS.lendAt, hl, ih]
   | c c0 => simp only [RS.lendAt, ih]
  | _ => simp only [RS.lendAt, ih]
theorem Agree.relay {sb sb2 : RS} {ms : List Tmp} {t : Tmp} {av : AV} (h0 : Agree N C sb sb2) (h : Agree N C s s2) (ht : ¬ N t) (hroot : ∀ r, av.root = some r → ¬ C r) (hcal : C t → ∀ c, av = .v c → c.shal = true) (hav : ∀ c, av = .v c → c.shal = false) (hr : sb2.relay s2 ms t c av = some s2') : ∃ s', sb.relay s ms t c av = some s' ∧ Agree N C s' s2' := by
 cases av with
 | v c0 =>
  simp only [RS.relay] at hr ⊢
  split at hr
  ·rename_i hf
   obtain rfl := Option.some.inj hr
   exact ⟨_, by rw [if_pos hf], h.put' ht root_v fun hC c' _ => by have := hcal hC c0 rfl; rw [hav c0 rfl] at this; cases this⟩
  ·cases hr
 | ld r p o n agg =>
  have hrC := hroot r rfl
  simp only [RS.relay] at hr ⊢
  rw [h.slotAt hrC, show rowOf sb.e r = rowOf sb2.e r by simp only [rowOf, h0.root hrC], show rowOf s.e r = rowOf s2.e r by simp only [rowOf, h.root hrC]]
  split at hr
  ·rename_i row r0 r2 e1 e2 e3
   try rw [e1, e2, e3]
   try simp only
   split at hr
   ·rename_i hcond
    rw [if_pos hcond]
    split at hr
    ·rename_i s3 hp
     obtain ⟨s3', q1, q2⟩ := h.poke hrC hp
     obtain rfl := Option.some.inj hr
     exact ⟨_, by rw [q1], q2.mark ..⟩
    ·cases hr
   ·cases hr
  ·cases hr
 | _ => cases hr
theorem frz_root (av : AV) : (frz av).root = none := by
 unfold frz
 split
 ·split <;> rfl
 ·rfl
theorem freeze_shal {c : CV} (h : c.flat = true) : c.freeze.shal = true := by
 have hl : ∀ l : L, l.freeze.own = false := fun l => by
  cases l with
  | sl o sz rows => cases o <;> simp [L.freeze, L.own]
  | _ => simp [L.freeze, L.own]
 have hr : ∀ ls : List L, ownR (freezeR ls) = false := fun ls => by
  induction ls with
  | nil => rfl
  | cons l ls ih => simp [freezeR, ownR, hl l, ih]
 cases c with
 | leaf l => simp [CV.freeze, CV.shal, hl l]
 | agg ls => simp [CV.freeze, CV.shal, hr ls]
 | _ => cases h
theorem argV_shal {s : RS} {x : X} {c : CV} {r : Option Tmp} (h : s.argV x = some (.v c r)) : c.shal = true := by
 cases x with
 | c c0 =>
  simp only [RS.argV] at h
  split at h
  ·rename_i hf
   obtain ⟨rfl, _⟩ := (by simpa using h : c0.freeze = c ∧ none = r)
   exact freeze_shal hf
  ·cases h
 | t t =>
  simp only [RS.argV] at h
  split at h
  ·rename_i c0 hl
   split at h
   ·rename_i hf
    split at h
    ·simp only [Option.some.injEq, Arg.v.injEq] at h
     obtain ⟨rfl, _⟩ := h
     exact freeze_shal hf
    ·split at h
     ·simp only [Option.some.injEq, Arg.v.injEq] at h
      obtain ⟨rfl, _⟩ := h
      exact freeze_shal hf
     ·simp only [Option.some.injEq, Arg.v.injEq] at h
      obtain ⟨rfl, _⟩ := h
      exact freeze_shal hf
     ·cases h
   ·cases h
  ·cases h
theorem argM_shal {s : RS} {x : X} {c : CV} {r : Option Tmp} (h : s.argM x = some (.v c r)) : c.shal = true := by
 cases x with
 | c c0 => cases h
 | t t =>
  simp only [RS.argM] at h
  split at h
  ·exact argV_shal h
  ·split at h
   ·simp at h
   ·simp at h
   ·simp at h
   ·split at h
    ·split at h
     ·simp at h
     ·cases h
    ·cases h
   ·split at h
    ·simp at h
    ·cases h
   ·cases h
theorem seen_shal {s : RS} : ∀ {ms : List Mode} {xs : List X} {as : List Arg}, s.seen ms xs = some as → ∀ (j : Nat) c r, as[j]? = some (.v c r) → c.shal = true
 | [], [], as, h, j, c, r, hj => by simp [RS.seen] at h; subst h; simp at hj
 | [], _ :: _, as, h, j, c, r, hj => by simp [RS.seen] at h
 | _ :: _, [], as, h, j, c, r, hj => by simp [RS.seen] at h
 | m :: ms, x :: xs, as, h, j, c, r, hj => by
  simp only [RS.seen] at h
  split at h
  ·rename_i a as' h1 h2
   obtain rfl := (Option.some.inj h).symm
   cases j with
   | zero =>
    simp at hj
    subst hj
    cases m with
    | V => exact argV_shal h1
    | M => exact argM_shal h1
    | O => simp at h1
   | succ j => exact seen_shal h2 j c r (by simpa using hj)
  ·cases h
theorem Agree.fzA : ∀ (as : List Arg) (xs : List X) {s s2 : RS}, Agree N C s s2 → (∀ r ∈ rootsV as, ¬ C r) → (∀ x ∈ xs, x.out N) → (∀ (j : Nat) c r, as[j]? = some (.v c r) → c.shal = true) → Agree N C (s.fzA as xs) (s2.fzA as xs)
 | [], xs, s, s2, h, _, _, _ => h
 | a :: as, [], s, s2, h, _, _, _ => h
 | a :: as, x :: xs, s, s2, h, hc, hx, hsh => by
  simp only [RS.fzA]
  have hsh' : ∀ (j : Nat) c r, as[j]? = some (.v c r) → c.shal = true := fun j c r e => hsh (j + 1) c r (by simpa using e)
  have hx' : ∀ x ∈ xs, x.out N := fun x hm => hx x (by simp [hm])
  match a, x, hc, hx, hsh with
  | .v c (some r), .t t, hc, hx, hsh =>
   have hr : ¬ C r := hc r (by simp [rootsV])
   have hn : ¬ N r := fun hn => hr (h.sub r hn)
   have ht : ¬ N t := out_t (hx (.t t) (by simp))
   simp only [fz1]
   rw [h.root hr]
   exact Agree.fzA as xs ((h.put' hn (root_none (frz_root _)) fun hC => absurd hC hr).put' ht (root_none rfl) fun _ c' e => by cases e; exact hsh 0 c (some r) rfl) (fun r' hr' => hc r' (by simp [rootsV, hr'])) hx' hsh'
  | .v c (some r), .c c', hc, hx, hsh => exact Agree.fzA as xs h (fun r' hr' => hc r' (by simp [rootsV, hr'])) hx' hsh'
  | .v c none, _, hc, hx, hsh => exact Agree.fzA as xs h (fun r' hr' => hc r' (by simpa [rootsV] using hr')) hx' hsh'
  | .m .., _, hc, hx, hsh => exact Agree.fzA as xs h (fun r' hr' => hc r' (by simpa [rootsV] using hr')) hx' hsh'
  | .o, _, hc, hx, hsh => exact Agree.fzA as xs h (fun r' hr' => hc r' (by simpa [rootsV] using hr')) hx' hsh'
theorem Agree.fzV (h : Agree N C s s2) (own : Bool) (ms : List Mode) {xs : List X} (hx : ∀ x ∈ xs, x.out N) : Agree N C (s.fzV own ms xs) (s2.fzV own ms xs) := by
 unfold RS.fzV
 split
 ·exact h
 ·obtain ⟨k1, k2⟩ := h.seen ms xs hx
  rw [k1]
  cases hs : s2.seen ms xs with
  | none => exact h
  | some as => exact h.fzA as xs (k2 as hs).1 hx (fun j c r hj => seen_shal hs j c r hj)
theorem Agree.call {f : FuncId} {xs : List X} {res : List CV} (h : Agree N C s s2) (hx : ∀ x ∈ xs, x.out N) (hc : s2.call G F f xs = some (res, s2')) : ∃ s', s.call G F f xs = some (res, s') ∧ Agree N C s' s2' := by
 unfold RS.call at hc ⊢
 split at hc
 ·rename_i g hg
  try rw [hg]
  try simp only
  rw [h.lendAt g.modes xs 0 hx]
  split at hc
  ·rename_i hle
   try rw [hle]
   try simp only
   split at hc
   ·rename_i res' outs as s3 hcore
    simp only [Option.some.injEq, Prod.mk.injEq] at hc
    obtain ⟨rfl, rfl⟩ := hc
    obtain ⟨s', k1, k2, _⟩ := (h.fzV g.own g.modes hx).core hx hcore
    exact ⟨s', by rw [k1], k2⟩
   ·cases hc
  ·rename_i j t hle
   obtain ⟨i, e1, e2, e3, c1, e4, e5, e6⟩ := lendAt_spec hle
   have ht : ¬ N t := out_t (hx (.t t) (List.mem_of_getElem? e2))
   try rw [hle]
   try simp only
   split at hc
   ·rename_i res' outs as s3 hcore
    obtain ⟨s', k1, k2, _⟩ := h.core hx hcore
    rw [k1]
    simp only
    split at hc
    ·rename_i c hout
     try rw [hout]
     try simp only
     rw [h.e t ht]
     split at hc
     ·rename_i s4 hrel
      simp only [Option.some.injEq, Prod.mk.injEq] at hc
      obtain ⟨rfl, rfl⟩ := hc
      obtain ⟨s'', q1, q2⟩ := Agree.relay h k2 ht (h.refs t ht) (fun hC c hc => h.cal t hC c hc) (fun c hc => by
       rw [hc] at e4
       simp only [RS.look, Option.some.injEq] at e4
       rw [e4]; exact e6) hrel
      exact ⟨s'', by rw [q1], q2⟩
     ·cases hc
    ·cases hc
   ·cases hc
 ·cases hc

theorem after_put2 (h : Agree N C s s2) {o : VOp} {d : Tmp} (hd : o.dst = some d) {av : AV} (hr : ∀ r, av.root = some r → ¬ C r) (hc : ∀ d, o.dst = some d → C d → ∀ c, s2'.e.get d = .v c → c.shal = true) {r : Option RS} (he : r = some (s.put d av)) (he2 : some (s2.put d av) = some s2') : After1 N C o r s2' := by
 obtain rfl := (Option.some.inj he2).symm
 refine after_put h hd hr (fun hC c hav => hc d hd hC c ?_) he rfl
 simp only [RS.put, get_put, if_true, hav]

theorem vop_agree (h : Agree N C s s2) {o : VOp} (hx : ∀ x ∈ o.uses, x.out N) (hv : vop G F s2 o = some s2') (hc : ∀ d, o.dst = some d → C d → ∀ c, s2'.e.get d = .v c → c.shal = true) : After1 N C o (vop G F s o) s2' := by
 cases o with
 | mv d x =>
  have hx' : x.out N := hx x (by simp [VOp.uses])
  have hroot := h.vroot hx'
  simp only [vop] at hv ⊢
  rw [h.val hx']
  cases hav : s2.val x with
  | v c0 =>
   rw [hav] at hv
   simp only at hv ⊢
   by_cases hs : c0.shal = true
   ·rw [if_pos hs] at hv
    exact after_put2 h rfl root_v hc (by first | rfl | rw [if_pos hs]) hv
   ·rw [if_neg hs] at hv
    cases x with
    | c _ => exact after_put2 h rfl root_v hc (by first | rfl | rw [if_neg hs]) hv
    | t t =>
     have hC : ¬ C t := fun hC => hs (h.cal t hC c0 hav)
     cases c0 with
     | box row => exact after_put2 h rfl (root_some (r := t) rfl hC) hc (by first | rfl | rw [if_neg hs]) hv
     | pbox t0 row => exact after_put2 h rfl (root_some (r := t) rfl hC) hc (by first | rfl | rw [if_neg hs]) hv
     | leaf l => exact after_put2 h rfl (root_some (r := t) rfl hC) hc (by first | rfl | rw [if_neg hs]) hv
     | agg ls => exact after_put2 h rfl (root_some (r := t) rfl hC) hc (by first | rfl | rw [if_neg hs]) hv
     | gone => cases hv
  | ld r p o n a => rw [hav] at hv hroot; exact after_put2 h rfl (root_some (r := r) rfl (hroot r rfl)) hc rfl hv
  | ptr r p o => rw [hav] at hv hroot; exact after_put2 h rfl (root_some (r := r) rfl (hroot r rfl)) hc rfl hv
  | iptr row o => rw [hav] at hv; exact after_put2 h rfl (root_none rfl) hc rfl hv
  | un => rw [hav] at hv; exact after_put2 h rfl (root_none rfl) hc rfl hv
  | bad => rw [hav] at hv; cases hv
  | tup cs =>
   rw [hav] at hv
   cases x with
   | c _ => cases hv
   | t t =>
    simp only at hv ⊢
    split at hv
    ·cases hv
    ·rename_i hdt
     try rw [if_neg hdt]
     exact after_put2 (h.put' (d := t) (av := .bad) hx' (root_none rfl) (fun _ c h => by cases h)) rfl (root_none rfl) hc rfl hv
 | asg d x =>
  have hx' : x.out N := hx x (by simp [VOp.uses])
  have hroot := h.vroot hx'
  have key : ∀ q : Option (CV × RS), s2.take x = q → (match q with | some (c, s') => some (s'.put d (.v c)) | none => none) = some s2' → After1 N C (.asg d x) (match s.take x with | some (c, s') => some (s'.put d (.v c)) | none => none) s2' := by
   intro q hq hv
   cases q with
   | none => cases hv
   | some q =>
    obtain ⟨c, s1⟩ := q
    obtain ⟨s1', k1, k2⟩ := h.take hx' hq
    exact after_put2 k2 rfl root_v hc (by rw [k1]) hv
  simp only [vop] at hv ⊢
  rw [h.val hx']
  cases hav : s2.val x with
  | ptr r p o => rw [hav] at hv hroot; exact after_put2 h rfl (root_some (r := r) rfl (hroot r rfl)) hc rfl hv
  | iptr row o => rw [hav] at hv; exact after_put2 h rfl (root_none rfl) hc rfl hv
  | _ => rw [hav] at hv; exact key _ rfl hv
 | bad d => simp only [vop] at hv ⊢; exact after_put2 h rfl (root_none rfl) hc rfl hv
 | pick d c a b =>
  have h1 : c.out N := hx c (by simp [VOp.uses])
  have h2 : a.out N := hx a (by simp [VOp.uses])
  have h3 : b.out N := hx b (by simp [VOp.uses])
  simp only [vop] at hv ⊢
  rw [h.lookX h1]
  split at hv
  ·rename_i t ht
   try rw [ht]
   have h4 : (if t = true then a else b).out N := by split <;> assumption
   try simp only
   rw [h.lookX h4]
   split at hv
   ·rename_i v hv'
    try rw [hv']
    split at hv
    ·rename_i hs
     exact after_put2 h rfl root_v hc (by first | rfl | simp only [if_pos hs]) hv
    ·cases hv
   ·cases hv
  ·cases hv
 | alloc d zs => simp only [vop] at hv ⊢; exact after_put2 h rfl root_v hc rfl hv
 | box d x =>
  have hx' : x.out N := hx x (by simp [VOp.uses])
  simp only [vop] at hv ⊢
  split at hv
  ·rename_i l s1 ht
   obtain ⟨s1', k1, k2⟩ := h.take hx' ht
   rw [k1]
   split at hv
   ·rename_i hno
    exact after_put2 k2 rfl root_v hc (by simp only [if_pos hno]) hv
   ·cases hv
  ·rename_i ls s1 ht
   obtain ⟨s1', k1, k2⟩ := h.take hx' ht
   rw [k1]
   split at hv
   ·rename_i hno
    exact after_put2 k2 rfl root_v hc (by simp only [if_pos hno]) hv
   ·cases hv
  ·cases hv
 | boxM d t =>
  have hx' : ¬ N t := out_t (hx (.t t) (by simp [VOp.uses]))
  simp only [vop] at hv ⊢
  rw [h.e t hx']
  split at hv
  ·rename_i ls ht
   try rw [ht]
   try simp only
   split at hv
   ·cases hv
   ·rename_i hdt
    try rw [if_neg hdt]
    exact after_put2 (h.put' (d := t) (av := .bad) hx' (root_none rfl) (fun _ c h => by cases h)) rfl root_v hc rfl hv
  ·cases hv
 | build d zs parts =>
  simp only [vop] at hv ⊢
  split at hv
  ·rename_i row s1 hp
   obtain ⟨s1', k1, k2⟩ := Agree.parts parts s s2 s1 zs row h (fun q hq => hx _ (by simp only [VOp.uses]; exact List.mem_map.2 ⟨q, hq, rfl⟩)) hp
   rw [k1]
   exact after_put2 k2 rfl root_v hc rfl hv
  ·cases hv
 | mk d zs n parts =>
  simp only [vop] at hv ⊢
  split at hv
  ·rename_i row s1 hp
   obtain ⟨s1', k1, k2⟩ := Agree.rows zs.length parts s s2 s1 _ row h (fun q hq => hx _ (by simp only [VOp.uses]; exact List.mem_map.2 ⟨q, hq, rfl⟩)) hp
   rw [k1]
   exact after_put2 k2 rfl root_v hc rfl hv
  ·cases hv
 | load d x n agg =>
  have hx' : x.out N := hx x (by simp [VOp.uses])
  obtain ⟨p1, p2⟩ := h.place hx'
  simp only [vop] at hv ⊢
  rw [p1]
  split at hv
  ·rename_i r p o hpl
   have hrC := p2 r p o hpl
   try rw [hpl]
   try simp only
   rw [h.slotAt hrC]
   split at hv
   ·rename_i row hrow
    try rw [hrow]
    try simp only
    split at hv
    ·rename_i c hcell
     try rw [hcell]
     try simp only
     split at hv
     ·rename_i hs
      exact after_put2 h rfl root_v hc (by first | rfl | rw [if_pos hs]) hv
     ·rename_i hs
      exact after_put2 h rfl (root_some (r := r) rfl hrC) hc (by first | rfl | rw [if_neg hs]) hv
    ·cases hv
   ·cases hv
  ·rename_i hpl
   try rw [hpl]
   try simp only
   rw [h.val hx']
   split at hv
   ·rename_i row o hav
    try rw [hav]
    try simp only
    split at hv
    ·rename_i c hcell
     try rw [hcell]
     try simp only
     split at hv
     ·rename_i hs
      exact after_put2 h rfl root_v hc (by first | rfl | rw [if_pos hs]) hv
     ·cases hv
    ·cases hv
   ·cases hv
 | store a x n =>
  have ha : a.out N := hx a (by simp [VOp.uses])
  have hx' : x.out N := hx x (by simp [VOp.uses])
  simp only [vop] at hv ⊢
  split at hv
  ·rename_i c s1 ht
   obtain ⟨s1', k1, k2⟩ := h.take hx' ht
   rw [k1]
   try simp only
   split at hv
   ·cases hv
   ·rename_i hcond
    try rw [if_neg hcond]
    obtain ⟨p1, p2⟩ := k2.place ha
    rw [p1]
    split at hv
    ·rename_i r p o hpl
     have hrC := p2 r p o hpl
     try rw [hpl]
     try simp only
     rw [k2.slotAt hrC, k2.root hrC]
     split at hv
     ·rename_i row hrow
      try rw [hrow]
      try simp only
      split at hv
      ·rename_i hcond2
       try rw [if_pos hcond2]
       split at hv
       ·rename_i s3 hp
        obtain ⟨s3', q1, q2⟩ := k2.poke hrC hp
        obtain rfl := (Option.some.inj hv).symm
        rw [q1]
        refine ⟨_, rfl, ?_⟩
        have e : (fun t => N t ∧ (VOp.store a x n).dst ≠ some t) = N := by
         funext t
         exact propext ⟨fun h => h.1, fun hn => ⟨hn, by simp [VOp.dst]⟩⟩
        rw [e]
        exact q2.mark ..
       ·cases hv
      ·cases hv
     ·cases hv
    ·cases hv
  ·cases hv
 | nil d x =>
  have hx' : x.out N := hx x (by simp [VOp.uses])
  have hroot := h.vroot hx'
  simp only [vop] at hv ⊢
  rw [h.val hx']
  cases hav : s2.val x with
  | v c0 =>
   rw [hav] at hv
   cases c0 with
   | box row =>
    cases x with
    | c _ => cases hv
    | t t =>
     have hC : ¬ C t := fun hC => by cases h.cal t hC _ hav
     exact after_put2 h rfl (root_some (r := t) rfl hC) hc rfl hv
   | pbox t0 row =>
    cases x with
    | c _ => cases hv
    | t t =>
     have hC : ¬ C t := fun hC => by cases h.cal t hC _ hav
     exact after_put2 h rfl (root_some (r := t) rfl hC) hc rfl hv
   | leaf l =>
    cases l with
    | fn f vs =>
     cases x with
     | c _ => cases hv
     | t t => exact after_put2 h rfl root_v hc rfl hv
    | _ => cases hv
   | _ => cases hv
  | ptr r p o =>
   rw [hav] at hv hroot
   simp only at hv ⊢
   rw [h.cp r p (hroot r rfl)]
   split at hv
   ·rename_i hcl
    exact after_put2 h rfl (root_some (r := r) rfl (hroot r rfl)) hc (by first | rfl | rw [if_pos hcl]) hv
   ·cases hv
  | iptr row o => rw [hav] at hv; exact after_put2 h rfl (root_none rfl) hc rfl hv
  | _ => rw [hav] at hv; cases hv
 | bin d op x y =>
  have h1 : x.out N := hx x (by simp [VOp.uses])
  have h2 : y.out N := hx y (by simp [VOp.uses])
  simp only [vop] at hv ⊢
  rw [h.lookX h1, h.lookX h2]
  split at hv
  ·rename_i a b ha hb
   try rw [ha, hb]
   try simp only
   split at hv
   ·rename_i r hr
    try rw [hr]
    exact after_put2 h rfl root_v hc rfl hv
   ·cases hv
  ·cases hv
 | eqs d neg es x y =>
  have h1 : x.out N := hx x (by simp [VOp.uses])
  have h2 : y.out N := hx y (by simp [VOp.uses])
  simp only [vop] at hv ⊢
  rw [h.lookX h1, h.lookX h2]
  split at hv
  ·rename_i a b ha hb
   try rw [ha, hb]
   try simp only
   split at hv
   ·rename_i r hr
    try rw [hr]
    exact after_put2 h rfl root_v hc rfl hv
   ·cases hv
  ·cases hv
 | eqb d neg x y =>
  have h1 : x.out N := hx x (by simp [VOp.uses])
  have h2 : y.out N := hx y (by simp [VOp.uses])
  simp only [vop] at hv ⊢
  rw [h.lookX h1, h.lookX h2]
  split at hv
  ·rename_i a b ha hb
   try rw [ha, hb]
   exact after_put2 h rfl root_v hc rfl hv
  ·cases hv
 | un d op x =>
  have h1 : x.out N := hx x (by simp [VOp.uses])
  simp only [vop] at hv ⊢
  rw [h.lookX h1]
  split at hv
  ·rename_i k n ha
   try rw [ha]
   cases op with
   | neg => exact after_put2 h rfl root_v hc rfl hv
   | _ => cases hv
  ·rename_i b ha
   try rw [ha]
   cases op with
   | not => exact after_put2 h rfl root_v hc rfl hv
   | _ => cases hv
  ·cases hv
 | conv d k x =>
  have h1 : x.out N := hx x (by simp [VOp.uses])
  simp only [vop] at hv ⊢
  rw [h.int h1]
  split at hv
  ·rename_i k' n ha
   try rw [ha]
   exact after_put2 h rfl root_v hc rfl hv
  ·cases hv
 | bytes d x =>
  have h1 : x.out N := hx x (by simp [VOp.uses])
  simp only [vop] at hv ⊢
  rw [h.lookX h1]
  split at hv
  ·rename_i o rows ha
   try rw [ha]
   try simp only
   split at hv
   ·rename_i l hl
    try rw [hl]
    exact after_put2 h rfl root_v hc rfl hv
   ·cases hv
  ·cases hv
 | make d zs bytes l c =>
  have h1 : l.out N := hx l (by simp [VOp.uses])
  have h2 : c.out N := hx c (by simp [VOp.uses])
  simp only [vop] at hv ⊢
  rw [h.int h1, h.int h2]
  split at hv
  ·rename_i k1 n k2 m e1 e2
   try rw [e1, e2]
   try simp only
   split at hv
   ·rename_i hcond
    exact after_put2 h rfl root_v hc (by first | rfl | rw [if_pos hcond]) hv
   ·cases hv
  ·cases hv
 | subStr d x lo hi =>
  have h1 : x.out N := hx x (by simp [VOp.uses])
  have h2 : ∀ y, lo = some y → y.out N := fun y e => hx y (by subst e; simp [VOp.uses])
  have h3 : ∀ y, hi = some y → y.out N := fun y e => hx y (by subst e; simp [VOp.uses])
  simp only [vop] at hv ⊢
  rw [h.lookX h1]
  split at hv
  ·rename_i a ha
   try rw [ha]
   try simp only
   rw [h.bound h2, h.bound h3]
   split at hv
   ·rename_i l hh e1 e2
    try rw [e1, e2]
    try simp only
    split at hv
    ·rename_i hcond
     exact after_put2 h rfl root_v hc (by first | rfl | rw [if_pos hcond]) hv
    ·cases hv
   ·cases hv
  ·cases hv
 | subSl d x lo hi sz0 =>
  have h1 : x.out N := hx x (by simp [VOp.uses])
  have h2 : ∀ y, lo = some y → y.out N := fun y e => hx y (by subst e; simp [VOp.uses])
  have h3 : ∀ y, hi = some y → y.out N := fun y e => hx y (by subst e; simp [VOp.uses])
  simp only [vop] at hv ⊢
  rw [h.lookX h1]
  split at hv
  ·rename_i o sz rows ha
   try rw [ha]
   try simp only
   rw [h.bound h2, h.bound h3]
   split at hv
   ·rename_i l hh e1 e2
    try rw [e1, e2]
    try simp only
    split at hv
    ·rename_i hcond
     try rw [if_pos hcond]
     cases o with
     | false =>
      simp only [Bool.false_eq_true, if_false] at hv ⊢
      exact after_put2 h rfl root_v hc rfl hv
     | true =>
      simp only [if_true] at hv ⊢
      cases x with
      | c _ => cases hv
      | t t =>
       have hx' : ¬ N t := out_t h1
       have hroot := h.refs t hx'
       have hcal := h.cal t
       simp only at hv ⊢
       rw [h.e t hx']
       have ha2 : s2.look (s2.e.get t) = some (.leaf (.sl true sz rows)) := ha
       have key : ∀ (r : Tmp) (p : List (Nat × Nat)) (cc : Nat), ¬ C r → (match s2.poke r p cc [.sl false sz (freezeRR rows)] with
         | some s' => some ((s'.mark r p cc 1).put d (.v (.leaf (.sl false sz (((freezeRR rows).take hh).drop l)))))
         | none => none) = some s2' → After1 N C (.subSl d (.t t) lo hi sz0) (match s.poke r p cc [.sl false sz (freezeRR rows)] with
         | some s' => some ((s'.mark r p cc 1).put d (.v (.leaf (.sl false sz (((freezeRR rows).take hh).drop l)))))
         | none => none) s2' := by
        intro r p cc hrC hv
        split at hv
        ·rename_i s3 hp
         obtain ⟨s3', q1, q2⟩ := h.poke hrC hp
         rw [q1]
         exact after_put2 (q2.mark r p cc 1) rfl root_v hc rfl hv
        ·cases hv
       cases hav : s2.e.get t with
       | v c0 =>
        rw [hav] at hv hcal
        cases c0 with
        | leaf l0 =>
         have hC : ¬ C t := fun hC => by
          have := hcal hC _ rfl
          rw [hav] at ha2
          simp only [RS.look, Option.some.injEq, CV.leaf.injEq] at ha2
          subst ha2
          cases this
         exact key t [] 0 hC hv
        | _ => cases hv
       | ld r p c n ag =>
        rw [hav] at hv hroot
        exact key r p c (hroot r rfl) hv
       | _ => rw [hav] at hv; cases hv
    ·cases hv
   ·cases hv
  ·cases hv
 | fld d x off =>
  have hx' : x.out N := hx x (by simp [VOp.uses])
  have hroot := h.vroot hx'
  simp only [vop] at hv ⊢
  rw [h.val hx']
  cases hav : s2.val x with
  | v c0 =>
   rw [hav] at hv
   cases c0 with
   | box row =>
    cases x with
    | c _ => cases hv
    | t t =>
     have hC : ¬ C t := fun hC => by cases h.cal t hC _ hav
     exact after_put2 h rfl (root_some (r := t) rfl hC) hc rfl hv
   | pbox t0 row =>
    cases x with
    | c _ => cases hv
    | t t =>
     have hC : ¬ C t := fun hC => by cases h.cal t hC _ hav
     exact after_put2 h rfl (root_some (r := t) rfl hC) hc rfl hv
   | _ => cases hv
  | ptr r p o =>
   rw [hav] at hv hroot
   simp only at hv ⊢
   rw [h.cp r p (hroot r rfl)]
   split at hv
   ·rename_i hcl
    exact after_put2 h rfl (root_some (r := r) rfl (hroot r rfl)) hc (by first | rfl | rw [if_pos hcl]) hv
   ·cases hv
  | iptr row o => rw [hav] at hv; exact after_put2 h rfl (root_none rfl) hc rfl hv
  | _ => rw [hav] at hv; cases hv
 | idx d x i sz0 =>
  have h1 : x.out N := hx x (by simp [VOp.uses])
  have h2 : i.out N := hx i (by simp [VOp.uses])
  simp only [vop] at hv ⊢
  rw [h.int h2, h.lookX h1]
  split at hv
  ·rename_i k n hi
   try rw [hi]
   try simp only
   split at hv
   ·rename_i own sz rows ha
    try rw [ha]
    try simp only
    split at hv
    ·rename_i hcond
     try rw [if_pos hcond]
     split at hv
     ·rename_i row hrow
      try rw [hrow]
      try simp only
      cases own with
      | false =>
       simp only [Bool.false_eq_true, if_false] at hv ⊢
       exact after_put2 h rfl (root_none rfl) hc rfl hv
      | true =>
       simp only [if_true] at hv ⊢
       cases x with
       | c _ => cases hv
       | t t =>
        have hx' : ¬ N t := out_t h1
        have hroot := h.refs t hx'
        have hcal := h.cal t
        have ha2 : s2.look (s2.e.get t) = some (.leaf (.sl true sz rows)) := ha
        simp only at hv ⊢
        rw [h.e t hx']
        cases hav : s2.e.get t with
        | v c0 =>
         rw [hav] at hv ha2
         simp only [RS.look, Option.some.injEq] at ha2
         have hC : ¬ C t := fun hC => by
          have := hcal hC _ hav
          subst ha2
          cases this
         exact after_put2 h rfl (root_some (r := t) rfl hC) hc rfl hv
        | ld r p o n ag =>
         rw [hav] at hv hroot
         exact after_put2 h rfl (root_some (r := r) rfl (hroot r rfl)) hc rfl hv
        | _ => rw [hav] at hv; cases hv
     ·cases hv
    ·cases hv
   ·cases hv
  ·cases hv
 | byte d x i =>
  have h1 : x.out N := hx x (by simp [VOp.uses])
  have h2 : i.out N := hx i (by simp [VOp.uses])
  simp only [vop] at hv ⊢
  rw [h.int h2, h.lookX h1]
  split at hv
  ·rename_i k n a e1 e2
   try rw [e1, e2]
   try simp only
   split at hv
   ·rename_i hn
    try rw [if_pos hn]
    split at hv
    ·rename_i b hb
     try rw [hb]
     exact after_put2 h rfl root_v hc rfl hv
    ·cases hv
   ·cases hv
  ·cases hv
 | len d x str =>
  have h1 : x.out N := hx x (by simp [VOp.uses])
  simp only [vop] at hv ⊢
  rw [h.lookX h1]
  split at hv
  ·rename_i o sz rows ha
   try rw [ha]
   try simp only
   split at hv
   ·cases hv
   ·rename_i hs
    exact after_put2 h rfl root_v hc (by first | rfl | rw [if_neg hs]) hv
  ·rename_i a ha
   try rw [ha]
   try simp only
   split at hv
   ·rename_i hs
    exact after_put2 h rfl root_v hc (by first | rfl | rw [if_pos hs]) hv
   ·cases hv
  ·cases hv
 | app d x y sz bytes str =>
  have h1 : x.out N := hx x (by simp [VOp.uses])
  have h2 : y.out N := hx y (by simp [VOp.uses])
  simp only [vop] at hv ⊢
  split at hv
  ·rename_i sz' rows s1 ht
   obtain ⟨s1', k1, k2⟩ := h.take h1 ht
   rw [k1]
   try simp only
   rw [k2.lookX h2]
   split at hv
   ·rename_i a ha
    try rw [ha]
    try simp only
    split at hv
    ·rename_i hcond
     exact after_put2 k2 rfl root_v hc (by first | rfl | rw [if_pos hcond]) hv
    ·cases hv
   ·rename_i sz2 rows2 ha
    try rw [ha]
    try simp only
    split at hv
    ·rename_i hcond
     exact after_put2 k2 rfl root_v hc (by first | rfl | rw [if_pos hcond]) hv
    ·cases hv
   ·rename_i sz2 rows2 ha
    try rw [ha]
    try simp only
    split at hv
    ·rename_i o3 sz3 rows3 s3 ht2
     obtain ⟨s3', q1, q2⟩ := k2.take h2 ht2
     rw [q1]
     try simp only
     split at hv
     ·rename_i hcond
      exact after_put2 q2 rfl root_v hc (by first | rfl | rw [if_pos hcond]) hv
     ·cases hv
    ·cases hv
   ·cases hv
  ·cases hv
 | min d x y =>
  have h1 : x.out N := hx x (by simp [VOp.uses])
  have h2 : y.out N := hx y (by simp [VOp.uses])
  simp only [vop] at hv ⊢
  rw [h.int h1, h.int h2]
  split at hv
  ·rename_i k a k' b e1 e2
   try rw [e1, e2]
   exact after_put2 h rfl root_v hc rfl hv
  ·cases hv
 | max d x y =>
  have h1 : x.out N := hx x (by simp [VOp.uses])
  have h2 : y.out N := hx y (by simp [VOp.uses])
  simp only [vop] at hv ⊢
  rw [h.int h1, h.int h2]
  split at hv
  ·rename_i k a k' b e1 e2
   try rw [e1, e2]
   exact after_put2 h rfl root_v hc rfl hv
  ·cases hv
 | call d f xs =>
  have h1 : ∀ x ∈ xs, x.out N := fun x hm => hx x (by simpa [VOp.uses] using hm)
  simp only [vop] at hv ⊢
  split at hv
  ·rename_i c s3 hcall
   obtain ⟨s3', k1, k2⟩ := h.call h1 hcall
   rw [k1]
   exact after_put2 k2 rfl root_v hc rfl hv
  ·rename_i res s3 hne hcall
   obtain ⟨s3', k1, k2⟩ := h.call h1 hcall
   rw [k1]
   refine after_put2 (av := .tup res) k2 rfl (root_none rfl) hc ?_ hv
   split
   ·rename_i c s4 he
    simp only [Option.some.injEq, Prod.mk.injEq] at he
    obtain ⟨rfl, rfl⟩ := he
    first | exact (hne _ rfl).elim | exact (hne _ _ rfl).elim
   ·rename_i he
    simp only [Option.some.injEq, Prod.mk.injEq] at he
    obtain ⟨rfl, rfl⟩ := he
    rfl
   ·rename_i he; cases he
  ·cases hv
 | stop d =>
  simp only [vop] at hv
  cases hv
 | cut0 d x sz =>
  have h1 : x.out N := hx x (by simp [VOp.uses])
  simp only [vop] at hv ⊢
  rw [h.lookX h1]
  split at hv
  ·rename_i o sz' rows ha
   try rw [ha]
   try simp only
   split at hv
   ·rename_i hcond
    exact after_put2 h rfl root_v hc (by first | rfl | rw [if_pos hcond]) hv
   ·cases hv
  ·cases hv
 | mkf d f xs =>
  have h1 : ∀ x ∈ xs, x.out N := fun x hm => hx x (by simpa [VOp.uses] using hm)
  have hcaps : ∀ (xs : List X), (∀ x ∈ xs, x.out N) → s.caps xs = s2.caps xs := by
   intro xs
   induction xs with
   | nil => intro _; rfl
   | cons x xs ih =>
    intro hm
    simp only [RS.caps]
    rw [h.lookX (hm x (by simp)), ih fun y hy => hm y (by simp [hy])]
  simp only [vop] at hv ⊢
  rw [hcaps xs h1]
  split at hv
  ·rename_i vs e1
   try rw [e1]
   exact after_put2 h rfl root_v hc rfl hv
  ·rename_i e1
   split at hv
   ·rename_i x
    have hx1 : x.out N := h1 x (by simp)
    split at hv
    ·rename_i row s3 ht
     split at hv
     ·rename_i vals hs
      obtain ⟨s3', q1, q2⟩ := h.take hx1 ht
      exact after_put2 q2 rfl root_v hc (by simp only [e1, q1, hs]) hv
     ·cases hv
    ·cases hv
   ·cases hv
 | callD d x xs =>
  have h0 : x.out N := hx x (by simp [VOp.uses])
  have h1 : ∀ y ∈ xs, y.out N := fun y hm => hx y (by simp [VOp.uses, hm])
  simp only [vop] at hv ⊢
  rw [h.lookX h0]
  split at hv
  ·rename_i f vs hl
   try rw [hl]
   try simp only
   have h2 : ∀ y ∈ (xs ++ vs.map fun v => X.c (.leaf (capL v))), y.out N := by
    intro y hy
    rcases List.mem_append.1 hy with hy | hy
    ·exact h1 y hy
    ·obtain ⟨v, _, rfl⟩ := List.mem_map.1 hy
     trivial
   split at hv
   ·rename_i c s3 hcall
    obtain ⟨s3', k1, k2⟩ := h.call h2 hcall
    rw [k1]
    exact after_put2 k2 rfl root_v hc rfl hv
   ·rename_i res s3 hne hcall
    obtain ⟨s3', k1, k2⟩ := h.call h2 hcall
    rw [k1]
    refine after_put2 (av := .tup res) k2 rfl (root_none rfl) hc ?_ hv
    split
    ·rename_i c s4 he
     simp only [Option.some.injEq, Prod.mk.injEq] at he
     obtain ⟨rfl, rfl⟩ := he
     first | exact (hne _ rfl).elim | exact (hne _ _ rfl).elim
    ·rename_i he
     simp only [Option.some.injEq, Prod.mk.injEq] at he
     obtain ⟨rfl, rfl⟩ := he
     rfl
    ·rename_i he; cases he
   ·cases hv
  ·rename_i f0 vals0 hl
   try rw [hl]
   try simp only
   cases x with
   | c c => simp only [RS.cloOf] at hv; cases hv
   | t t =>
    have hx' : ¬ N t := out_t h0
    have hclo : s.cloOf (.t t) = s2.cloOf (.t t) ∧ ∀ r, s2.cloOf (.t t) = some r → ¬ C r := by
     simp only [RS.cloOf]
     rw [h.e t hx']
     have hroot := h.refs t hx'
     have hcal := h.cal t
     simp only [RS.val] at hl
     cases hav : s2.e.get t with
     | v c0 =>
      rw [hav] at hl hcal
      refine ⟨rfl, fun r hr hC => ?_⟩
      obtain rfl := Option.some.inj hr
      have := hcal hC _ rfl
      simp only [RS.look, Option.some.injEq] at hl
      subst hl
      cases this
     | ld r p o n g =>
      rw [hav] at hroot
      have hrC := hroot r rfl
      split
      ·rename_i e; cases e
      ·rename_i r' e
       simp only [AV.ld.injEq] at e
       obtain ⟨rfl, rfl, rfl, rfl, rfl⟩ := e
       rw [h.cl r [] 0 1 hrC]
       refine ⟨rfl, fun r' hr => ?_⟩
       split at hr
       ·obtain rfl := Option.some.inj hr; exact hrC
       ·cases hr
      ·exact ⟨rfl, fun r' hr => by cases hr⟩
     | _ => exact ⟨rfl, fun r hr => by cases hr⟩
    rw [hclo.1]
    split at hv
    ·rename_i r hr
     have hrC := hclo.2 r hr
     have hrN : ¬ N r := fun hn => hrC (h.sub r hn)
     try rw [hr]
     try simp only
     rw [h.e r hrN]
     split at hv
     ·rename_i f vals hg
      try rw [hg]
      try simp only
      split at hv
      ·rename_i hcond
       rw [if_pos hcond]
       have hNr : (fun t => N t ∧ t ≠ r) = N := by
        funext t
        exact propext ⟨fun h => h.1, fun hn => ⟨hn, fun e => hrN (e ▸ hn)⟩⟩
       have h3 := h.put r (av := .v (.box (vals.map capL))) (root_v) (fun hC => absurd hC hrC)
       rw [hNr] at h3
       have h2 : ∀ y ∈ xs ++ [X.t r], y.out N := by
        intro y hy
        rcases List.mem_append.1 hy with hy | hy
        ·exact h1 y hy
        ·obtain rfl := List.mem_singleton.1 hy
         exact hrN
       split at hv
       ·rename_i res s4 hcall
        obtain ⟨s4', k1, k2⟩ := h3.call h2 hcall
        rw [k1]
        try simp only
        rw [k2.e r hrN]
        split at hv
        ·rename_i row hg2
         try rw [hg2]
         try simp only
         split at hv
         ·rename_i vals2 hs
          try rw [hs]
          try simp only
          have h5 := k2.put r (av := .v (.leaf (.clo f vals2))) (root_v) (fun hC => absurd hC hrC)
          rw [hNr] at h5
          split at hv
          ·rename_i c
           exact after_put2 h5 rfl root_v hc rfl hv
          ·rename_i hne
           exact after_put2 (av := .tup res) h5 rfl (root_none rfl) hc rfl hv
         ·cases hv
        ·cases hv
       ·cases hv
      ·cases hv
     ·cases hv
    ·cases hv
  ·cases hv
 | ext d x i =>
  have h1 : x.out N := hx x (by simp [VOp.uses])
  simp only [vop] at hv ⊢
  cases x with
  | c _ => cases hv
  | t t =>
   have hx' : ¬ N t := out_t h1
   simp only at hv ⊢
   rw [h.e t hx']
   split at hv
   ·rename_i cs hav
    try rw [hav]
    try simp only
    split at hv
    ·rename_i c0 hci
     try rw [hci]
     try simp only
     split at hv
     ·rename_i hs
      exact after_put2 h rfl root_v hc (by first | rfl | rw [if_pos hs]) hv
     ·rename_i hs
      exact after_put2 (h.put' (d := t) (av := .tup (cs.set i .gone)) hx' (root_none rfl) (fun _ c h => by cases h)) rfl root_v hc (by first | rfl | rw [if_neg hs]) hv
    ·cases hv
   ·cases hv

end Go.VS

/- Regions whose order is left open: whatever the order, they come out as the evaluator says. -/
namespace Go.VS
open Go Go.RowKit
set_option linter.unusedSimpArgs false
set_option linter.unusedVariables false

variable {P : Program} {arg : Tmp → Value} {W w w' : World} {I I' : Nat → Prop} {O O' : Tmp → Nat → Prop} {s s' s2 s2' : RS} {a : Act} {K : Act → World → Prop} {Q : Exit → Act → World → Prop} {G : Sigs} {F : Fns} {pm : Tmp → Bool} {N N' C : Tmp → Prop}

def VOp.loud : VOp → Bool
 | .build _ zs [] => ownR zs
 | .call _ _ _ | .app _ _ _ _ _ _ | .store _ _ _ | .alloc _ _ | .box _ _ | .boxM _ _ | .build _ _ _ | .mk _ _ _ _ | .make _ _ _ _ _ | .subSl _ _ _ _ _ | .asg _ _ => true
 | _ => false
/-- .. among the others: what moves several results on, and the first of them, keep their place too. -/
def loudIn (gs : List GOp) : VOp → Bool
 | .mv d x => gs.any fun g => match g.o with
  | .ext _ (.t t) _ => t == d
  | _ => false
 | .ext _ _ i => i == 0
 | o => o.loud
def fwd : List Bool → List (List Nat) → List Nat → Nat → List Nat
 | c :: cs, js :: aft, acc, r =>
  let lo := js.foldl (fun m j => max m (acc.getD j 0)) 0
  (if c then lo else r) :: fwd cs aft (acc ++ [if c then lo else r + 1]) (if c then r else r + 1)
 | _, _, _, _ => []
def bwd (total : Nat) : Nat → Nat → List Bool → List (List Nat) → List Nat
 | i, r, c :: cs, _ :: aft =>
  let rest := bwd total (i + 1) (if c then r else r + 1) cs aft
  (if c then (rest.zip aft).foldl (fun m q => if q.2.contains i then min m q.1 else m) total else r) :: rest
 | _, _, _, _ => []
def dzip (L : VOp → Bool) : List GOp → List Nat → List Nat → List DOp
 | g :: gs, lo :: los, hi :: his => ⟨g, !L g.o, lo, hi⟩ :: dzip L gs los his
 | _, _, _ => []
def aftOf (ops : Array Oper) : List (List Nat) := ops.toList.map fun o => (o.after.toList.filter (Region.binds .any)).map (·.on)

def rankOf : List DOp → Nat → Nat
 | q :: qs, i + 1 => (if q.calm then 0 else 1) + rankOf qs i
 | _, _ => 0
/-- How many loud ones are done at least once j is done; at most while j is not. -/
def doneAt (qs : List DOp) (j : Nat) : Nat := match qs[j]? with
 | some q => if q.calm then q.lo else rankOf qs j + 1
 | none => 0
def openAt (qs : List DOp) (j : Nat) : Nat := match qs[j]? with
 | some q => if q.calm then q.hi else rankOf qs j
 | none => 0
def GOp.sees (g : GOp) : List Tmp := (match g.g with | some (t, _) => [t] | none => []) ++ g.o.uses.filterMap fun | .t t => some t | .c _ => none
def lowOk (qs : List DOp) (js : List Nat) (n : Nat) : Bool := n == 0 || js.any fun j => n ≤ doneAt qs j
def drawOk1 (qs : List DOp) (aft : List (List Nat)) (i : Nat) (q : DOp) (js : List Nat) : Bool :=
 js.all (fun j => j < i) &&
 lowOk qs js (if q.calm then q.lo else rankOf qs i) &&
 (!q.calm || (decide (rankOf qs qs.length ≤ q.hi) || (List.range qs.length).any fun j => (match aft[j]? with | some ks => ks.contains i | none => false) && decide (openAt qs j ≤ q.hi))) &&
 (q.o.sees.all fun t => !(calmT qs).contains t || js.any fun j => (match qs[j]? with | some q' => q'.dstC == some t | none => false)) &&
 (match q.o.o.dst with
  | some d => (List.range qs.length).all fun j => j == i || (match qs[j]? with | some q' => !(q'.dstC == some d) | none => true)
  | none => !q.calm)
def drawOk (qs : List DOp) (aft : List (List Nat)) : Bool :=
 aft.length == qs.length && (List.range qs.length).all fun i => match qs[i]?, aft[i]? with
  | some q, some js => drawOk1 qs aft i q js
  | _, _ => false
def compD1 (P : Program) (dr : Bool) (pm : Tmp → Bool) (ops : Array Oper) : Option (List DOp) :=
 match compR P dr pm ops with
 | some gs =>
  let cs := gs.map fun g => !loudIn gs g.o
  let aft := aftOf ops
  let qs := dzip (loudIn gs) gs (fwd cs aft [] 0) (bwd (gs.countP fun g => loudIn gs g.o) 0 0 cs aft)
  if P.follows .mixedOrders = true ∧ drawOk qs aft = true ∧ qs.length = gs.length then some qs else none
 | none => none

def compD (P : Program) (pm : Tmp → Bool) (ops : Array Oper) : Option (List DOp) := match compD1 P false pm ops with
 | some qs => some qs
 | none => compD1 P true pm ops

theorem dzip_map {L : VOp → Bool} : ∀ (gs : List GOp) (los his : List Nat), (dzip L gs los his).length = gs.length → (dzip L gs los his).map (·.o) = gs
 | [], los, his, h => by simp [dzip]
 | g :: gs, [], his, h => by simp [dzip] at h
 | g :: gs, lo :: los, [], h => by simp [dzip] at h
 | g :: gs, lo :: los, hi :: his, h => by
  simp only [dzip, List.length_cons, Nat.add_right_cancel_iff] at h
  simp only [dzip, List.map_cons, dzip_map gs los his h]

theorem compD1_spec {dr : Bool} {ops : Array Oper} {qs : List DOp} (h : compD1 P dr pm ops = some qs) : P.follows .mixedOrders = true ∧ compR P dr pm ops = some (qs.map (·.o)) ∧ drawOk qs (aftOf ops) = true := by
 unfold compD1 at h
 split at h
 ·rename_i gs hgs
  obtain ⟨⟨h1, h2, h3⟩, rfl⟩ := ite_some h
  exact ⟨h1, by rw [hgs, dzip_map _ _ _ h3], h2⟩
 ·cases h
theorem compD_spec {ops : Array Oper} {qs : List DOp} (h : compD P pm ops = some qs) : P.follows .mixedOrders = true ∧ (∃ dr, compR P dr pm ops = some (qs.map (·.o))) ∧ drawOk qs (aftOf ops) = true := by
 unfold compD at h
 split at h
 ·rename_i qs' h1
  obtain rfl := Option.some.inj h
  obtain ⟨a, b, c⟩ := compD1_spec h1
  exact ⟨a, ⟨_, b⟩, c⟩
 ·obtain ⟨a, b, c⟩ := compD1_spec h
  exact ⟨a, ⟨_, b⟩, c⟩
theorem compD_mixed {ops : Array Oper} {qs : List DOp} (h : compD P pm ops = some qs) : P.follows .mixedOrders = true := (compD_spec h).1

theorem mapM_get {α β : Type} {f : α → Option β} : ∀ {xs : List α} {ys : List β}, xs.mapM f = some ys → xs.length = ys.length ∧ ∀ (i : Nat) x, xs[i]? = some x → ∃ y, ys[i]? = some y ∧ f x = some y
 | [], ys, h => by
  simp at h
  subst h
  exact ⟨rfl, fun i x h => by simp at h⟩
 | x :: xs, ys, h => by
  obtain ⟨y, ys', h1, h2, rfl⟩ := mapM_cons_some h
  obtain ⟨k1, k2⟩ := mapM_get h2
  refine ⟨by simp [k1], fun i x' hi => ?_⟩
  cases i with
  | zero => simp at hi; subst hi; exact ⟨y, rfl, h1⟩
  | succ i => simp at hi; simpa using k2 i x' hi

/-- Fewer slots alike. -/
theorem Agree.weaken (h : Agree N C s s2) (hn : ∀ t, N t → N' t) (hs : ∀ t, N' t → C t) : Agree N' C s s2 :=
 ⟨hs, fun t ht => h.e t fun hn' => ht (hn t hn'), h.cp, h.cl, fun t ht => h.refs t fun hn' => ht (hn t hn'), h.cal⟩
/-- A calm slot laid once more. -/
theorem Agree.unput {d : Tmp} {av : AV} (h : Agree N C s (s2.put d av)) (hd : s2.e.get d = av) (hC : C d) : Agree N C s s2 := by
 have he : ∀ t, (s2.put d av).e.get t = s2.e.get t := fun t => by
  simp only [RS.put, get_put]
  split
  ·rename_i e; rw [e, hd]
  ·rfl
 have hne : ∀ r, ¬ C r → (d == r) = false := fun r hr => by simpa using fun e : d = r => hr (e ▸ hC)
 refine ⟨h.sub, fun t ht => (h.e t ht).trans (he t), fun r p hr => (h.cp r p hr).trans ?_, fun r p x k hr => (h.cl r p x k hr).trans ?_, fun t ht r hr => h.refs t ht r (by rw [he]; exact hr), fun t ht c hc => h.cal t ht c (by rw [he]; exact hc)⟩
 ·simp only [RS.put]; split
  ·simp [cleanP, hne r hr]
  ·rfl
 ·simp only [RS.put]; split
  ·simp [clean, hne r hr]
  ·rfl

theorem gop_agree (h : Agree N C s s2) {g : GOp} (hx : ∀ t ∈ g.sees, ¬ N t) (hv : gop G F s2 g = some s2') (hc : ∀ d, g.o.dst = some d → C d → ∀ c, s2'.e.get d = .v c → c.shal = true) :
  ∃ s', gop G F s g = some s' ∧ Agree (fun t => N t ∧ g.o.dst ≠ some t) C s' s2' := by
 have huse : ∀ x ∈ g.o.uses, x.out N := fun x hm => by
  cases x with
  | c _ => trivial
  | t t => exact hx t (List.mem_append_right _ (List.mem_filterMap.2 ⟨.t t, hm, rfl⟩))
 have hrun : vop G F s2 g.o = some s2' → ∃ s', vop G F s g.o = some s' ∧ Agree (fun t => N t ∧ g.o.dst ≠ some t) C s' s2' := fun hv => vop_agree h huse hv hc
 have hskip : (match g.o.dst with | some d => some (s2.put d .un) | none => some s2) = some s2' → ∃ s', (match g.o.dst with | some d => some (s.put d .un) | none => some s) = some s' ∧ Agree (fun t => N t ∧ g.o.dst ≠ some t) C s' s2' := by
  intro hv
  cases hd : g.o.dst with
  | none =>
   rw [hd] at hv
   obtain rfl := Option.some.inj hv
   exact ⟨s, rfl, h.weaken (fun t ht => ⟨ht, by simp⟩) fun t ht => h.sub t ht.1⟩
  | some d =>
   rw [hd] at hv
   obtain rfl := Option.some.inj hv
   have := h.put d (av := .un) (root_none rfl) (fun _ c h => by cases h)
   exact ⟨_, rfl, this.weaken (fun t ht => ⟨ht.1, fun e => ht.2 (Option.some.inj e).symm⟩) fun t ht => h.sub t ht.1⟩
 unfold gop at hv ⊢
 cases hg : g.g with
 | none => rw [hg] at hv; exact hrun hv
 | some tw =>
  obtain ⟨t, want⟩ := tw
  rw [hg] at hv
  have ht : ¬ N t := hx t (List.mem_append_left _ (by rw [hg]; simp))
  simp only at hv ⊢
  rw [h.e t ht]
  cases hav : s2.e.get t with
  | un => rw [hav] at hv; exact hskip hv
  | v c =>
   rw [hav] at hv
   cases c with
   | leaf l =>
    cases l with
    | bool b =>
     simp only at hv ⊢
     by_cases hb : b = want
     ·rw [if_pos hb] at hv; rw [if_pos hb]; exact hrun hv
     ·rw [if_neg hb] at hv; rw [if_neg hb]; exact hskip hv
    | _ => cases hv
   | _ => cases hv
  | _ => rw [hav] at hv; cases hv

/-- Once all is done, both stand for the same. -/
theorem Rel.agree {vs : Array Value} (h : Rel arg W I O s vs w) (ha : Agree (fun _ => False) C s s2) : Rel arg W I O s2 vs w := by
 have he : ∀ t, s.e.get t = s2.e.get t := fun t => ha.e t (fun h => h)
 refine ⟨h.bel, h.old, h.ilt, h.olt, h.notI, h.disj, fun t => ?_⟩
 have hr := h.rep t
 rw [he t] at hr
 have hroot : ∀ {r p B row}, Roots w s.e vs r p B row → Roots w s2.e vs r p B row := fun ⟨c, h1, h2⟩ => ⟨c, (he _).symm.trans h1, h2⟩
 cases hav : s2.e.get t with
 | ptr r p o =>
  rw [hav] at hr
  intro hc
  have hrC := ha.refs t (fun h => h) r (by rw [hav]; rfl)
  obtain ⟨b, o', row', k1, k2⟩ := hr (by rw [ha.cp r p hrC]; exact hc)
  exact ⟨b, o', row', hroot k1, k2⟩
 | ld r p o n g =>
  rw [hav] at hr
  intro hc
  have hrC := ha.refs t (fun h => h) r (by rw [hav]; rfl)
  obtain ⟨B, row', k1, k2⟩ := hr (by rw [ha.cl r p o n hrC]; exact hc)
  exact ⟨B, row', hroot k1, k2⟩
 | _ => rw [hav] at hr; exact hr

theorem calmT_mem : ∀ {qs : List DOp} {t : Tmp}, t ∈ calmT qs ↔ ∃ (i : Nat) (q : DOp), qs[i]? = some q ∧ q.dstC = some t
 | [], t => by simp [calmT]
 | q :: qs, t => by
  have ih := calmT_mem (qs := qs) (t := t)
  simp only [calmT]
  have hcons : (∃ (i : Nat) (q' : DOp), (q :: qs)[i]? = some q' ∧ q'.dstC = some t) ↔ q.dstC = some t ∨ ∃ (i : Nat) (q' : DOp), qs[i]? = some q' ∧ q'.dstC = some t := by
   constructor
   ·rintro ⟨i, q', h1, h2⟩
    cases i with
    | zero => simp at h1; subst h1; exact .inl h2
    | succ i => simp at h1; exact .inr ⟨i, q', h1, h2⟩
   ·rintro (h | ⟨i, q', h1, h2⟩)
    ·exact ⟨0, q, rfl, h⟩
    ·exact ⟨i + 1, q', by simpa using h1, h2⟩
  rw [hcons, ← ih]
  cases hd : q.dstC with
  | none => simp
  | some d => simp [eq_comm]

theorem rankOf_mono (qs : List DOp) : ∀ {i j : Nat}, i ≤ j → rankOf qs i ≤ rankOf qs j := by
 induction qs with
 | nil => intro i j h; cases i <;> cases j <;> simp [rankOf]
 | cons q qs ih =>
  intro i j h
  cases i with
  | zero => simp [rankOf]
  | succ i =>
   cases j with
   | zero => omega
   | succ j => simp only [rankOf]; have := ih (i := i) (j := j) (by omega); omega
theorem rankOf_loud : ∀ {qs : List DOp} {i : Nat} {q : DOp}, qs[i]? = some q → q.calm = false → rankOf qs (i + 1) = rankOf qs i + 1
 | [], i, q, h, hc => by simp at h
 | q' :: qs, 0, q, h, hc => by
  simp at h; subst h
  cases qs <;> simp [rankOf, hc]
 | q' :: qs, i + 1, q, h, hc => by
  simp at h
  have := rankOf_loud h hc
  simp only [rankOf] at this ⊢
  omega

theorem runL_stage {S : RS} {all : List DOp} : ∀ {qs : List DOp} {k : Nat} {T s' : RS}, runL G F S all qs k T = some s' → stage G F S T k all
 | [], k, T, s', h => by
  simp only [runL] at h
  split at h
  ·assumption
  ·cases h
 | q :: qs, k, T, s', h => by
  simp only [runL] at h
  split at h
  ·exact runL_stage h
  ·split at h
   ·assumption
   ·cases h
theorem stage_get {S T : RS} {k : Nat} : ∀ {qs : List DOp} {i : Nat} {q : DOp}, stage G F S T k qs → qs[i]? = some q → q.calm = true → q.lo ≤ k → k ≤ q.hi → ∃ d, q.o.o.dst = some d ∧ T.e.get d = S.e.get d ∧ gop G F T q.o = some (T.put d (S.e.get d))
 | [], i, q, hs, h, _, _, _ => by simp at h
 | q' :: qs, 0, q, hs, h, h1, h2, h3 => by
  simp at h; subst h
  have := hs.1 h1 h2 h3
  split at this
  ·rename_i d hd; exact ⟨d, hd, this⟩
  ·exact this.elim
 | q' :: qs, i + 1, q, hs, h, h1, h2, h3 => by
  simp at h
  exact stage_get hs.2 h h1 h2 h3
/-- On to the next loud one. -/
theorem runL_skip {S : RS} {all : List DOp} {k : Nat} {T s' : RS} : ∀ {qs : List DOp} {i : Nat} {q : DOp}, runL G F S all qs k T = some s' → qs[i]? = some q → q.calm = false → rankOf qs i = 0 → ∃ T', gop G F T q.o = some T' ∧ runL G F S all (qs.drop (i + 1)) (k + 1) T' = some s'
 | [], i, q, h, hi, hc, hr => by simp at hi
 | q' :: qs, 0, q, h, hi, hc, hr => by
  simp at hi; subst hi
  simp only [runL, hc, Bool.false_eq_true, if_false] at h
  split at h
  ·split at h
   ·rename_i T' hT
    exact ⟨T', hT, h⟩
   ·cases h
  ·cases h
 | q' :: qs, i + 1, q, h, hi, hc, hr => by
  simp at hi
  simp only [rankOf] at hr
  have hq : q'.calm = true := by
   cases hh : q'.calm with
   | true => rfl
   | false => rw [hh] at hr; simp at hr
  rw [hq] at hr
  simp only [runL, hq, if_true] at h
  have := runL_skip (qs := qs) (i := i) h hi hc (by simpa using hr)
  exact this
theorem runL_end {S : RS} {all : List DOp} {k : Nat} {T s' : RS} : ∀ {qs : List DOp}, runL G F S all qs k T = some s' → (∀ q ∈ qs, q.calm = true) → s' = T
 | [], h, hc => by
  simp only [runL] at h
  split at h
  ·exact (Option.some.inj h).symm
  ·cases h
 | q :: qs, h, hc => by
  simp only [runL, hc q (by simp), if_true] at h
  exact runL_end h fun q' hq => hc q' (by simp [hq])
theorem rankOf_drop : ∀ (qs : List DOp) (p i : Nat), rankOf qs (p + i) = rankOf qs p + rankOf (qs.drop p) i
 | [], p, i => by cases p <;> cases i <;> simp [rankOf]
 | q :: qs, 0, i => by simp [rankOf]
 | q :: qs, p + 1, i => by
  rw [show p + 1 + i = (p + i) + 1 by omega]
  simp only [rankOf, List.drop_succ_cons, rankOf_drop qs p i]
  omega

/-- What is known of what is done. -/
structure DInv (qs : List DOp) (aft : List (List Nat)) (listed : Array Bool) (p : Nat) : Prop where
 size : listed.size = qs.length
 loud : ∀ (i : Nat) (q : DOp), qs[i]? = some q → q.calm = false → (listed.getD i false = true ↔ i < p)
 closed : ∀ (i : Nat) (js : List Nat), aft[i]? = some js → listed.getD i false = true → ∀ j ∈ js, listed.getD j false = true

theorem drawOk_get {qs : List DOp} {aft : List (List Nat)} (h : drawOk qs aft = true) {i : Nat} (hi : i < qs.length) : ∃ q js, qs[i]? = some q ∧ aft[i]? = some js ∧ drawOk1 qs aft i q js = true := by
 simp only [drawOk, Bool.and_eq_true, List.all_eq_true, List.mem_range] at h
 have := h.2 i hi
 split at this
 ·rename_i q js h1 h2; exact ⟨q, js, h1, h2, this⟩
 ·cases this
theorem drawOk1_spec {qs : List DOp} {aft : List (List Nat)} {i : Nat} {q : DOp} {js : List Nat} (h : drawOk1 qs aft i q js = true) :
  (∀ j ∈ js, j < i) ∧ ((if q.calm then q.lo else rankOf qs i) = 0 ∨ ∃ j ∈ js, (if q.calm then q.lo else rankOf qs i) ≤ doneAt qs j) ∧
  (q.calm = true → rankOf qs qs.length ≤ q.hi ∨ ∃ j ks, j < qs.length ∧ aft[j]? = some ks ∧ i ∈ ks ∧ openAt qs j ≤ q.hi) ∧
  (∀ t ∈ q.o.sees, t ∈ calmT qs → ∃ j ∈ js, ∃ q', qs[j]? = some q' ∧ q'.dstC = some t) ∧
  (∀ d, q.o.o.dst = some d → ∀ j q', j ≠ i → qs[j]? = some q' → q'.dstC ≠ some d) ∧ (q.calm = true → ∃ d, q.o.o.dst = some d) := by
 simp only [drawOk1, lowOk, Bool.and_eq_true, List.all_eq_true, Bool.or_eq_true, decide_eq_true_eq, beq_iff_eq, List.any_eq_true, Bool.not_eq_true'] at h
 obtain ⟨⟨⟨⟨h1, h2⟩, h3⟩, h4⟩, h5⟩ := h
 refine ⟨h1, h2, fun hc => ?_, fun t ht hm => ?_, fun d hd j q' hne hq' hdc => ?_, fun hc => ?_⟩
 ·rcases h3 with h3 | h3 | ⟨j, hj, h3, h3'⟩
  ·rw [hc] at h3; cases h3
  ·exact .inl h3
  ·split at h3
   ·rename_i ks hks
    exact .inr ⟨j, ks, List.mem_range.1 hj, hks, by simpa using h3, h3'⟩
   ·cases h3
 ·rcases h4 t ht with h4 | ⟨j, hj, h4⟩
  ·rw [List.contains_iff_mem.2 hm] at h4; cases h4
  ·split at h4
   ·rename_i q' hq'; exact ⟨j, hj, q', hq', by simpa using h4⟩
   ·cases h4
 ·rw [hd] at h5
  simp only [List.all_eq_true, List.mem_range, Bool.or_eq_true, beq_iff_eq] at h5
  have hj : j < qs.length := (List.getElem?_eq_some_iff.1 hq').1
  rcases h5 j hj with h5 | h5
  ·exact hne h5
  ·rw [hq'] at h5
   simp [hdc] at h5
 ·cases hd : q.o.o.dst with
  | some d => exact ⟨d, rfl⟩
  | none => rw [hd] at h5; simp [hc] at h5

theorem done_le {qs : List DOp} {aft : List (List Nat)} {listed : Array Bool} {p : Nat} (hok : drawOk qs aft = true) (inv : DInv qs aft listed p) : ∀ (j : Nat), j < qs.length → listed.getD j false = true → doneAt qs j ≤ rankOf qs p := by
 intro j
 induction j using Nat.strongRecOn with
 | ind j ih =>
  intro hj hl
  obtain ⟨q, js, h1, h2, h3⟩ := drawOk_get hok hj
  obtain ⟨k1, k2, _⟩ := drawOk1_spec h3
  cases hc : q.calm with
  | true =>
   rw [hc] at k2
   simp only [if_true] at k2
   simp only [doneAt, h1, hc, if_true]
   rcases k2 with k2 | ⟨j', hj', k2⟩
   ·omega
   ·exact Nat.le_trans k2 (ih j' (k1 j' hj') (Nat.lt_trans (k1 j' hj') hj) (inv.closed j js h2 hl j' hj'))
  | false =>
   simp only [doneAt, h1, hc, Bool.false_eq_true, if_false]
   have := (inv.loud j q h1 hc).1 hl
   rw [← rankOf_loud h1 hc]
   exact rankOf_mono qs this
theorem le_open {qs : List DOp} {aft : List (List Nat)} {listed : Array Bool} {p : Nat} (hok : drawOk qs aft = true) (inv : DInv qs aft listed p) (hp : p ≤ qs.length) : ∀ (m j : Nat), qs.length - j = m → j < qs.length → listed.getD j false = false → rankOf qs p ≤ openAt qs j := by
 intro m
 induction m using Nat.strongRecOn with
 | ind m ih =>
  intro j hm hj hl
  obtain ⟨q, js, h1, h2, h3⟩ := drawOk_get hok hj
  obtain ⟨_, _, k3, _⟩ := drawOk1_spec h3
  cases hc : q.calm with
  | true =>
   simp only [openAt, h1, hc, if_true]
   rcases k3 hc with k3 | ⟨j', ks, hj', hks, hmem, k3⟩
   ·exact Nat.le_trans (rankOf_mono qs hp) k3
   ·obtain ⟨q', js', e1, e2, e3⟩ := drawOk_get hok hj'
    rw [hks] at e2
    obtain rfl := Option.some.inj e2
    have hlt := (drawOk1_spec e3).1 j hmem
    refine Nat.le_trans (ih (qs.length - j') (by omega) j' rfl hj' ?_) k3
    cases hh : listed.getD j' false with
    | false => rfl
    | true => rw [inv.closed j' ks hks hh j hmem] at hl; cases hl
  | false =>
   simp only [openAt, h1, hc, Bool.false_eq_true, if_false]
   refine rankOf_mono qs ?_
   rcases Nat.lt_or_ge j p with h | h
   ·rw [(inv.loud j q h1 hc).2 h] at hl; cases hl
   ·exact h

theorem aft_get {ops : Array Oper} {i : Nat} {o : Oper} (h : ops[i]? = some o) : (aftOf ops)[i]? = some ((o.after.toList.filter (Region.binds .any)).map (·.on)) := by
 simp only [aftOf, List.getElem?_map, Array.getElem?_toList, h, Option.map_some]
theorem getD_setT {listed : Array Bool} {i j : Nat} (hi : i < listed.size) : (listed.setIfInBounds i true).getD j false = if j = i then true else listed.getD j false := by
 rw [Array.getD_eq_getD_getElem?, Array.getD_eq_getD_getElem?, Array.getElem?_setIfInBounds]
 by_cases h : i = j
 ·subst h; simp [hi]
 ·rw [if_neg h, if_neg (fun e => h e.symm)]
theorem getD_ft {listed : Array Bool} {i : Nat} (h : listed.getD i true = false) : listed.getD i false = false ∧ i < listed.size := by
 rw [Array.getD_eq_getD_getElem?] at h ⊢
 cases hh : listed[i]? with
 | none => rw [hh] at h; cases h
 | some b => rw [hh] at h; exact ⟨h, (Array.getElem?_eq_some_iff.1 hh).1⟩
theorem getD_ff {listed : Array Bool} {i : Nat} (hi : i < listed.size) (h : listed.getD i false = false) : listed.getD i true = false := by
 rw [Array.getD_eq_getD_getElem?] at h ⊢
 rw [Array.getElem?_eq_getElem hi] at h ⊢
 exact h

theorem draw_any {dr : Bool} {ops : Array Oper} {qs : List DOp} {S s' : RS} (hK : Knows P W G F) (hR : compR P dr pm ops = some (qs.map (·.o))) (hok : drawOk qs (aftOf ops) = true) (hsz0 : ∀ o ∈ ops.toList, ∀ d, o.dst = some d → d < a.tmps.size) :
  ∀ (fuel : Nat) (listed : Array Bool) (p : Nat) (T : RS) (I : Nat → Prop) (O : Tmp → Nat → Prop) (s : RS) (a' : Act) (w : World),
   listed.toList.count false ≤ fuel → DInv qs (aftOf ops) listed p → p ≤ qs.length → runL G F S qs (qs.drop p) (rankOf qs p) T = some s' →
   Agree (fun t => ∃ (i : Nat) (q : DOp), qs[i]? = some q ∧ q.dstC = some t ∧ listed.getD i false = false) (fun t => t ∈ calmT qs) s T → (∀ t ∈ calmT qs, ∀ c, S.e.get t = .v c → c.shal = true) →
   Rel arg W I O s a'.tmps w → a'.tmps.size = a.tmps.size → (∀ t, pm t = true → a'.tmps.getD t undef = arg t) → (∀ a'' w'', Come arg W pm I O w a' s' a'' w'' → Q .normal a'' w'') →
   wpAny P .any ops Q fuel listed a' w := by
 obtain ⟨hlen, hget⟩ := mapM_get hR
 have hlen' : ops.size = qs.length := by simpa using hlen
 -- the end
 have fin : ∀ (listed : Array Bool) (p : Nat) (T : RS) (I : Nat → Prop) (O : Tmp → Nat → Prop) (s : RS) (a' : Act) (w : World), DInv qs (aftOf ops) listed p → Region.ready .any ops listed = [] → runL G F S qs (qs.drop p) (rankOf qs p) T = some s' →
   Agree (fun t => ∃ (i : Nat) (q : DOp), qs[i]? = some q ∧ q.dstC = some t ∧ listed.getD i false = false) (fun t => t ∈ calmT qs) s T → Rel arg W I O s a'.tmps w → (∀ a'' w'', Come arg W pm I O w a' s' a'' w'' → Q .normal a'' w'') → Q .normal a' w := by
  intro listed p T I O s a' w inv hr hrun hag hrel hk
  have hall : ∀ i, i < qs.length → listed.getD i false = true := by
   intro i
   induction i using Nat.strongRecOn with
   | ind i ih =>
    intro hi
    cases hl : listed.getD i false with
    | true => rfl
    | false =>
     exfalso
     have hio : i < ops.size := by omega
     have hmem : i ∈ Region.ready .any ops listed := by
      rw [mem_ready]
      refine ⟨getD_ff (by rw [inv.size]; exact hi) hl, ops[i], by simp [hio], fun e he hb => ?_⟩
      obtain ⟨q, js, h1, h2, h3⟩ := drawOk_get hok hi
      rw [aft_get (o := ops[i]) (by simp [hio])] at h2
      obtain rfl := Option.some.inj h2
      have hj := (drawOk1_spec h3).1 e.on (List.mem_map.2 ⟨e, List.mem_filter.2 ⟨by simpa using he, hb⟩, rfl⟩)
      exact ih e.on hj (Nat.lt_trans hj hi)
     rw [hr] at hmem
     cases hmem
  have hT : s' = T := runL_end hrun fun q hq => by
   obtain ⟨i, hi⟩ := List.getElem?_of_mem hq
   rw [List.getElem?_drop] at hi
   cases hc : q.calm with
   | true => rfl
   | false =>
    have := (inv.loud (p + i) q hi hc).1 (hall _ (List.getElem?_eq_some_iff.1 hi).1)
    omega
  subst hT
  refine hk a' w (.refl (hrel.agree (C := fun t => t ∈ calmT qs) (hag.weaken (fun t ⟨i, q, h1, h2, h3⟩ => ?_) fun _ h => h.elim)))
  rw [hall i (List.getElem?_eq_some_iff.1 h1).1] at h3
  cases h3
 intro fuel
 induction fuel with
 | zero =>
  intro listed p T I O s a' w hcnt inv hp hrun hag hS hrel hsz hpm hk
  have hr : Region.ready .any ops listed = [] := by
   refine List.eq_nil_iff_forall_not_mem.2 fun i hi => ?_
   rw [mem_ready] at hi
   obtain ⟨h1, h2⟩ := getD_ft hi.1
   have : false ∈ listed.toList := by
    refine List.mem_iff_getElem?.2 ⟨i, ?_⟩
    rw [Array.getElem?_toList, Array.getElem?_eq_getElem h2]
    rw [Array.getD_eq_getD_getElem?, Array.getElem?_eq_getElem h2] at h1
    exact congrArg some h1
   have := List.count_pos_iff.2 this
   omega
  exact ⟨hr, fin listed p T I O s a' w inv hr hrun hag hrel hk⟩
 | succ fuel ih =>
  intro listed p T I O s a' w hcnt inv hp hrun hag hS hrel hsz hpm hk
  refine ⟨fun hr => fin listed p T I O s a' w inv hr hrun hag hrel hk, fun i hi => ?_⟩
  rw [mem_ready] at hi
  obtain ⟨hun, o, ho, hall⟩ := hi
  obtain ⟨hun', hisz⟩ := getD_ft hun
  have hiq : i < qs.length := by rw [← inv.size]; exact hisz
  obtain ⟨q, js, h1, h2, h3⟩ := drawOk_get hok hiq
  have hjs := h2
  rw [aft_get ho] at h2
  obtain rfl := Option.some.inj h2
  obtain ⟨k1, k2, k3, k4, k5, k6⟩ := drawOk1_spec h3
  obtain ⟨g, hg1, hg2⟩ := hget i o (by simpa using ho)
  have hgq : g = q.o := by
   rw [List.getElem?_map, h1] at hg1
   exact (Option.some.inj hg1).symm
  subst hgq
  have hdone : ∀ j ∈ (o.after.toList.filter (Region.binds .any)).map (·.on), listed.getD j false = true := by
   intro j hj
   obtain ⟨e, he, rfl⟩ := List.mem_map.1 hj
   obtain ⟨he1, he2⟩ := List.mem_filter.1 he
   exact hall e (by simpa using he1) he2
  have hlow : (if q.calm then q.lo else rankOf qs i) ≤ rankOf qs p := by
   rcases k2 with k2 | ⟨j, hj, k2⟩
   ·omega
   ·exact Nat.le_trans k2 (done_le hok inv j (Nat.lt_trans (k1 j hj) hiq) (hdone j hj))
  have hsee : ∀ t ∈ q.o.sees, ¬ ∃ (i : Nat) (q : DOp), qs[i]? = some q ∧ q.dstC = some t ∧ listed.getD i false = false := by
   rintro t ht ⟨i', q', e1, e2, e3⟩
   obtain ⟨j, hj, q'', e4, e5⟩ := k4 t ht (calmT_mem.2 ⟨i', q', e1, e2⟩)
   by_cases hij : i' = j
   ·subst hij
    rw [hdone i' hj] at e3
    cases e3
   ·obtain ⟨q3, js3, f1, f2, f3⟩ := drawOk_get hok (List.getElem?_eq_some_iff.1 e4).1
    rw [e4] at f1
    obtain rfl := Option.some.inj f1
    have hd : q''.o.o.dst = some t := by
     unfold DOp.dstC at e5
     split at e5
     ·exact e5
     ·cases e5
    exact (drawOk1_spec f3).2.2.2.2.1 t hd i' q' hij e1 e2
  have hcnt' : (listed.setIfInBounds i true).toList.count false ≤ fuel := by
   have hlt : i < listed.toList.length := by simpa using hisz
   have hbi : listed.toList[i] = false := by
    have h := hun'
    rw [Array.getD_eq_getD_getElem?, Array.getElem?_eq_getElem hisz] at h
    simpa using h
   rw [Array.toList_setIfInBounds, List.count_set hlt]
   have : 0 < listed.toList.count false := List.count_pos_iff.2 (List.mem_iff_getElem.2 ⟨i, hlt, hbi⟩)
   rw [hbi]
   show listed.toList.count false - 1 + 0 ≤ fuel
   omega
  have hclosed' : ∀ (i' : Nat) (js : List Nat), (aftOf ops)[i']? = some js → (listed.setIfInBounds i true).getD i' false = true → ∀ j ∈ js, (listed.setIfInBounds i true).getD j false = true := by
   intro i' js' hjs' hl j hj
   rw [getD_setT hisz] at hl ⊢
   split
   ·rfl
   ·split at hl
    ·rename_i e
     subst e
     rw [hjs] at hjs'
     obtain rfl := Option.some.inj hjs'
     exact hdone j hj
    ·exact inv.closed i' js' hjs' hl j hj
  have hdl : ∀ d, o.dst = some d → d < a'.tmps.size := fun d hd => by
   rw [hsz]
   exact hsz0 o (Array.mem_toList_iff.2 (Array.mem_of_getElem? ho)) d hd
  -- one step
  have step : ∀ (p' : Nat) (T1 T' s1 : RS), gop G F s q.o = some s1 → DInv qs (aftOf ops) (listed.setIfInBounds i true) p' → p' ≤ qs.length → runL G F S qs (qs.drop p') (rankOf qs p') T' = some s' →
    Agree (fun t => ∃ (i' : Nat) (q : DOp), qs[i']? = some q ∧ q.dstC = some t ∧ (listed.setIfInBounds i true).getD i' false = false) (fun t => t ∈ calmT qs) s1 T' →
    wpOp P ops Q i (wpAny P .any ops Q fuel (listed.setIfInBounds i true)) a' w := by
   intro p' T1 T' s1 hg inv' hp' hrun' hag'
   have key := gop_sound (Q := Q) (K := wpAny P .any ops Q fuel (listed.setIfInBounds i true)) hK hg2 hrel hdl hpm hg fun a2 w2 hc => by
    obtain ⟨I', O', c1, c2, c3, c4, c5⟩ := hc
    exact ih _ p' T' I' O' s1 a2 w2 hcnt' inv' hp' hrun' hag' hS c3 (c2.trans hsz) (fun t ht => (c5 t ht).trans (hpm t ht)) fun a'' w'' hh => hk a'' w'' (Come.next c1 c2 c3 c4 c5 hh)
   unfold wpOp
   simp only [ho]
   split
   ·rename_i hw
    rw [if_pos hw] at key
    exact .inl key
   ·rename_i hw
    rw [if_neg hw] at key
    exact key
  cases hc : q.calm with
  | true =>
   rw [hc] at hlow
   simp only [if_true] at hlow
   have hhigh : rankOf qs p ≤ q.hi := by
    have := le_open hok inv hp _ i rfl hiq hun'
    simpa only [openAt, h1, hc, if_true] using this
   obtain ⟨d, hd, e1, e2⟩ := stage_get (runL_stage hrun) h1 hc hlow hhigh
   have hdC : d ∈ calmT qs := calmT_mem.2 ⟨i, q, h1, by simp only [DOp.dstC, hc, if_true, hd]⟩
   obtain ⟨s1, q1, q2⟩ := gop_agree hag hsee e2 (fun d' hd' hC c hcv => by
    rw [hd] at hd'
    obtain rfl := Option.some.inj hd'
    simp only [RS.put, get_put, if_true] at hcv
    exact hS _ hC c hcv)
   refine step p T T s1 q1 ⟨by simpa using inv.size, fun i' q' hq' hl' => ?_, hclosed'⟩ hp hrun ?_
   ·rw [getD_setT hisz]
    have hne : i' ≠ i := fun e => by subst e; rw [h1] at hq'; obtain rfl := Option.some.inj hq'; rw [hc] at hl'; cases hl'
    rw [if_neg hne]
    exact inv.loud i' q' hq' hl'
   ·refine (q2.unput e1 hdC).weaken (fun t ⟨⟨i', q', f1, f2, f3⟩, f4⟩ => ⟨i', q', f1, f2, ?_⟩) fun t ⟨i', q', f1, f2, _⟩ => calmT_mem.2 ⟨i', q', f1, f2⟩
    rw [getD_setT hisz]
    have hne : i' ≠ i := fun e => by
     subst e
     rw [h1] at f1
     obtain rfl := Option.some.inj f1
     simp only [DOp.dstC, hc, if_true] at f2
     exact f4 f2
    rw [if_neg hne]; exact f3
  | false =>
   rw [hc] at hlow
   simp only [Bool.false_eq_true, if_false] at hlow
   have hpi : p ≤ i := by
    rcases Nat.lt_or_ge i p with h | h
    ·rw [(inv.loud i q h1 hc).2 h] at hun'; cases hun'
    ·exact h
   have hrk : rankOf qs i = rankOf qs p := Nat.le_antisymm hlow (rankOf_mono qs hpi)
   obtain ⟨T', e1, e2⟩ := runL_skip (i := i - p) hrun (by rw [List.getElem?_drop, show p + (i - p) = i by omega]; exact h1) hc (by have := rankOf_drop qs p (i - p); rw [show p + (i - p) = i by omega] at this; omega)
   obtain ⟨s1, q1, q2⟩ := gop_agree hag hsee e1 (fun d hd hC c hcv => by
    obtain ⟨i', q', f1, f2⟩ := calmT_mem.1 hC
    by_cases hne : i' = i
    ·subst hne
     rw [h1] at f1
     obtain rfl := Option.some.inj f1
     simp [DOp.dstC, hc] at f2
    ·exact absurd f2 (k5 d hd i' q' hne f1))
   refine step (i + 1) T T' s1 q1 ⟨by simpa using inv.size, fun i' q' hq' hl' => ?_, hclosed'⟩ (by omega) ?_ ?_
   ·rw [getD_setT hisz]
    by_cases hne : i' = i
    ·subst hne; simp
    ·rw [if_neg hne, inv.loud i' q' hq' hl']
     constructor
     ·intro h; omega
     ·intro h
      rcases Nat.lt_or_ge i' p with h' | h'
      ·exact h'
      ·exfalso
       have e3 := rankOf_loud hq' hl'
       have e4 := rankOf_mono qs (show i' + 1 ≤ i by omega)
       have e5 := rankOf_mono qs h'
       omega
   ·rw [List.drop_drop, show p + (i - p + 1) = i + 1 by omega] at e2
    rw [rankOf_loud h1 hc, hrk]
    exact e2
   ·refine q2.weaken (fun t ⟨⟨i', q', f1, f2, f3⟩, f4⟩ => ⟨i', q', f1, f2, ?_⟩) fun t ⟨i', q', f1, f2, _⟩ => calmT_mem.2 ⟨i', q', f1, f2⟩
    rw [getD_setT hisz]
    have hne : i' ≠ i := fun e => by
     subst e
     rw [h1] at f1
     obtain rfl := Option.some.inj f1
     simp [DOp.dstC, hc] at f2
    rw [if_neg hne]; exact f3

theorem get_noroot {cs : List Tmp} : ∀ {e : Env} {t : Tmp} {r : Tmp}, e.noroot cs = true → (e.get t).root = some r → r ∉ cs
 | [], t, r, h, hr => by simp [Env.get, AV.root] at hr
 | (k, v) :: e, t, r, h, hr => by
  have hrest : Env.noroot cs e = true := by
   cases v <;> simp only [Env.noroot, Bool.and_eq_true] at h <;> first | exact h | exact h.2
  simp only [Env.get] at hr
  split at hr
  ·cases v <;> simp only [AV.root, Option.some.injEq] at hr <;> try (cases hr; done)
   all_goals
    subst hr
    simp only [Env.noroot, Bool.and_eq_true, Bool.not_eq_true'] at h
    exact fun hm => by rw [List.contains_iff_mem.2 hm] at h; cases h.1
  ·exact get_noroot hrest hr

theorem lay_spec {S : RS} : ∀ (ts : List Tmp) (s : RS), (∀ t, (lay S ts s).e.get t = if t ∈ ts then S.e.get t else s.e.get t) ∧ (∀ r p, r ∉ ts → cleanP (lay S ts s).d r p = cleanP s.d r p) ∧ ∀ r p x k, r ∉ ts → clean (lay S ts s).d r p x k = clean s.d r p x k
 | [], s => ⟨fun t => by simp [lay], fun r p _ => rfl, fun r p x k _ => rfl⟩
 | t0 :: ts, s => by
  obtain ⟨h1, h2, h3⟩ := lay_spec (S := S) ts (s.put t0 (S.e.get t0))
  simp only [lay]
  refine ⟨fun t => ?_, fun r p hr => ?_, fun r p x k hr => ?_⟩
  ·rw [h1]
   by_cases ht : t ∈ ts
   ·simp [ht]
   ·rw [if_neg ht]
    simp only [RS.put, get_put]
    by_cases he : t = t0
    ·subst he; simp
    ·simp [he, ht]
  ·simp only [List.mem_cons, not_or] at hr
   rw [h2 r p hr.2]
   have hne : (t0 == r) = false := by simpa using fun e : t0 = r => hr.1 e.symm
   simp only [RS.put]; split
   ·simp [cleanP, hne]
   ·rfl
  ·simp only [List.mem_cons, not_or] at hr
   rw [h3 r p x k hr.2]
   have hne : (t0 == r) = false := by simpa using fun e : t0 = r => hr.1 e.symm
   simp only [RS.put]; split
   ·simp [clean, hne]
   ·rfl

theorem Rel.drawn {vs : Array Value} {n : Nat} (h : Rel arg W I O s vs w) : Rel arg W I O s vs { w with drawn := n } := by
 have hb : Below w.heap.size w { w with drawn := n } := ⟨rfl, rfl, rfl, Nat.le_refl _, fun _ _ => rfl⟩
 refine ⟨h.bel.trans ⟨rfl, rfl, rfl, Nat.le_refl _, fun _ _ => rfl⟩, h.old, h.ilt, h.olt, h.notI, h.disj, fun t => ?_⟩
 have hr := h.rep t
 have hw : ∀ {S : Nat → Prop} b, S b ∨ I b → ({ w with drawn := n } : World).heap[b]? = w.heap[b]? := fun _ _ => rfl
 have hroot : ∀ {r p B row}, Roots w s.e vs r p B row → Roots { w with drawn := n } s.e vs r p B row := fun ⟨c, h1, h2⟩ => ⟨c, h1, h2.grow hb⟩
 cases hav : s.e.get t with
 | v c => rw [hav] at hr; exact RepC.world hr hw
 | tup cs => rw [hav] at hr; exact RepT.world hr hw
 | ptr r p o =>
  rw [hav] at hr
  intro hc
  obtain ⟨b, o', row', k1, k2⟩ := hr hc
  exact ⟨b, o', row', hroot k1, k2⟩
 | iptr row o =>
  rw [hav] at hr
  obtain ⟨b, o', h1, h2, h3⟩ := hr
  exact ⟨b, o', h1, h2, h3.world (fun j _ => rfl) hw⟩
 | ld r p o m g =>
  rw [hav] at hr
  intro hc
  obtain ⟨B, row', k1, k2, k3, k4⟩ := hr hc
  have hg : ∀ j, B.get { w with drawn := n } j = B.get w j := fun j => by cases B <;> rfl
  refine ⟨B, row', hroot k1, k2, fun hg' => ?_, fun hg' => ?_⟩
  ·obtain ⟨cs, c1, c2, c3⟩ := k3 hg'
   exact ⟨cs, c1, c2, fun j hj => by rw [hg]; exact c3 j hj⟩
  ·rw [hg]; exact k4 hg'
 | _ => rw [hav] at hr; exact hr

theorem draw_sound {ops : Array Oper} {qs : List DOp} (hK : Knows P W G F) (hq : compD P pm ops = some qs) (h : Rel arg W I O s a.tmps w) (hsz : ∀ o ∈ ops.toList, ∀ d, o.dst = some d → d < a.tmps.size) (hpm : ∀ t, pm t = true → a.tmps.getD t undef = arg t)
  (hs : draw G F qs s = some s') (hk : ∀ a' w', Come arg W pm I O w a s' a' w' → Q .normal a' w') : wpAny P .any ops Q ops.size (Array.replicate ops.size false) a { w with drawn := w.drawn + 1 } := by
 obtain ⟨_, ⟨_, hR⟩, hok⟩ := compD_spec hq
 obtain ⟨hlen, _⟩ := mapM_get hR
 have hlen' : ops.size = qs.length := by simpa using hlen
 unfold draw at hs
 split at hs
 ·rename_i S hS
  split at hs
  ·rename_i hcond
   obtain ⟨hcalm, hnr⟩ := hcond
   obtain ⟨l1, l2, l3⟩ := lay_spec (S := S) (calmT qs) s
   have hcal : ∀ t ∈ calmT qs, (S.e.get t).calmA (calmT qs) = true := by simpa [List.all_eq_true] using hcalm
   have hshal : ∀ t ∈ calmT qs, ∀ c, S.e.get t = .v c → c.shal = true := fun t ht c hc => by
    have := hcal t ht
    rw [hc] at this
    exact this
   have hfalse : ∀ i, (Array.replicate ops.size false).getD i false = false := fun i => by
    rw [Array.getD_eq_getD_getElem?, Array.getElem?_replicate]
    split <;> rfl
   refine draw_any (a := a) hK hR hok hsz ops.size _ 0 (lay S (calmT qs) s) I O s a _ (by simp) ⟨by simp [hlen'], fun i q _ _ => ?_, fun i js _ hl => ?_⟩ (Nat.zero_le _) (by cases qs <;> exact hs) ?_ hshal h.drawn rfl hpm fun a'' w'' hh => hk a'' w'' ?_
   ·rw [hfalse]; simp
   ·rw [hfalse] at hl; cases hl
   ·refine ⟨fun t ⟨i, q, h1, h2, _⟩ => calmT_mem.2 ⟨i, q, h1, h2⟩, fun t ht => ?_, fun r p hr => (l2 r p hr).symm, fun r p x k hr => (l3 r p x k hr).symm, fun t ht r hr => ?_, fun t ht c hc => ?_⟩
    ·rw [l1, if_neg (fun hm => ht ?_)]
     obtain ⟨i, q, h1, h2⟩ := calmT_mem.1 hm
     exact ⟨i, q, h1, h2, hfalse i⟩
    ·rw [l1] at hr
     split at hr
     ·rename_i hm
      have := hcal t hm
      cases hav : S.e.get t with
      | ptr r' p o =>
       rw [hav] at hr this
       simp only [AV.root, Option.some.injEq] at hr
       subst hr
       simp only [AV.calmA, Bool.not_eq_true'] at this
       exact fun hm' => by rw [List.contains_iff_mem.2 hm'] at this; cases this
      | ld r' p o n g =>
       rw [hav] at hr this
       simp only [AV.root, Option.some.injEq] at hr
       subst hr
       simp only [AV.calmA, Bool.not_eq_true'] at this
       exact fun hm' => by rw [List.contains_iff_mem.2 hm'] at this; cases this
      | _ => rw [hav] at hr; cases hr
     ·exact get_noroot hnr hr
    ·rw [l1, if_pos ht] at hc
     exact hshal t ht c hc
   ·obtain ⟨I', O', c1, c2, c3, c4, c5⟩ := hh
    exact ⟨I', O', c1, c2, c3, ⟨c4.imm, c4.size, c4.kept, c4.got⟩, c5⟩
  ·cases hs
 ·cases hs

end Go.VS
