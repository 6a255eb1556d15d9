/- Slots that are alike but for some: what an operation does that names none of these. -/
import Derived.Test.YtdoelepflcaijaaEngDisp
namespace Go.VS
open Go Go.RowKit
set_option linter.unusedSimpArgs false
set_option linter.unusedVariables false

variable {s s2 s' s2' : RS} {N C : Tmp → Prop} {x : X} {c : CV} {G : Sigs} {F : Fns}

/-- The root that a hold stands for a place of. -/
def AV.root : AV → Option Tmp
  | .ptr r _ _ => some r
  | .ld r _ _ _ _ => some r
  | _ => none
/-- Alike but for the slots N; C (calm slots): nothing stands for a place in them, they own nothing. -/
structure Agree (N C : Tmp → Prop) (s s2 : RS) : Prop where
  sub : ∀ t, N t → C t
  e : ∀ t, ¬ N t → s.e.get t = s2.e.get t
  cp : ∀ r p, ¬ C r → cleanP s.d r p = cleanP s2.d r p
  cl : ∀ r p x k, ¬ C r → clean s.d r p x k = clean s2.d r p x k
  refs : ∀ t, ¬ N t → ∀ r, (s2.e.get t).root = some r → ¬ C r
  cal : ∀ t, C t → ∀ c, s2.e.get t = .v c → c.shal = true

/-- An operand outside N. -/
def X.out (N : Tmp → Prop) : X → Prop
  | .t a => ¬ N a
  | .c _ => True

theorem Agree.val (h : Agree N C s s2) (hx : x.out N) : s.val x = s2.val x := by
  cases x with
  | t t => exact h.e t hx
  | c c => rfl
theorem Agree.vroot (h : Agree N C s s2) (hx : x.out N) : ∀ r, (s2.val x).root = some r → ¬ C r := by
  cases x with
  | t t => exact h.refs t hx
  | c c => intro r hr; cases hr
theorem Agree.root (h : Agree N C s s2) {r : Tmp} (hr : ¬ C r) : s.e.get r = s2.e.get r := h.e r fun hn => hr (h.sub r hn)
theorem Agree.slotAt (h : Agree N C s s2) {r : Tmp} (hr : ¬ C r) (p : List (Nat × Nat)) : VS.slotAt s.e r p = VS.slotAt s2.e r p := by
  simp only [VS.slotAt, rowOf, h.root hr]
theorem Agree.look (h : Agree N C s s2) {av : AV} (hr : ∀ r, av.root = some r → ¬ C r) : s.look av = s2.look av := by
  cases av with
  | ld r p o n agg => simp only [RS.look, h.cl r p o n (hr r rfl), h.slotAt (hr r rfl) p]
  | _ => rfl
theorem Agree.lookX (h : Agree N C s s2) (hx : x.out N) : s.look (s.val x) = s2.look (s2.val x) := by
  rw [h.val hx]; exact h.look (h.vroot hx)
theorem Agree.int (h : Agree N C s s2) (hx : x.out N) : s.int x = s2.int x := by
  simp only [RS.int, h.lookX hx]
theorem Agree.bound (h : Agree N C s s2) {d : Nat} {o : Option X} (hx : ∀ x, o = some x → x.out N) : s.bound d o = s2.bound d o := by
  cases o with
  | none => rfl
  | some x => simp only [RS.bound, h.int (hx x rfl)]

theorem Agree.put (h : Agree N C s s2) (d : Tmp) {av : AV} (hr : ∀ r, av.root = some r → ¬ C r) (hc : C d → ∀ c, av = .v c → c.shal = true) : Agree (fun t => N t ∧ t ≠ d) C (s.put d av) (s2.put d av) := by
  refine ⟨fun t ht => h.sub t ht.1, fun t ht => ?_, fun r p hr' => ?_, fun r p x k hr' => ?_, fun t ht r hr' => ?_, fun t ht c hc' => ?_⟩
  · simp only [RS.put, get_put]
    by_cases htd : t = d
    · rw [if_pos htd, if_pos htd]
    · rw [if_neg htd, if_neg htd]; exact h.e t fun hn => ht ⟨hn, htd⟩
  · have hdc : ∀ (dd : List Dirt), ¬ C r → C d → cleanP ((d, [], 0, 0) :: dd) r p = cleanP dd r p := fun dd h1 h2 => by
      have : (d == r) = false := by simpa using fun (e : d = r) => h1 (e ▸ h2)
      simp [cleanP, this]
    simp only [RS.put]
    by_cases hd : C d
    · split <;> split <;> simp only [hdc _ hr' hd, h.cp r p hr']
    · rw [h.root hd]
      split <;> simp only [cleanP, h.cp r p hr']
  · have hdc : ∀ (dd : List Dirt), ¬ C r → C d → clean ((d, [], 0, 0) :: dd) r p x k = clean dd r p x k := fun dd h1 h2 => by
      have : (d == r) = false := by simpa using fun (e : d = r) => h1 (e ▸ h2)
      simp [clean, this]
    simp only [RS.put]
    by_cases hd : C d
    · split <;> split <;> simp only [hdc _ hr' hd, h.cl r p x k hr']
    · rw [h.root hd]
      split <;> simp only [clean, h.cl r p x k hr']
  · simp only [RS.put, get_put] at hr'
    by_cases htd : t = d
    · rw [if_pos htd] at hr'; exact hr r hr'
    · rw [if_neg htd] at hr'; exact h.refs t (fun hn => ht ⟨hn, htd⟩) r hr'
  · simp only [RS.put, get_put] at hc'
    by_cases htd : t = d
    · rw [if_pos htd] at hc'; subst htd; exact hc ht c hc'
    · rw [if_neg htd] at hc'; exact h.cal t ht c hc'
/-- .. where the slot is none of N. -/
theorem Agree.put' (h : Agree N C s s2) {d : Tmp} (hd : ¬ N d) {av : AV} (hr : ∀ r, av.root = some r → ¬ C r) (hc : C d → ∀ c, av = .v c → c.shal = true) : Agree N C (s.put d av) (s2.put d av) := by
  have := h.put d hr hc
  have he : (fun t => N t ∧ t ≠ d) = N := by
    funext t
    exact propext ⟨fun h => h.1, fun hn => ⟨hn, fun e => hd (e ▸ hn)⟩⟩
  rw [he] at this
  exact this
theorem Agree.mark (h : Agree N C s s2) (r : Tmp) (q : List (Nat × Nat)) (o n : Nat) : Agree N C (s.mark r q o n) (s2.mark r q o n) :=
  ⟨h.sub, h.e, fun r' p hr => by simp only [RS.mark, cleanP, h.cp r' p hr], fun r' p x k hr => by simp only [RS.mark, clean, h.cl r' p x k hr], h.refs, h.cal⟩
theorem Agree.setV (h : Agree N C s s2) {r : Tmp} (hr : ¬ C r) (c : CV) : Agree N C (s.set r (.v c)) (s2.set r (.v c)) := by
  refine ⟨h.sub, fun t ht => ?_, h.cp, h.cl, fun t ht r' hr' => ?_, fun t ht c' hc' => ?_⟩
  · simp only [RS.set, get_put]
    by_cases htd : t = r
    · rw [if_pos htd, if_pos htd]
    · rw [if_neg htd, if_neg htd]; exact h.e t ht
  · simp only [RS.set, get_put] at hr'
    by_cases htd : t = r
    · rw [if_pos htd] at hr'; cases hr'
    · rw [if_neg htd] at hr'; exact h.refs t ht r' hr'
  · simp only [RS.set, get_put] at hc'
    by_cases htd : t = r
    · exact absurd ht (htd ▸ hr)
    · rw [if_neg htd] at hc'; exact h.cal t ht c' hc'
theorem Agree.poke (h : Agree N C s s2) {r : Tmp} (hr : ¬ C r) {p : List (Nat × Nat)} {o : Nat} {ls : List L} (hp : s2.poke r p o ls = some s2') : ∃ s', s.poke r p o ls = some s' ∧ Agree N C s' s2' := by
  unfold RS.poke at hp ⊢
  rw [h.root hr]
  split at hp
  · rename_i c hc
    split at hp
    · rename_i row hrow
      obtain rfl := (Option.some.inj hp).symm
      exact ⟨_, by simp only [hrow], h.setV hr _⟩
    · cases hp
  · cases hp
theorem Agree.take (h : Agree N C s s2) (hx : x.out N) (ht : s2.take x = some (c, s2')) : ∃ s', s.take x = some (c, s') ∧ Agree N C s' s2' := by
  cases x with
  | c c0 =>
    simp only [RS.take, Option.some.injEq, Prod.mk.injEq] at ht ⊢
    obtain ⟨rfl, rfl⟩ := ht
    exact ⟨s, ⟨rfl, rfl⟩, h⟩
  | t t =>
    have hx' : ¬ N t := hx
    have hroot := h.refs t hx'
    simp only [RS.take] at ht ⊢
    rw [h.e t hx']
    cases hav : s2.e.get t with
    | v c0 =>
      rw [hav] at ht
      have key : (if c0.shal then some (c0, s2) else some (c0, s2.put t .bad)) = some (c, s2') → ∃ s', (if c0.shal then some (c0, s) else some (c0, s.put t .bad)) = some (c, s') ∧ Agree N C s' s2' := by
        intro ht
        split at ht
        · rename_i hs
          simp only [Option.some.injEq, Prod.mk.injEq] at ht
          obtain ⟨rfl, rfl⟩ := ht
          exact ⟨s, by rw [if_pos hs], h⟩
        · rename_i hs
          simp only [Option.some.injEq, Prod.mk.injEq] at ht
          obtain ⟨rfl, rfl⟩ := ht
          exact ⟨_, by rw [if_neg hs], h.put' hx' (fun r hr => by cases hr) (fun _ c h => by cases h)⟩
      cases c0 with
      | pbox => cases ht
      | gone => cases ht
      | leaf l => exact key ht
      | agg ls => exact key ht
      | box row => exact key ht
    | ld r p o n agg =>
      rw [hav] at ht hroot
      have hrC := hroot r rfl
      have hl : s.look (.ld r p o n agg) = s2.look (.ld r p o n agg) := h.look (fun r' hr' => by cases hr'; exact hrC)
      simp only at ht ⊢
      rw [hl]
      split at ht
      · rename_i c1 hc1
        split at ht
        · rename_i hs
          simp only [Option.some.injEq, Prod.mk.injEq] at ht
          obtain ⟨rfl, rfl⟩ := ht
          exact ⟨s, by simp only [hs, if_pos], h⟩
        · rename_i hs
          split at ht
          · rename_i s1 hp
            simp only [Option.some.injEq, Prod.mk.injEq] at ht
            obtain ⟨rfl, rfl⟩ := ht
            obtain ⟨s1', k1, k2⟩ := h.poke hrC hp
            exact ⟨_, by simp only [if_neg hs, k1], k2.mark ..⟩
          · cases ht
      · cases ht
    | _ => rw [hav] at ht; cases ht

theorem Agree.place (h : Agree N C s s2) (hx : x.out N) : s.place x = s2.place x ∧ ∀ r p o, s2.place x = some (r, p, o) → ¬ C r := by
  cases x with
  | c c => exact ⟨rfl, fun r p o h => by cases h⟩
  | t t =>
    have hx' : ¬ N t := hx
    simp only [RS.place]
    rw [h.e t hx']
    cases hav : s2.e.get t with
    | v c =>
      have hcal := fun hC => h.cal t hC c hav
      cases c with
      | box row => exact ⟨rfl, fun r p o hh => by simp only [Option.some.injEq, Prod.mk.injEq] at hh; obtain ⟨rfl, _⟩ := hh; exact fun hC => by cases hcal hC⟩
      | pbox t0 row => exact ⟨rfl, fun r p o hh => by simp only [Option.some.injEq, Prod.mk.injEq] at hh; obtain ⟨rfl, _⟩ := hh; exact fun hC => by cases hcal hC⟩
      | _ => exact ⟨rfl, fun r p o hh => by cases hh⟩
    | ptr r p o =>
      have hrC := h.refs t hx' r (by rw [hav]; rfl)
      simp only [h.cp r p hrC]
      refine ⟨trivial, fun r' p' o' hh => ?_⟩
      split at hh
      · simp only [Option.some.injEq, Prod.mk.injEq] at hh
        obtain ⟨rfl, _⟩ := hh
        exact hrC
      · cases hh
    | _ => exact ⟨rfl, fun r p o hh => by cases hh⟩

theorem Agree.parts : ∀ (ps : List (Nat × Nat × X)) (s s2 s2' : RS) (row row' : List L), Agree N C s s2 → (∀ q ∈ ps, q.2.2.out N) → s2.parts ps row = some (row', s2') → ∃ s', s.parts ps row = some (row', s') ∧ Agree N C s' s2'
  | [], s, s2, s2', row, row', h, hx, hp => by
    simp only [RS.parts, Option.some.injEq, Prod.mk.injEq] at hp ⊢
    obtain ⟨rfl, rfl⟩ := hp
    exact ⟨s, ⟨rfl, rfl⟩, h⟩
  | (o, n, x) :: ps, s, s2, s2', row, row', h, hx, hp => by
    simp only [RS.parts] at hp ⊢
    split at hp
    · rename_i c s1 ht
      obtain ⟨s1', k1, k2⟩ := h.take (hx (o, n, x) (by simp)) ht
      split at hp
      · rename_i hc
        obtain ⟨s', q1, q2⟩ := Agree.parts ps s1' s1 s2' _ row' k2 (fun q hq => hx q (by simp [hq])) hp
        exact ⟨s', by simp only [k1, if_pos hc]; exact q1, q2⟩
      · cases hp
    · cases hp
theorem Agree.rows (sz : Nat) : ∀ (ps : List (Nat × X)) (s s2 s2' : RS) (rows rows' : List (List L)), Agree N C s s2 → (∀ q ∈ ps, q.2.out N) → s2.rows sz ps rows = some (rows', s2') → ∃ s', s.rows sz ps rows = some (rows', s') ∧ Agree N C s' s2'
  | [], s, s2, s2', rows, rows', h, hx, hp => by
    simp only [RS.rows, Option.some.injEq, Prod.mk.injEq] at hp ⊢
    obtain ⟨rfl, rfl⟩ := hp
    exact ⟨s, ⟨rfl, rfl⟩, h⟩
  | (i, x) :: ps, s, s2, s2', rows, rows', h, hx, hp => by
    simp only [RS.rows] at hp ⊢
    split at hp
    · rename_i c s1 ht
      obtain ⟨s1', k1, k2⟩ := h.take (hx (i, x) (by simp)) ht
      split at hp
      · rename_i hc
        obtain ⟨s', q1, q2⟩ := Agree.rows sz ps s1' s1 s2' _ rows' k2 (fun q hq => hx q (by simp [hq])) hp
        exact ⟨s', by simp only [k1, if_pos hc]; exact q1, q2⟩
      · cases hp
    · cases hp

end Go.VS
