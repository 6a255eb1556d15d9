/- A whole call does not see slots that it does not name. -/
import Derived.Test.YtdoelepflcaijaaEngAgree2
namespace Go.VS
open Go Go.RowKit
set_option linter.unusedSimpArgs false
set_option linter.unusedVariables false

variable {s s2 s' s2' : RS} {N C : Tmp → Prop} {x : X} {c : CV} {G : Sigs} {F : Fns}

theorem Agree.setA (h : Agree N C s s2) {r : Tmp} (hr : ¬ C r) {av : AV} (hav : ∀ r', av.root = some r' → ¬ C r') : Agree N C (s.set r av) (s2.set r av) := by
  refine ⟨h.sub, fun t ht => ?_, h.cp, h.cl, fun t ht r' hr' => ?_, fun t ht c' hc' => ?_⟩
  · simp only [RS.set, get_put]
    by_cases htd : t = r
    · rw [if_pos htd, if_pos htd]
    · rw [if_neg htd, if_neg htd]; exact h.e t ht
  · simp only [RS.set, get_put] at hr'
    by_cases htd : t = r
    · rw [if_pos htd] at hr'; exact hav r' hr'
    · rw [if_neg htd] at hr'; exact h.refs t ht r' hr'
  · simp only [RS.set, get_put] at hc'
    by_cases htd : t = r
    · exact absurd ht (htd ▸ hr)
    · rw [if_neg htd] at hc'; exact h.cal t ht c' hc'

theorem Agree.back {s0 s02 : RS} (h0 : Agree N C s0 s02) : ∀ (as : List Arg) (cs : List CV) (s s2 s2' : RS), Agree N C s s2 → (∀ r ∈ rootsV as, ¬ C r) → (∀ r ∈ rootsM as, ¬ C r) → s02.back s2 as cs = some s2' → ∃ s', s0.back s as cs = some s' ∧ Agree N C s' s2'
  | [], [], s, s2, s2', h, hv, hm, hb => by
    simp only [RS.back, Option.some.injEq] at hb ⊢
    subst hb
    exact ⟨s, rfl, h⟩
  | [], _ :: _, s, s2, s2', h, hv, hm, hb => by simp [RS.back] at hb
  | .v _ none :: _, [], s, s2, s2', h, hv, hm, hb => by simp [RS.back] at hb
  | .v _ (some _) :: _, [], s, s2, s2', h, hv, hm, hb => by simp [RS.back] at hb
  | .m .. :: _, [], s, s2, s2', h, hv, hm, hb => by simp [RS.back] at hb
  | .o :: _, [], s, s2, s2', h, hv, hm, hb => by simp [RS.back] at hb
  | .v c none :: as, c1 :: cs, s, s2, s2', h, hv, hm, hb => by
    simp only [RS.back] at hb ⊢
    exact Agree.back h0 as cs s s2 s2' h hv hm hb
  | .o :: as, c1 :: cs, s, s2, s2', h, hv, hm, hb => by
    simp only [RS.back] at hb ⊢
    exact Agree.back h0 as cs s s2 s2' h hv hm hb
  | .v c (some r) :: as, c1 :: cs, s, s2, s2', h, hv, hm, hb => by
    simp only [RS.back] at hb ⊢
    have hr : ¬ C r := hv r (by simp [rootsV])
    rw [h0.root hr]
    exact Agree.back h0 as cs _ _ s2' (h.setA hr (h0.refs r fun hn => hr (h0.sub r hn))) (fun r' hr' => hv r' (by simp [rootsV, hr'])) hm hb
  | .m c r p o :: as, c1 :: cs, s, s2, s2', h, hv, hm, hb => by
    simp only [RS.back] at hb ⊢
    have hr : ¬ C r := hm r (by simp [rootsM])
    rw [h0.root hr]
    split at hb
    · rename_i cr hcr
      split at hb
      · rename_i cr' n hl
        obtain ⟨s', k1, k2⟩ := Agree.back h0 as cs _ _ s2' ((h.setV hr cr').mark r [] 0 n) hv (fun r' hr' => hm r' (by simp [rootsM, hr'])) hb
        exact ⟨s', k1, k2⟩
      · cases hb
    · cases hb

end Go.VS
