/- Lists as rows of values: the program's and the reference's tell the same. -/
import Derived.Test.YtjjfodoafefohaaDoorALPairA
namespace Go.Proofs.YtjjfodoafefohaaDoor.AL
open Go Go.VS Go.Lib
set_option maxRecDepth 10000
set_option maxHeartbeats 8000000
set_option linter.unusedSimpArgs false
set_option linter.unusedVariables false
theorem valCnts : ∀ l : List KValue, KValue.cnts l = 3 * l.length
  | [] => rfl
  | x :: l => by simp only [KValue.cnts, KValue.cnt, valCnts l, List.length_cons]; omega
/-- What a pair is made of. -/
def partsB (h : List KCell) (v : KValue) : KValue × KValue := match h[v.n.toNat]? with
  | some c => match c.vals with
    | [a, b] => (a, b)
    | _ => (v, v)
  | none => (v, v)
theorem IsPair.parts {h : List KCell} {v : KValue} {c : KCell} {a b : KValue} (p : IsPair h v c a b) : partsB h v = (a, b) := by
  unfold partsB
  rw [p.get]
  simp only [p.vals]
def listF (h : List KCell) : Nat → KValue → List KValue → Option (List KValue)
  | 0, _, _ => none
  | d + 1, v, out => if v.kind = 5 then listF h d (partsB h v).2 (out ++ [(partsB h v).1]) else if v.kind = 3 then some out else none
theorem listF_length (h : List KCell) : ∀ (d : Nat) (v : KValue) (out l : List KValue), listF h d v out = some l → l.length ≤ out.length + d
  | 0, v, out, l, e => by simp [listF] at e
  | d + 1, v, out, l, e => by
    unfold listF at e
    split at e
    · have := listF_length h d _ _ l e
      simp at this
      omega
    · split at e
      · obtain rfl := Option.some.inj e; omega
      · cases e
/-- A value as a list, if it is one. -/
noncomputable def asListB (h : List KCell) (v : KValue) : Option (List KValue) := if heapB h = true ∧ valB h v = true then listF h (rank v + 1) v [] else none
theorem rank_le {h : List KCell} {v : KValue} (hh : heapB h = true) (hv : valB h v = true) : rank v ≤ h.length := by
  by_cases hk : v.kind = 5
  · obtain ⟨c, a, b, p⟩ := pair_of hh hv hk
    have := p.hi
    have := p.lo
    unfold rank
    rw [if_pos hk]
    omega
  · unfold rank
    rw [if_neg hk]
    omega
theorem asListB_length (h : List KCell) (v : KValue) : ((asListB h v).getD []).length ≤ h.length + 1 := by
  unfold asListB
  split
  · rename_i hc
    cases e : listF h (rank v + 1) v [] with
    | none => simp
    | some l =>
      have := listF_length h _ _ _ _ e
      have := rank_le hc.1 hc.2
      simp at *
      omega
  · simp
theorem implAsListF (h : List KCell) (v : KValue) (hl : (h.length : Int) ≤ 1048576) (hh : heapB h = true) (hv : valB h v = true) : A 25 [.leaf (KCell.sl false h), .agg (KValue.row false v)] = some ([.leaf (KValue.sl true ((listF h (rank v + 1) v []).getD [])), .leaf (.bool (listF h (rank v + 1) v []).isSome)], [.gone, .gone]) := by
  have hr := rank_le hh hv
  refine run_impl_asList ?_
  simp (maxSteps := 1000000) (disch := omega) [if_pos, if_neg, wrap_i64, wrap_u8, impl_asList.b]
  generalize hR : listF h (rank v + 1) v [] = R
  refine at_while (σ := KValue × List KValue) (fun e s => (e.put 3 (.v (.box (KValue.row false s.1)))).put 6 (.v (.leaf (KValue.sl true s.2)))) impl_asList.l0.eq_1 (fun s => rank s.1) (fun s => valB h s.1 = true ∧ s.2.length + rank s.1 ≤ h.length ∧ listF h (rank s.1 + 1) s.1 s.2 = R) (v, []) (by simp) ⟨hv, by simp; omega, hR⟩ ?_
  rintro ⟨u, out⟩ ⟨h1, h2, h3⟩ ih
  simp only at h1 h2 h3 ih ⊢
  by_cases hk : u.kind = 5
  · obtain ⟨c, a, b, p⟩ := pair_of hh h1 hk
    have e0 := p.lo
    have e1 := p.get
    have e2 := p.vals
    have e3 : u.n.toNat < h.length := by have := p.hi; omega
    have e4 := p.rb
    have ih := ih (b, out ++ [a]) e4 ⟨p.vb, by simp; omega, by
      rw [← h3]
      have e5 : listF h (rank u + 1) u out = listF h (rank u) b (out ++ [a]) := by
        rw [listF, if_pos hk, p.parts]
      rw [e5]
      have mono : ∀ (d d' : Nat) (w : KValue) (o : List KValue), valB h w = true → rank w < d → rank w < d' → listF h d w o = listF h d' w o := by
        intro d
        induction d with
        | zero => intro d' w o _ hd; omega
        | succ d ihd =>
          intro d' w o hw hd hd'
          obtain ⟨d', rfl⟩ : ∃ k, d' = k + 1 := ⟨d' - 1, by omega⟩
          simp only [listF]
          by_cases hkw : w.kind = 5
          · obtain ⟨c', a', b', p'⟩ := pair_of hh hw hkw
            rw [if_pos hkw, if_pos hkw, p'.parts]
            have := p'.rb
            exact ihd d' b' _ p'.vb (by omega) (by omega)
          · rw [if_neg hkw, if_neg hkw]
      exact mono _ _ _ _ p.vb (by simp) e4⟩
    simp (maxSteps := 1000000) (disch := omega) [if_pos, if_neg, wrap_i64, wrap_u8, hk, e0, e1, at_get e1, e2, e3]
    refine run_env ih ?_
    simp
  · have e5 : listF h (rank u + 1) u out = if u.kind = 3 then some out else none := by rw [listF, if_neg hk]
    rw [e5] at h3
    by_cases k3 : u.kind = 3
    · rw [if_pos k3] at h3
      subst h3
      simp (maxSteps := 1000000) (disch := omega) [if_pos, if_neg, wrap_i64, wrap_u8, hk, k3]
    · rw [if_neg k3] at h3
      subst h3
      simp (maxSteps := 1000000) (disch := omega) [if_pos, if_neg, wrap_i64, wrap_u8, hk, k3]
theorem specListF (h : List KCell) (v : KValue) (hl : (h.length : Int) ≤ 1048576) (hh : heapB h = true) (hv : valB h v = true) : A 21 [.leaf (KCell.sl false h), .agg (KValue.row false v)] = some ([.leaf (KValue.sl true ((listF h (rank v + 1) v []).getD [])), .leaf (.bool (listF h (rank v + 1) v []).isSome)], [.gone, .gone]) := by
  have hr := rank_le hh hv
  refine run_spec_l14List ?_
  simp (maxSteps := 1000000) (disch := omega) [if_pos, if_neg, wrap_i64, wrap_u8, spec_l14List.b]
  generalize hR : listF h (rank v + 1) v [] = R
  refine at_while (σ := KValue × List KValue) (fun e s => (e.put 3 (.v (.box (KValue.row false s.1)))).put 6 (.v (.leaf (KValue.sl true s.2)))) spec_l14List.l0.eq_1 (fun s => rank s.1) (fun s => valB h s.1 = true ∧ s.2.length + rank s.1 ≤ h.length ∧ listF h (rank s.1 + 1) s.1 s.2 = R) (v, []) (by simp) ⟨hv, by simp; omega, hR⟩ ?_
  rintro ⟨u, out⟩ ⟨h1, h2, h3⟩ ih
  simp only at h1 h2 h3 ih ⊢
  by_cases hk : u.kind = 5
  · obtain ⟨c, a, b, p⟩ := pair_of hh h1 hk
    have e0 := p.lo
    have e1 := p.get
    have e2 := p.vals
    have e3 : u.n.toNat < h.length := by have := p.hi; omega
    have e4 := p.rb
    have ih := ih (b, out ++ [a]) e4 ⟨p.vb, by simp; omega, by
      rw [← h3]
      have e5 : listF h (rank u + 1) u out = listF h (rank u) b (out ++ [a]) := by
        rw [listF, if_pos hk, p.parts]
      rw [e5]
      have mono : ∀ (d d' : Nat) (w : KValue) (o : List KValue), valB h w = true → rank w < d → rank w < d' → listF h d w o = listF h d' w o := by
        intro d
        induction d with
        | zero => intro d' w o _ hd; omega
        | succ d ihd =>
          intro d' w o hw hd hd'
          obtain ⟨d', rfl⟩ : ∃ k, d' = k + 1 := ⟨d' - 1, by omega⟩
          simp only [listF]
          by_cases hkw : w.kind = 5
          · obtain ⟨c', a', b', p'⟩ := pair_of hh hw hkw
            rw [if_pos hkw, if_pos hkw, p'.parts]
            have := p'.rb
            exact ihd d' b' _ p'.vb (by omega) (by omega)
          · rw [if_neg hkw, if_neg hkw]
      exact mono _ _ _ _ p.vb (by simp) e4⟩
    simp (maxSteps := 1000000) (disch := omega) [if_pos, if_neg, wrap_i64, wrap_u8, hk, e0, e1, at_get e1, e2, e3]
    refine run_env ih ?_
    simp
  · have e5 : listF h (rank u + 1) u out = if u.kind = 3 then some out else none := by rw [listF, if_neg hk]
    rw [e5] at h3
    by_cases k3 : u.kind = 3
    · rw [if_pos k3] at h3
      subst h3
      simp (maxSteps := 1000000) (disch := omega) [if_pos, if_neg, wrap_i64, wrap_u8, hk, k3]
    · rw [if_neg k3] at h3
      subst h3
      simp (maxSteps := 1000000) (disch := omega) [if_pos, if_neg, wrap_i64, wrap_u8, hk, k3]
theorem implAsList (h : List KCell) (v : KValue) (hw : (h.length : Int) + KCell.us h ≤ 1048576) (hs : (v.s.size : Int) ≤ 1048576) : A 10 [.leaf (KCell.sl false h), .agg (KValue.row false v)] = some ([.leaf (KValue.sl true ((asListB h v).getD [])), .leaf (.bool (asListB h v).isSome)], [.gone, .gone]) := by
  have h1 := implHeapOk h hw
  have h2 := implValueOk h v (by omega) (by omega)
  unfold asListB
  refine run_impl_AsList ?_
  cases p1 : heapB h <;> rw [p1] at h1
  · simp (maxSteps := 1000000) (disch := omega) [if_pos, if_neg, wrap_i64, wrap_u8, impl_AsList.b, h1]
  · cases p2 : valB h v <;> rw [p2] at h2
    · simp (maxSteps := 1000000) (disch := omega) [if_pos, if_neg, wrap_i64, wrap_u8, impl_AsList.b, h1, h2]
    · have h3 := implAsListF h v (by omega) p1 p2
      simp (maxSteps := 1000000) (disch := omega) [if_pos, if_neg, wrap_i64, wrap_u8, impl_AsList.b, h1, h2, h3]
theorem specAsList (h : List KCell) (v : KValue) (hw : (h.length : Int) + KCell.us h ≤ 1048576) (hs : (v.s.size : Int) ≤ 1048576) : A 7 [.leaf (KCell.sl false h), .agg (KValue.row false v)] = some ([.leaf (KValue.sl true ((asListB h v).getD [])), .leaf (.bool (asListB h v).isSome)], [.gone, .gone]) := by
  have h1 := specHeapOk h hw
  have h2 := specValueOk h v (by omega) (by omega)
  unfold asListB
  refine run_spec_AsList ?_
  cases p1 : heapB h <;> rw [p1] at h1
  · simp (maxSteps := 1000000) (disch := omega) [if_pos, if_neg, wrap_i64, wrap_u8, spec_AsList.b, h1]
  · cases p2 : valB h v <;> rw [p2] at h2
    · simp (maxSteps := 1000000) (disch := omega) [if_pos, if_neg, wrap_i64, wrap_u8, spec_AsList.b, h1, h2]
    · have h3 := specListF h v (by omega) p1 p2
      simp (maxSteps := 1000000) (disch := omega) [if_pos, if_neg, wrap_i64, wrap_u8, spec_AsList.b, h1, h2, h3]
end Go.Proofs.YtjjfodoafefohaaDoor.AL
