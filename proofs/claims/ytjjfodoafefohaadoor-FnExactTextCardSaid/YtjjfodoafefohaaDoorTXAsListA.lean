/- Lists as rows of values: the program's and the reference's tell the same. -/
import Derived.Test.YtjjfodoafefohaaDoorTXPairA
namespace Go.Proofs.YtjjfodoafefohaaDoor.TX
open Go Go.VS Go.Lib
set_option maxRecDepth 10000
set_option maxHeartbeats 8000000
set_option linter.unusedSimpArgs false
set_option linter.unusedVariables false
theorem valCnts : ∀ l : List KValue, KValue.cnts l = 3 * l.length
  | [] => rfl
  | x :: l => by simp only [KValue.cnts, KValue.cnt, valCnts l, List.length_cons]; omega
/-- What a pair is made of. -/
def partsB (h : List KCell) (v : KValue) : KValue × KValue := match h[v.n.toNat]? with
  | some c => match c.vals with
    | [a, b] => (a, b)
    | _ => (v, v)
  | none => (v, v)
theorem IsPair.parts {h : List KCell} {v : KValue} {c : KCell} {a b : KValue} (p : IsPair h v c a b) : partsB h v = (a, b) := by
  unfold partsB
  rw [p.get]
  simp only [p.vals]
def listF (h : List KCell) : Nat → KValue → List KValue → Option (List KValue)
  | 0, _, _ => none
  | d + 1, v, out => if v.kind = 5 then listF h d (partsB h v).2 (out ++ [(partsB h v).1]) else if v.kind = 3 then some out else none
theorem listF_length (h : List KCell) : ∀ (d : Nat) (v : KValue) (out l : List KValue), listF h d v out = some l → l.length ≤ out.length + d
  | 0, v, out, l, e => by simp [listF] at e
  | d + 1, v, out, l, e => by
    unfold listF at e
    split at e
    · have := listF_length h d _ _ l e
      simp at this
      omega
    · split at e
      · obtain rfl := Option.some.inj e; omega
      · cases e
/-- A value as a list, if it is one. -/
noncomputable def asListB (h : List KCell) (v : KValue) : Option (List KValue) := if heapB h = true ∧ valB h v = true then listF h (rank v + 1) v [] else none
theorem rank_le {h : List KCell} {v : KValue} (hh : heapB h = true) (hv : valB h v = true) : rank v ≤ h.length := by
  by_cases hk : v.kind = 5
  · obtain ⟨c, a, b, p⟩ := pair_of hh hv hk
    have := p.hi
    have := p.lo
    unfold rank
    rw [if_pos hk]
    omega
  · unfold rank
    rw [if_neg hk]
    omega
theorem asListB_length (h : List KCell) (v : KValue) : ((asListB h v).getD []).length ≤ h.length + 1 := by
  unfold asListB
  split
  · rename_i hc
    cases e : listF h (rank v + 1) v [] with
    | none => simp
    | some l =>
      have := listF_length h _ _ _ _ e
      have := rank_le hc.1 hc.2
      simp at *
      omega
  · simp
end Go.Proofs.YtjjfodoafefohaaDoor.TX
