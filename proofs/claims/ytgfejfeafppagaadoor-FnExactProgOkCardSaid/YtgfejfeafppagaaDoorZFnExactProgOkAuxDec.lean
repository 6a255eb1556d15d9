/- Plain lemmas on decimal numerals: no program in sight. -/
import Derived.Test.YtgfejfeafppagaaDoorZFnExactProgOkAux
import Derived.Lib.ItoaNum
import Derived.Lib.AtoiTie
import Derived.Lib.AtoiAllCases
namespace Go.Proofs.YtgfejfeafppagaaDoor.Aux
open Go.RowKit Go.Lib

def isDig (b : UInt8) : Prop := 48 ≤ b.toNat ∧ b.toNat ≤ 57
instance (b : UInt8) : Decidable (isDig b) := by unfold isDig; infer_instance

theorem decDigits_rec (u : Nat) : decDigits u = (if u < 10 then [] else decDigits (u / 10)) ++ [UInt8.ofNat (48 + u % 10)] := by
  rw [decDigits]
  by_cases h : u < 10
  · rw [dif_pos h, if_pos h, Nat.mod_eq_of_lt h]; rfl
  · rw [dif_neg h, if_neg h]

theorem digit_toNat (d : Nat) (h : d < 10) : (UInt8.ofNat (48 + d)).toNat = 48 + d := by
  simp only [UInt8.toNat_ofNat']
  omega

theorem decDigits_dig (u : Nat) : ∀ b ∈ decDigits u, isDig b := by
  induction u using Nat.strongRecOn with
  | _ u ih =>
    intro b hb
    rw [decDigits_rec, List.mem_append, List.mem_singleton] at hb
    rcases hb with hb | rfl
    · by_cases h : u < 10
      · rw [if_pos h] at hb; cases hb
      · rw [if_neg h] at hb; exact ih (u / 10) (by omega) b hb
    · unfold isDig
      rw [digit_toNat _ (by omega)]
      omega

theorem decDigits_ne (u : Nat) : decDigits u ≠ [] := by
  rw [decDigits_rec]; simp

theorem decDigits_len (k : Nat) : ∀ u, (decDigits u).length ≤ k + 1 ↔ u < 10 ^ (k + 1) := by
  induction k with
  | zero =>
    intro u
    rw [decDigits_rec]
    by_cases h : u < 10
    · rw [if_pos h]; simp; omega
    · rw [if_neg h]
      have := decDigits_ne (u / 10)
      have : 0 < (decDigits (u / 10)).length := List.length_pos_iff.mpr this
      simp
      constructor
      · intro h2; exact absurd h2 (decDigits_ne _)
      · intro h2; omega
  | succ k ih =>
    intro u
    rw [decDigits_rec]
    by_cases h : u < 10
    · rw [if_pos h]
      have : u < 10 ^ (k + 1 + 1) := Nat.lt_of_lt_of_le h (by rw [Nat.pow_succ]; exact Nat.le_mul_of_pos_left _ (Nat.pow_pos (by decide)))
      simp [this]
    · rw [if_neg h, List.length_append, List.length_singleton]
      have := ih (u / 10)
      rw [Nat.pow_succ]
      omega

theorem digitVal_of (d : Nat) (h : d < 10) : digitVal (UInt8.ofNat (48 + d)) = some d := by
  unfold digitVal
  rw [digit_toNat d h, if_pos (by omega)]
  congr 1
  omega

theorem decFrom_append (l : List UInt8) : ∀ (acc n d : Nat), d < 10 → decFrom acc l = some n → decFrom acc (l ++ [UInt8.ofNat (48 + d)]) = some (n * 10 + d) := by
  induction l with
  | nil =>
    intro acc n d hd h
    simp only [decFrom, Option.some.injEq] at h
    subst h
    simp only [List.nil_append, decFrom, digitVal_of d hd]
  | cons b l ih =>
    intro acc n d hd h
    simp only [List.cons_append, decFrom] at h ⊢
    cases hv : digitVal b with
    | none => rw [hv] at h; cases h
    | some x => rw [hv] at h; exact ih _ n d hd h

theorem decFrom_digits (u : Nat) : decFrom 0 (decDigits u) = some u := by
  induction u using Nat.strongRecOn with
  | _ u ih =>
    rw [decDigits_rec]
    by_cases h : u < 10
    · rw [if_pos h, decFrom_append [] 0 0 (u % 10) (by omega) rfl]
      congr 1
      omega
    · rw [if_neg h, decFrom_append _ 0 (u / 10) (u % 10) (by omega) (ih (u / 10) (by omega))]
      congr 1
      omega

theorem decNat_digits (u : Nat) : decNat (decDigits u) = some u := by
  unfold decNat
  have : (decDigits u).isEmpty = false := by
    cases h : decDigits u with
    | nil => exact absurd h (decDigits_ne u)
    | cons => rfl
  rw [this, decFrom_digits]
  rfl

theorem head_dig (u : Nat) : ∃ b t, decDigits u = b :: t ∧ isDig b := by
  cases h : decDigits u with
  | nil => exact absurd h (decDigits_ne u)
  | cons b t => exact ⟨b, t, rfl, decDigits_dig u b (by rw [h]; simp)⟩

theorem atoi_itoa (n : Int) : atoi (itoa n) = some n := by
  unfold itoa
  by_cases h : n < 0
  · rw [if_pos h]
    simp only [atoi, beq_self_eq_true, if_true, decNat_digits, Option.map_some]
    congr 1
    omega
  · rw [if_neg h]
    obtain ⟨b, t, hb, hd⟩ := head_dig n.toNat
    have h1 : (b == 45) = false := by
      rw [beq_eq_false_iff_ne]; rintro rfl; exact absurd hd (by decide)
    have h2 : (b == 43) = false := by
      rw [beq_eq_false_iff_ne]; rintro rfl; exact absurd hd (by decide)
    rw [hb]
    simp only [atoi, h1, h2]
    rw [← hb, decNat_digits]
    simp
    omega

theorem itoa_inj {a b : Int} (h : itoa a = itoa b) : a = b := by
  have h1 := atoi_itoa a
  rw [h, atoi_itoa] at h1
  injection h1 with h1
  exact h1.symm

/-- What ReadDec answers at a text. -/
def IsRD (l : List UInt8) (r : Int × Bool) : Prop :=
  (∃ n : Int, -1000000000 < n ∧ n < 1000000000 ∧ itoa n = l ∧ r = (n, true)) ∨ ((∀ n : Int, -1000000000 < n → n < 1000000000 → itoa n ≠ l) ∧ r = (0, false))

theorem IsRD.same {l : List UInt8} {r r' : Int × Bool} (h : IsRD l r) (h' : IsRD l r') : r = r' := by
  rcases h with ⟨n, h0, h1, h2, rfl⟩ | ⟨h, rfl⟩
  · rcases h' with ⟨m, k0, k1, k2, rfl⟩ | ⟨h', rfl⟩
    · rw [itoa_inj (h2.trans k2.symm)]
    · exact absurd h2 (h' n h0 h1)
  · rcases h' with ⟨m, k0, k1, k2, rfl⟩ | ⟨h', rfl⟩
    · exact absurd k2 (h m k0 k1)
    · rfl

/-- The digits of a number within nine, and their sum. -/
theorem itoa_len (n : Int) (h0 : -1000000000 < n) (h1 : n < 1000000000) : (itoa n).length ≤ 10 ∧ (itoa n ≠ []) := by
  have key : ∀ u : Nat, u < 1000000000 → (decDigits u).length ≤ 9 := fun u hu => (decDigits_len 8 u).mpr (by simpa using hu)
  unfold itoa
  by_cases h : n < 0
  · rw [if_pos h]
    have := key n.natAbs (by omega)
    exact ⟨by simp; omega, by simp⟩
  · rw [if_neg h]
    have := key n.toNat (by omega)
    exact ⟨by omega, decDigits_ne _⟩

/-- One step of the reference's loop: a digit counts, another byte doesn't. -/
def rdStep (x : Nat × Nat) (b : UInt8) : Nat × Nat := if 48 ≤ b.toNat ∧ b.toNat ≤ 57 then (x.1 * 10 + (b.toNat - 48), x.2 + 1) else x

theorem rd_append (l : List UInt8) (x : Nat × Nat) (b : UInt8) : (l ++ [b]).foldl rdStep x = rdStep (l.foldl rdStep x) b := by simp

theorem rd_digits (u : Nat) : (decDigits u).foldl rdStep (0, 0) = (u, (decDigits u).length) := by
  induction u using Nat.strongRecOn with
  | _ u ih =>
    rw [decDigits_rec, rd_append]
    have e : ∀ x : Nat × Nat, rdStep x (UInt8.ofNat (48 + u % 10)) = (x.1 * 10 + u % 10, x.2 + 1) := by
      intro x
      unfold rdStep
      rw [digit_toNat _ (by omega), if_pos (by omega)]
      congr 2
      omega
    rw [e]
    by_cases h : u < 10
    · rw [if_pos h]
      simp
      omega
    · rw [if_neg h, ih (u / 10) (by omega), List.length_append]
      simp
      omega

theorem rd_itoa (n : Int) : (itoa n).foldl rdStep (0, 0) = (n.natAbs, (decDigits n.natAbs).length) := by
  unfold itoa
  by_cases h : n < 0
  · rw [if_pos h, List.foldl_cons]
    have : rdStep (0, 0) 45 = (0, 0) := by decide
    rw [this, rd_digits]
  · rw [if_neg h, rd_digits, show n.toNat = n.natAbs from by omega]

theorem rd_lt (l : List UInt8) : ∀ x : Nat × Nat, x.1 < 10 ^ x.2 → (l.foldl rdStep x).1 < 10 ^ (l.foldl rdStep x).2 := by
  induction l with
  | nil => intro x h; exact h
  | cons b l ih =>
    intro x h
    rw [List.foldl_cons]
    refine ih _ ?_
    unfold rdStep
    by_cases hb : 48 ≤ b.toNat ∧ b.toNat ≤ 57
    · rw [if_pos hb]
      show x.1 * 10 + (b.toNat - 48) < 10 ^ (x.2 + 1)
      rw [Nat.pow_succ]
      omega
    · rw [if_neg hb]; exact h

theorem rd_count (l : List UInt8) : ∀ x : Nat × Nat, (l.foldl rdStep x).2 ≤ x.2 + l.length := by
  induction l with
  | nil => intro x; simp
  | cons b l ih =>
    intro x
    rw [List.foldl_cons, List.length_cons]
    refine Nat.le_trans (ih _) ?_
    unfold rdStep
    split
    · show x.2 + 1 + l.length ≤ _; omega
    · omega

/-- A minus ahead, as the head tells. -/
theorem itoa_head (n : Int) : (∃ t, itoa n = 45 :: t) ↔ n < 0 := by
  unfold itoa
  by_cases h : n < 0
  · rw [if_pos h]; exact ⟨fun _ => h, fun _ => ⟨_, rfl⟩⟩
  · rw [if_neg h]
    constructor
    · rintro ⟨t, ht⟩
      obtain ⟨b, t', hb, hd⟩ := head_dig n.toNat
      rw [ht] at hb
      injection hb with hb _
      rw [← hb] at hd
      exact absurd hd (by decide)
    · intro h2; exact absurd h2 h

end Go.Proofs.YtgfejfeafppagaaDoor.Aux
