/- Fixed of the program and of the reference answer alike for every number and width. No condition. -/
import Derived.Test.YtggjjhbdpionpaaPFnExactFixedx1
import Derived.Test.YtggjjhbdpionpaaAux
namespace Go.Proofs.Ytggjjhbdpionpaa.Pure
open Go.RowKit Go.Proofs.Ytggjjhbdpionpaa.Aux Go.Proofs.Ytggjjhbdpionpaa.PFnExactFixed Go.Proofs.YtggjjhbdpionpaaW.PrintWords Go.Proofs.YtggjjhbdpionpaaW.PrintLast Go.Proofs.YtggjjhbdpionpaaW.PrintMore

/-- The last w bytes of a number, the highest first. -/
def dg (n : Int) : Nat → List Int
  | 0 => []
  | w + 1 => (n / 256 ^ w) % 256 :: dg n w

theorem dg_length (n : Int) (w : Nat) : (dg n w).length = w := by
  induction w with
  | zero => rfl
  | succ w ih => simp [dg, ih]

theorem str_append (a b : List Int) : strOfNums a ++ strOfNums b = strOfNums (a ++ b) := by
  apply ByteArray.ext
  simp [strOfNums]

theorem div_step (n : Int) (i : Nat) : n / 256 ^ i / 256 = n / 256 ^ (i + 1) := by
  rw [Int.ediv_ediv_of_nonneg (Int.pow_nonneg (by decide)), Int.pow_succ]

theorem spec_fixed_loop (n : Int) (hn : 0 ≤ n) (hn2 : n < 9223372036854775808) (w : Nat) (hw : w ≤ 7) (d : Nat) : ∀ i : Nat, i + d = w →
    Ev (fun k => spec_Fixed.l0 k (n / 256 ^ i) w (strOfNums (dg n i)) i) (if n / 256 ^ w > 0 then (⟨#[]⟩ : ByteArray) else strOfNums (dg n w)) := by
  induction d with
  | zero =>
    intro i hi
    obtain rfl : i = w := by omega
    by_cases h : n / 256 ^ i > 0
    · rw [if_pos h]
      refine Ev.step (fun k => ?_) (Ev.now _)
      simp only [spec_Fixed.l0]; rw [if_neg (by omega), if_pos h]
    · rw [if_neg h]
      refine Ev.step (fun k => ?_) (Ev.now _)
      simp only [spec_Fixed.l0]; rw [if_neg (by omega), if_neg h]
  | succ d ih =>
    intro i hi
    have h0 : 0 ≤ n / 256 ^ i := Int.ediv_nonneg hn (Int.pow_nonneg (by decide))
    have h1 : n / 256 ^ i ≤ n := Int.ediv_le_self _ hn
    refine Ev.step (fun k => ?_) (ih (i + 1) (by omega))
    simp only [spec_Fixed.l0, Option.bind_some]
    rw [if_pos (by omega), if_pos (by rw [strOfNums_size, strOfNums_size, dg_length]; simp; omega), tmod_nn h0, tdiv_nn h0, str_append, w64 (by omega) (by omega), w64 (by omega) (by omega), div_step n i]
    have e : [n / 256 ^ i % 256 % 256] ++ dg n i = dg n (i + 1) := by simp [dg]
    rw [e]
    rfl

theorem pow2_256 (w : Nat) : (2 : Int) ^ (8 * w) = 256 ^ w := by rw [Int.pow_mul]; rfl

theorem impl_fixed_loop (n : Int) (w : Nat) : ∀ (l : List Int), w ≤ 7 → l.length + w ≤ 7 → Ev (fun k => impl_Fixed.l0 k n l ((w : Int) - 1)) (strOfNums (l ++ dg n w)) := by
  induction w with
  | zero =>
    intro l hw hl
    refine Ev.step (fun k => ?_) (Ev.now _)
    simp only [impl_Fixed.l0]; rw [if_neg (by omega), dg, List.append_nil]
  | succ w ih =>
    intro l hw hl
    have h := ih (l ++ [(n / 256 ^ w) % 256]) (by omega) (by rw [List.length_append, List.length_singleton]; omega)
    rw [List.append_assoc] at h
    refine Ev.step (fun k => ?_) h
    simp only [impl_Fixed.l0]
    have e : IntKind.u64.wrap (wrap64 (8 * ((w + 1 : Nat) - 1 : Int))) = ((8 * w : Nat) : Int) := by rw [w64 (by omega) (by omega), ku64 (by omega) (by omega)]; omega
    have e2 : shr .i64 n ((8 * w : Nat) : Int) = n / 256 ^ w := by
      unfold shr
      rw [Int.toNat_natCast, Nat.min_eq_left (by simp [IntKind.bits]; omega), pow2_256]
    rw [e, e2, if_pos (by omega), if_pos (by omega), if_pos (by omega), w64 (by omega) (by omega), show (((w + 1 : Nat) : Int) - 1 - 1) = (w : Int) - 1 from by omega]

theorem pow256_le {w : Nat} (h : w ≤ 7) : (256 : Int) ^ w ≤ 72057594037927936 := by
  obtain rfl | rfl | rfl | rfl | rfl | rfl | rfl | rfl : w = 0 ∨ w = 1 ∨ w = 2 ∨ w = 3 ∨ w = 4 ∨ w = 5 ∨ w = 6 ∨ w = 7 := by omega
  all_goals decide

theorem fixed_same (n a1 : Int) (hn2 : n < 9223372036854775808) : ∃ r, Ev (fun k => spec_Fixed.f k n a1) r ∧ Ev (fun k => impl_Fixed.f k n a1) r := by
  unfold spec_Fixed.f impl_Fixed.f spec_l1In.f impl_inRange.f
  by_cases h : a1 ≥ 1 ∧ a1 ≤ 7
  · obtain ⟨w, rfl⟩ := Int.eq_ofNat_of_zero_le (show 0 ≤ a1 by omega)
    simp only [if_pos h.1, Option.bind_some, decide_eq_true h.2, if_true]
    by_cases hn : n < 0
    · simp only [if_pos hn, decide_eq_true hn]
      exact ⟨⟨#[]⟩, Ev.step (fun k => by simp only [spec_Fixed.j0, if_true]) (Ev.now _), Ev.step (fun k => by simp only [impl_Fixed.j0, if_true]) (Ev.now _)⟩
    · have e : IntKind.u64.wrap (wrap64 (8 * (w : Int))) = ((8 * w : Nat) : Int) := by rw [w64 (by omega) (by omega), ku64 (by omega) (by omega)]; omega
      have hp := pow256_le (w := w) (by omega)
      have hpp : 0 < (256 : Int) ^ w := Int.pow_pos (by decide)
      have e2 : shl .i64 1 ((8 * w : Nat) : Int) = 256 ^ w := by
        unfold shl
        rw [Int.toNat_natCast, Nat.min_eq_left (by simp [IntKind.bits]; omega), pow2_256, k64 (by omega) (by omega), Int.one_mul]
      simp only [if_neg hn, decide_eq_false hn, e, e2]
      simp only [if_pos (show (0 : Int) ≤ ((8 * w : Nat) : Int) by omega)]
      have hs := spec_fixed_loop n (by omega) hn2 w (by omega) w 0 (by omega)
      rw [Int.pow_zero, Int.ediv_one] at hs
      by_cases hb : n ≥ 256 ^ w
      · rw [if_pos (by have := Int.le_ediv_of_mul_le hpp (show 1 * (256 : Int) ^ w ≤ n by omega); omega)] at hs
        refine ⟨_, Ev.step (fun k => by simp only [spec_Fixed.j0]; rfl) hs, ?_⟩
        simp only [decide_eq_true hb]
        exact Ev.step (fun k => by simp only [impl_Fixed.j0, if_true]) (Ev.now _)
      · rw [if_neg (by rw [Int.ediv_eq_zero_of_lt (by omega) (by omega)]; omega)] at hs
        refine ⟨_, Ev.step (fun k => by simp only [spec_Fixed.j0]; rfl) hs, ?_⟩
        simp only [decide_eq_false hb]
        have hi := impl_fixed_loop n w [] (by omega) (by simp; omega)
        rw [List.nil_append] at hi
        refine Ev.step (fun k => ?_) hi
        simp only [impl_Fixed.j0]
        rw [w64 (by omega) (by omega)]
        rfl
  · have e : (if a1 ≥ 1 then some (decide (a1 ≤ 7)) else some false) = some false := by
      by_cases h1 : a1 ≥ 1
      · rw [if_pos h1, decide_eq_false (fun h2 => h ⟨h1, h2⟩)]
      · rw [if_neg h1]
    rw [e]
    show ∃ r, Ev (fun k => spec_Fixed.j0 k n a1 true) r ∧ Ev (fun k => impl_Fixed.j0 k n a1 true) r
    exact ⟨⟨#[]⟩, Ev.step (fun k => by simp only [spec_Fixed.j0, if_true]) (Ev.now _), Ev.step (fun k => by simp only [impl_Fixed.j0, if_true]) (Ev.now _)⟩

theorem FnExactFixed : laws_FnExactFixed.Pure := by
  intro n w hn _
  obtain ⟨r, h1, h2⟩ := fixed_same n w (wf64 hn).2
  refine Ev.rounds (Ev.bind h1 (Ev.bind h2 ⟨0, fun k _ => ?_⟩))
  simp

end Go.Proofs.Ytggjjhbdpionpaa.Pure
