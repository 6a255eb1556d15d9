/- Numbers: ranges, Dec of the reference, ReadDec of both. -/
import Derived.Test.YtjcjodcpiickaaaDoorEngM7
import Derived.Test.YtjcjodcpiickaaaDoorSHTab
namespace Go.Proofs.YtjcjodcpiickaaaDoor.SH
open Go Go.VS Go.Lib
set_option maxRecDepth 10000
set_option linter.unusedSimpArgs false
set_option linter.unusedVariables false
def within (lo hi n : Int) : Bool := decide (lo ≤ n ∧ n ≤ hi)
theorem and_of (a b : Prop) [Decidable a] [Decidable b] : (decide a && decide b) = decide (a ∧ b) := by simp
theorem inRange (n lo hi : Int) : A 37 [.leaf (.int .i64 n), .leaf (.int .i64 lo), .leaf (.int .i64 hi)] = some ([.leaf (.bool (decide (lo ≤ n ∧ n ≤ hi)))], [.gone, .gone, .gone]) := by
 refine run_impl_inRange ?_
 by_cases h : lo ≤ n
 ·simp [impl_inRange.b, h]
 ·simp [impl_inRange.b, h]
theorem inRange' (n lo hi : Int) : A 37 [.leaf (.int .i64 n), .leaf (.int .i64 lo), .leaf (.int .i64 hi)] = some ([.leaf (.bool (within lo hi n))], [.gone, .gone, .gone]) := inRange n lo hi
theorem dec_pos (ks : List Fr) (Q : VX → Env → Prop) : ∀ (d c : Nat) (l : List UInt8), c < 10 ^ d → c < 9223372036854775808 → l.length + d ≤ 100 →
  Run G A (.exit 0) [(0, .v (.leaf (.int .i64 0))), (3, .v (.leaf (.str (str (dd c l))))), (4, .v (.leaf (.bool false))), (11, .v (.leaf (.bool false)))] ks Q →
  Run G A (.loop spec_Dec.l0) [(0, .v (.leaf (.int .i64 c))), (3, .v (.leaf (.str (str l)))), (4, .v (.leaf (.bool false)))] ks Q := by
 intro d
 induction d with
 | zero =>
  intro c l h h1 hl hq
  obtain rfl : c = 0 := by simpa using h
  refine run_loop_at spec_Dec.l0.eq_1 ?_
  simpa [dd] using hq
 | succ d ih =>
  intro c l h h1 hl hq
  by_cases h0 : c = 0
  ·subst h0
   refine run_loop_at spec_Dec.l0.eq_1 ?_
   simpa [dd] using hq
  ·have ih := ih (c / 10) (UInt8.ofNat (48 + c % 10) :: l) (by rw [Nat.pow_succ] at h; omega) (by omega) (by simp; omega)
   rw [← dd_step c l h0] at ih
   have h2 : (c : Int).tmod 10 = ((c % 10 : Nat) : Int) := by rw [Int.tmod_eq_emod_of_nonneg (by omega)]; rfl
   have h3 : (c : Int).tdiv 10 = ((c / 10 : Nat) : Int) := by rw [Int.tdiv_eq_ediv_of_nonneg (by omega)]; rfl
   have h4 : (48 + ((c % 10 : Nat) : Int)).toNat = 48 + c % 10 := by omega
   have h5 : (⟨#[UInt8.ofNat (48 + c % 10)]⟩ : ByteArray) ++ str l = str (UInt8.ofNat (48 + c % 10) :: l) := str_append [_] l
   have h6 : ¬ ((c % 10 : Nat) : Int) < 0 := by omega
   have h7 : (str l).size = l.length := str_size l
   refine run_loop_at spec_Dec.l0.eq_1 ?_
   simp (maxSteps := 1000000) (disch := omega) [ip, wr, h2, h3, h4, h6, h7, h0]
   exact ih hq
theorem dec_neg (ks : List Fr) (Q : VX → Env → Prop) : ∀ (d c : Nat) (l : List UInt8), c < 10 ^ d → c ≤ 9223372036854775808 → l.length + d ≤ 100 →
  Run G A (.exit 0) [(0, .v (.leaf (.int .i64 0))), (3, .v (.leaf (.str (str (dd c l))))), (4, .v (.leaf (.bool true))), (11, .v (.leaf (.bool false)))] ks Q →
  Run G A (.loop spec_Dec.l0) [(0, .v (.leaf (.int .i64 (-(c : Int))))), (3, .v (.leaf (.str (str l)))), (4, .v (.leaf (.bool true)))] ks Q := by
 intro d
 induction d with
 | zero =>
  intro c l h h1 hl hq
  obtain rfl : c = 0 := by simpa using h
  refine run_loop_at spec_Dec.l0.eq_1 ?_
  simpa [dd] using hq
 | succ d ih =>
  intro c l h h1 hl hq
  by_cases h0 : c = 0
  ·subst h0
   refine run_loop_at spec_Dec.l0.eq_1 ?_
   simpa [dd] using hq
  ·have ih := ih (c / 10) (UInt8.ofNat (48 + c % 10) :: l) (by rw [Nat.pow_succ] at h; omega) (by omega) (by simp; omega)
   rw [← dd_step c l h0] at ih
   have h2 : (-(c : Int)).tmod 10 = -((c % 10 : Nat) : Int) := by rw [Int.neg_tmod, Int.tmod_eq_emod_of_nonneg (by omega)]; rfl
   have h3 : (-(c : Int)).tdiv 10 = -((c / 10 : Nat) : Int) := by rw [Int.neg_tdiv, Int.tdiv_eq_ediv_of_nonneg (by omega)]; rfl
   have h7 : (str l).size = l.length := str_size l
   refine run_loop_at spec_Dec.l0.eq_1 ?_
   by_cases hz : c % 10 = 0
   ·have h8 : ((c % 10 : Nat) : Int) = 0 := by omega
    rw [h8] at h2
    rw [hz] at ih
    have hc : (c : Int) % 10 = 0 := by omega
    simp (maxSteps := 1000000) (disch := omega) [ip, wr, h2, h3, h7, h0]
    exact ih hq
   ·have h4 : (48 + ((c % 10 : Nat) : Int)).toNat = 48 + c % 10 := by omega
    have h6 : -((c % 10 : Nat) : Int) < 0 := by omega
    generalize hm : c % 10 = m at *
    simp (maxSteps := 1000000) (disch := omega) [ip, wr, h2, h3, h7, h0, h4, h6]
    have e8 : UInt8.ofNat (48 + m) = 48 + UInt8.ofNat m := by simp
    have h5 : str (UInt8.ofNat (48 + m) :: l) = ⟨#[48 + UInt8.ofNat m]⟩ ++ str l := by rw [← e8]; exact (str_append [_] l).symm
    rw [h5] at ih
    exact ih hq
theorem dec (n : Int) (h0 : -9223372036854775808 ≤ n) (h1 : n ≤ 9223372036854775807) : A 35 [.leaf (.int .i64 n)] = some ([.leaf (.str (str (itoa n)))], [.gone]) := by
 refine run_spec_Dec ?_
 by_cases hz : n = 0
 ·subst hz
  have e : str (itoa 0) = ⟨#[48]⟩ := by
   have : decDigits 0 = [48] := by rw [decDigits_rec]; rfl
   simp [itoa, str, this]
  simp [spec_Dec.b, e]
 ·by_cases hn : n < 0
  ·obtain ⟨c, rfl⟩ : ∃ c : Nat, n = -(c : Int) := ⟨n.natAbs, by omega⟩
   have e : str (itoa (-(c : Int))) = ⟨#[45]⟩ ++ str (dd c []) := by
    unfold itoa dd
    rw [if_pos hn, if_neg (by omega), List.append_nil, show (-(c : Int)).natAbs = c from by omega]
    exact (str_append [45] _).symm
   have hl : (str (dd c [])).size ≤ 100 := by
    rw [str_size]
    unfold dd
    rw [if_neg (by omega), List.append_nil]
    have := (decDigits_len 19 c).mpr (by omega)
    omega
   have hc0 : 0 < c := by omega
   simp (maxSteps := 1000000) (disch := omega) [ip, wr, spec_Dec.b, hz, hn, hc0]
   refine dec_neg _ _ 20 c [] (by omega) (by omega) (by simp) ?_
   simp (maxSteps := 1000000) (disch := omega) [ip, wr, e]
  ·obtain ⟨c, rfl⟩ : ∃ c : Nat, n = (c : Int) := ⟨n.toNat, by omega⟩
   have e : str (itoa (c : Int)) = str (dd c []) := by
    unfold itoa dd
    rw [if_neg hn, if_neg (by omega), List.append_nil]
    rfl
   simp (maxSteps := 1000000) (disch := omega) [ip, wr, spec_Dec.b, hz, hn]
   refine dec_pos _ _ 20 c [] (by omega) (by omega) (by simp) ?_
   simp (maxSteps := 1000000) (disch := omega) [ip, wr, e]
end Go.Proofs.YtjcjodcpiickaaaDoor.SH
