/- ReadVar, round by round (printed by numc.py). -/
import Derived.Test.YticecjjfbjnaaaaDoorFNNumBy
namespace Go.Proofs.YticecjjfbjnaaaaDoor.FN
open Go Go.VS Go.Lib
set_option maxRecDepth 10000
set_option maxHeartbeats 8000000
set_option linter.unusedSimpArgs false
set_option linter.unusedVariables false
theorem rv_stop {s : ByteArray} {K : Nat} (hx : ∀ x ∈ preI s K, 128 ≤ x) (h : 7 ≤ K ∨ s.size ≤ K) : IsRV s (0, 0) := .inr ⟨rfl, fun kk h1 h2 h3 => no_can h1 (by omega) h3 hx⟩
theorem rv_end {s : ByteArray} {K : Nat} {y : UInt8} (hd : s.data[K]? = some y) (hK : K ≤ 6) (hx : ∀ x ∈ preI s K, 128 ≤ x) (hlt : y.toNat < 128) (h0 : y.toNat = 0 → K = 0) : IsRV s (val (preI s (K + 1)), ((K + 1 : Nat) : Int)) := by
 have hs : K < s.size := (Array.getElem?_eq_some_iff.1 hd).1
 refine .inl ⟨K + 1, by omega, by omega, by omega, ?_, rfl⟩
 rw [pre_snoc (ib_get hd), can0_snoc]
 refine ⟨hx, by omega, fun hne => ?_⟩
 have : K ≠ 0 := by rintro rfl; exact hne rfl
 omega
theorem rv_zero {s : ByteArray} {K : Nat} {y : UInt8} (hd : s.data[K]? = some y) (hx : ∀ x ∈ preI s K, 128 ≤ x) (hK : 0 < K) (h0 : y.toNat = 0) : IsRV s (0, 0) := by
 have hs : K < s.size := (Array.getElem?_eq_some_iff.1 hd).1
 refine .inr ⟨rfl, fun kk h1 h2 h3 hc => ?_⟩
 by_cases hk : kk ≤ K
 ·exact no_can h1 hk h3 hx hc
 ·by_cases hk2 : kk = K + 1
  ·subst hk2
   rw [pre_snoc (ib_get hd), can0_snoc] at hc
   have := hc.2.2 (by intro h; have := congrArg List.length h; rw [pre_length (by omega)] at this; simp at this; omega)
   omega
  ·obtain ⟨b, hb, e⟩ := pre_last h1 h3
   rw [e, can0_snoc] at hc
   have := hc.1 _ (pre_mem (by omega) (ib_get hd))
   omega
theorem rv7 (s : ByteArray) (ks : List Fr) (Q : VX → Env → Prop) (hr : ∀ r : Int × Int, IsRV s r → Run G A .ret [(2, .v (.leaf (.int .i64 r.1))), (3, .v (.leaf (.int .i64 r.2)))] ks Q) (hq : IsRV s (0, 0) → ∀ n i : Int, Run G A (.exit 0) [(0, .v (.leaf (.str s))), (4, .v (.leaf (.int .i64 n))), (5, .v (.leaf (.int .i64 i))), (13, .v (.leaf (.bool false)))] ks Q) (hsz : 7 ≤ s.size) (hx : ∀ x ∈ preI s 7, 128 ≤ x) : Run G A (.loop impl_ReadVar.l0) [(0, .v (.leaf (.str s))), (4, .v (.leaf (.int .i64 (val (preI s 7))))), (5, .v (.leaf (.int .i64 7)))] ks Q := by
 have hq := hq (rv_stop hx (.inl (by decide))) (val (preI s 7)) 7
 refine run_loop_at impl_ReadVar.l0.eq_1 ?_
 by_cases h : (7 : Int) < s.size
 ·simp (maxSteps := 1000000) (disch := omega) [ip, wr, h]
  exact hq
 ·simp (maxSteps := 1000000) (disch := omega) [ip, wr, h]
  exact hq
theorem rv6 (s : ByteArray) (ks : List Fr) (Q : VX → Env → Prop) (hr : ∀ r : Int × Int, IsRV s r → Run G A .ret [(2, .v (.leaf (.int .i64 r.1))), (3, .v (.leaf (.int .i64 r.2)))] ks Q) (hq : IsRV s (0, 0) → ∀ n i : Int, Run G A (.exit 0) [(0, .v (.leaf (.str s))), (4, .v (.leaf (.int .i64 n))), (5, .v (.leaf (.int .i64 i))), (13, .v (.leaf (.bool false)))] ks Q) (hsz : 6 ≤ s.size) (hx : ∀ x ∈ preI s 6, 128 ≤ x) : Run G A (.loop impl_ReadVar.l0) [(0, .v (.leaf (.str s))), (4, .v (.leaf (.int .i64 (val (preI s 6))))), (5, .v (.leaf (.int .i64 6)))] ks Q := by
 refine run_loop_at impl_ReadVar.l0.eq_1 ?_
 by_cases hlt : 6 < s.size
 ·have hd : s.data[6]? = some (s.data[6]'hlt) := Array.getElem?_eq_getElem hlt
  generalize s.data[6]'hlt = y at hd
  have hy := y.toNat_lt
  have hp := pre_snoc (ib_get hd)
  have hv : val (preI s (6 + 1)) = val (preI s 6) + 128 ^ 6 * ((y.toNat : Int) % 128) := by rw [hp, val_snoc, pre_length hsz]
  have hv0 := val_nonneg (preI s 6)
  have hv1 := val_lt (preI s 6)
  rw [pre_length hsz] at hv1
  simp only [Nat.reduceAdd] at hv
  have e1 : Go.bits .and .u8 (y.toNat : Int) 127 = (y.toNat : Int) % 128 := and8 7 (by omega) (by omega) (by omega)
  have e2 : (2 : Int) ^ Nat.min 42 IntKind.i64.bits = 4398046511104 := by decide
  have e4 : IntKind.u64.wrap 42 = 42 := by decide
  have e3 : Go.bits .or .i64 (val (preI s 6)) ((y.toNat : Int) % 128 * 4398046511104) = val (preI s 7) := by
   rw [hv, or64' 42 (by omega) (by omega) (by omega) hv0 (by omega) (by omega)]
   omega
  generalize val (preI s 6) = v0 at *
  have hlt' : (6 : Int) < s.size := by omega
  by_cases hge : 128 ≤ y.toNat
  ·have ih := rv7 s ks Q hr hq (by omega) (by
    intro x hxm
    rw [show 7 = 6 + 1 from rfl, hp] at hxm
    rcases List.mem_append.1 hxm with hxm | hxm
    ·exact hx x hxm
    ·obtain rfl := List.mem_singleton.1 hxm
     omega)
   have hge' : 128 ≤ (y.toNat : Int) := by omega
   simp (maxSteps := 1000000) (disch := omega) [ip, wr, -vb_and, -vb_or, vbA, vbO, hlt, hlt', hd, e1, e2, e3, e4, hge, hge']
   exact ih
  ·have hge' : ¬ 128 ≤ (y.toNat : Int) := by omega
   by_cases hz : y.toNat = 0
   ·have hz' : (y.toNat : Int) = 0 := by omega
    have hzu : y = 0 := by apply UInt8.toNat_inj.1; simpa using hz
    have hr := hr (0, 0) (rv_zero hd hx (by omega) hz)
    simp (maxSteps := 1000000) (disch := omega) [ip, wr, -vb_and, -vb_or, vbA, vbO, hlt, hlt', hd, e1, e2, e3, e4, hge, hge', hz, hz', hzu]
    exact hr
   ·have hz' : ¬ (y.toNat : Int) = 0 := by omega
    have hzu : ¬ y = 0 := fun h => hz (by rw [h]; rfl)
    have hr := hr (val (preI s 7), ((7 : Nat) : Int)) (rv_end hd (by omega) hx (by omega) (by omega))
    simp (maxSteps := 1000000) (disch := omega) [ip, wr, -vb_and, -vb_or, vbA, vbO, hlt, hlt', hd, e1, e2, e3, e4, hge, hge', hz, hz', hzu]
    exact hr
 ·have hq := hq (rv_stop hx (.inr (by omega))) (val (preI s 6)) 6
  have hlt' : ¬ (6 : Int) < s.size := by omega
  simp (maxSteps := 1000000) (disch := omega) [ip, wr, hlt, hlt']
  exact hq
theorem rv5 (s : ByteArray) (ks : List Fr) (Q : VX → Env → Prop) (hr : ∀ r : Int × Int, IsRV s r → Run G A .ret [(2, .v (.leaf (.int .i64 r.1))), (3, .v (.leaf (.int .i64 r.2)))] ks Q) (hq : IsRV s (0, 0) → ∀ n i : Int, Run G A (.exit 0) [(0, .v (.leaf (.str s))), (4, .v (.leaf (.int .i64 n))), (5, .v (.leaf (.int .i64 i))), (13, .v (.leaf (.bool false)))] ks Q) (hsz : 5 ≤ s.size) (hx : ∀ x ∈ preI s 5, 128 ≤ x) : Run G A (.loop impl_ReadVar.l0) [(0, .v (.leaf (.str s))), (4, .v (.leaf (.int .i64 (val (preI s 5))))), (5, .v (.leaf (.int .i64 5)))] ks Q := by
 refine run_loop_at impl_ReadVar.l0.eq_1 ?_
 by_cases hlt : 5 < s.size
 ·have hd : s.data[5]? = some (s.data[5]'hlt) := Array.getElem?_eq_getElem hlt
  generalize s.data[5]'hlt = y at hd
  have hy := y.toNat_lt
  have hp := pre_snoc (ib_get hd)
  have hv : val (preI s (5 + 1)) = val (preI s 5) + 128 ^ 5 * ((y.toNat : Int) % 128) := by rw [hp, val_snoc, pre_length hsz]
  have hv0 := val_nonneg (preI s 5)
  have hv1 := val_lt (preI s 5)
  rw [pre_length hsz] at hv1
  simp only [Nat.reduceAdd] at hv
  have e1 : Go.bits .and .u8 (y.toNat : Int) 127 = (y.toNat : Int) % 128 := and8 7 (by omega) (by omega) (by omega)
  have e2 : (2 : Int) ^ Nat.min 35 IntKind.i64.bits = 34359738368 := by decide
  have e4 : IntKind.u64.wrap 35 = 35 := by decide
  have e3 : Go.bits .or .i64 (val (preI s 5)) ((y.toNat : Int) % 128 * 34359738368) = val (preI s 6) := by
   rw [hv, or64' 35 (by omega) (by omega) (by omega) hv0 (by omega) (by omega)]
   omega
  generalize val (preI s 5) = v0 at *
  have hlt' : (5 : Int) < s.size := by omega
  by_cases hge : 128 ≤ y.toNat
  ·have ih := rv6 s ks Q hr hq (by omega) (by
    intro x hxm
    rw [show 6 = 5 + 1 from rfl, hp] at hxm
    rcases List.mem_append.1 hxm with hxm | hxm
    ·exact hx x hxm
    ·obtain rfl := List.mem_singleton.1 hxm
     omega)
   have hge' : 128 ≤ (y.toNat : Int) := by omega
   simp (maxSteps := 1000000) (disch := omega) [ip, wr, -vb_and, -vb_or, vbA, vbO, hlt, hlt', hd, e1, e2, e3, e4, hge, hge']
   exact ih
  ·have hge' : ¬ 128 ≤ (y.toNat : Int) := by omega
   by_cases hz : y.toNat = 0
   ·have hz' : (y.toNat : Int) = 0 := by omega
    have hzu : y = 0 := by apply UInt8.toNat_inj.1; simpa using hz
    have hr := hr (0, 0) (rv_zero hd hx (by omega) hz)
    simp (maxSteps := 1000000) (disch := omega) [ip, wr, -vb_and, -vb_or, vbA, vbO, hlt, hlt', hd, e1, e2, e3, e4, hge, hge', hz, hz', hzu]
    exact hr
   ·have hz' : ¬ (y.toNat : Int) = 0 := by omega
    have hzu : ¬ y = 0 := fun h => hz (by rw [h]; rfl)
    have hr := hr (val (preI s 6), ((6 : Nat) : Int)) (rv_end hd (by omega) hx (by omega) (by omega))
    simp (maxSteps := 1000000) (disch := omega) [ip, wr, -vb_and, -vb_or, vbA, vbO, hlt, hlt', hd, e1, e2, e3, e4, hge, hge', hz, hz', hzu]
    exact hr
 ·have hq := hq (rv_stop hx (.inr (by omega))) (val (preI s 5)) 5
  have hlt' : ¬ (5 : Int) < s.size := by omega
  simp (maxSteps := 1000000) (disch := omega) [ip, wr, hlt, hlt']
  exact hq
theorem rv4 (s : ByteArray) (ks : List Fr) (Q : VX → Env → Prop) (hr : ∀ r : Int × Int, IsRV s r → Run G A .ret [(2, .v (.leaf (.int .i64 r.1))), (3, .v (.leaf (.int .i64 r.2)))] ks Q) (hq : IsRV s (0, 0) → ∀ n i : Int, Run G A (.exit 0) [(0, .v (.leaf (.str s))), (4, .v (.leaf (.int .i64 n))), (5, .v (.leaf (.int .i64 i))), (13, .v (.leaf (.bool false)))] ks Q) (hsz : 4 ≤ s.size) (hx : ∀ x ∈ preI s 4, 128 ≤ x) : Run G A (.loop impl_ReadVar.l0) [(0, .v (.leaf (.str s))), (4, .v (.leaf (.int .i64 (val (preI s 4))))), (5, .v (.leaf (.int .i64 4)))] ks Q := by
 refine run_loop_at impl_ReadVar.l0.eq_1 ?_
 by_cases hlt : 4 < s.size
 ·have hd : s.data[4]? = some (s.data[4]'hlt) := Array.getElem?_eq_getElem hlt
  generalize s.data[4]'hlt = y at hd
  have hy := y.toNat_lt
  have hp := pre_snoc (ib_get hd)
  have hv : val (preI s (4 + 1)) = val (preI s 4) + 128 ^ 4 * ((y.toNat : Int) % 128) := by rw [hp, val_snoc, pre_length hsz]
  have hv0 := val_nonneg (preI s 4)
  have hv1 := val_lt (preI s 4)
  rw [pre_length hsz] at hv1
  simp only [Nat.reduceAdd] at hv
  have e1 : Go.bits .and .u8 (y.toNat : Int) 127 = (y.toNat : Int) % 128 := and8 7 (by omega) (by omega) (by omega)
  have e2 : (2 : Int) ^ Nat.min 28 IntKind.i64.bits = 268435456 := by decide
  have e4 : IntKind.u64.wrap 28 = 28 := by decide
  have e3 : Go.bits .or .i64 (val (preI s 4)) ((y.toNat : Int) % 128 * 268435456) = val (preI s 5) := by
   rw [hv, or64' 28 (by omega) (by omega) (by omega) hv0 (by omega) (by omega)]
   omega
  generalize val (preI s 4) = v0 at *
  have hlt' : (4 : Int) < s.size := by omega
  by_cases hge : 128 ≤ y.toNat
  ·have ih := rv5 s ks Q hr hq (by omega) (by
    intro x hxm
    rw [show 5 = 4 + 1 from rfl, hp] at hxm
    rcases List.mem_append.1 hxm with hxm | hxm
    ·exact hx x hxm
    ·obtain rfl := List.mem_singleton.1 hxm
     omega)
   have hge' : 128 ≤ (y.toNat : Int) := by omega
   simp (maxSteps := 1000000) (disch := omega) [ip, wr, -vb_and, -vb_or, vbA, vbO, hlt, hlt', hd, e1, e2, e3, e4, hge, hge']
   exact ih
  ·have hge' : ¬ 128 ≤ (y.toNat : Int) := by omega
   by_cases hz : y.toNat = 0
   ·have hz' : (y.toNat : Int) = 0 := by omega
    have hzu : y = 0 := by apply UInt8.toNat_inj.1; simpa using hz
    have hr := hr (0, 0) (rv_zero hd hx (by omega) hz)
    simp (maxSteps := 1000000) (disch := omega) [ip, wr, -vb_and, -vb_or, vbA, vbO, hlt, hlt', hd, e1, e2, e3, e4, hge, hge', hz, hz', hzu]
    exact hr
   ·have hz' : ¬ (y.toNat : Int) = 0 := by omega
    have hzu : ¬ y = 0 := fun h => hz (by rw [h]; rfl)
    have hr := hr (val (preI s 5), ((5 : Nat) : Int)) (rv_end hd (by omega) hx (by omega) (by omega))
    simp (maxSteps := 1000000) (disch := omega) [ip, wr, -vb_and, -vb_or, vbA, vbO, hlt, hlt', hd, e1, e2, e3, e4, hge, hge', hz, hz', hzu]
    exact hr
 ·have hq := hq (rv_stop hx (.inr (by omega))) (val (preI s 4)) 4
  have hlt' : ¬ (4 : Int) < s.size := by omega
  simp (maxSteps := 1000000) (disch := omega) [ip, wr, hlt, hlt']
  exact hq
theorem rv3 (s : ByteArray) (ks : List Fr) (Q : VX → Env → Prop) (hr : ∀ r : Int × Int, IsRV s r → Run G A .ret [(2, .v (.leaf (.int .i64 r.1))), (3, .v (.leaf (.int .i64 r.2)))] ks Q) (hq : IsRV s (0, 0) → ∀ n i : Int, Run G A (.exit 0) [(0, .v (.leaf (.str s))), (4, .v (.leaf (.int .i64 n))), (5, .v (.leaf (.int .i64 i))), (13, .v (.leaf (.bool false)))] ks Q) (hsz : 3 ≤ s.size) (hx : ∀ x ∈ preI s 3, 128 ≤ x) : Run G A (.loop impl_ReadVar.l0) [(0, .v (.leaf (.str s))), (4, .v (.leaf (.int .i64 (val (preI s 3))))), (5, .v (.leaf (.int .i64 3)))] ks Q := by
 refine run_loop_at impl_ReadVar.l0.eq_1 ?_
 by_cases hlt : 3 < s.size
 ·have hd : s.data[3]? = some (s.data[3]'hlt) := Array.getElem?_eq_getElem hlt
  generalize s.data[3]'hlt = y at hd
  have hy := y.toNat_lt
  have hp := pre_snoc (ib_get hd)
  have hv : val (preI s (3 + 1)) = val (preI s 3) + 128 ^ 3 * ((y.toNat : Int) % 128) := by rw [hp, val_snoc, pre_length hsz]
  have hv0 := val_nonneg (preI s 3)
  have hv1 := val_lt (preI s 3)
  rw [pre_length hsz] at hv1
  simp only [Nat.reduceAdd] at hv
  have e1 : Go.bits .and .u8 (y.toNat : Int) 127 = (y.toNat : Int) % 128 := and8 7 (by omega) (by omega) (by omega)
  have e2 : (2 : Int) ^ Nat.min 21 IntKind.i64.bits = 2097152 := by decide
  have e4 : IntKind.u64.wrap 21 = 21 := by decide
  have e3 : Go.bits .or .i64 (val (preI s 3)) ((y.toNat : Int) % 128 * 2097152) = val (preI s 4) := by
   rw [hv, or64' 21 (by omega) (by omega) (by omega) hv0 (by omega) (by omega)]
   omega
  generalize val (preI s 3) = v0 at *
  have hlt' : (3 : Int) < s.size := by omega
  by_cases hge : 128 ≤ y.toNat
  ·have ih := rv4 s ks Q hr hq (by omega) (by
    intro x hxm
    rw [show 4 = 3 + 1 from rfl, hp] at hxm
    rcases List.mem_append.1 hxm with hxm | hxm
    ·exact hx x hxm
    ·obtain rfl := List.mem_singleton.1 hxm
     omega)
   have hge' : 128 ≤ (y.toNat : Int) := by omega
   simp (maxSteps := 1000000) (disch := omega) [ip, wr, -vb_and, -vb_or, vbA, vbO, hlt, hlt', hd, e1, e2, e3, e4, hge, hge']
   exact ih
  ·have hge' : ¬ 128 ≤ (y.toNat : Int) := by omega
   by_cases hz : y.toNat = 0
   ·have hz' : (y.toNat : Int) = 0 := by omega
    have hzu : y = 0 := by apply UInt8.toNat_inj.1; simpa using hz
    have hr := hr (0, 0) (rv_zero hd hx (by omega) hz)
    simp (maxSteps := 1000000) (disch := omega) [ip, wr, -vb_and, -vb_or, vbA, vbO, hlt, hlt', hd, e1, e2, e3, e4, hge, hge', hz, hz', hzu]
    exact hr
   ·have hz' : ¬ (y.toNat : Int) = 0 := by omega
    have hzu : ¬ y = 0 := fun h => hz (by rw [h]; rfl)
    have hr := hr (val (preI s 4), ((4 : Nat) : Int)) (rv_end hd (by omega) hx (by omega) (by omega))
    simp (maxSteps := 1000000) (disch := omega) [ip, wr, -vb_and, -vb_or, vbA, vbO, hlt, hlt', hd, e1, e2, e3, e4, hge, hge', hz, hz', hzu]
    exact hr
 ·have hq := hq (rv_stop hx (.inr (by omega))) (val (preI s 3)) 3
  have hlt' : ¬ (3 : Int) < s.size := by omega
  simp (maxSteps := 1000000) (disch := omega) [ip, wr, hlt, hlt']
  exact hq
theorem rv2 (s : ByteArray) (ks : List Fr) (Q : VX → Env → Prop) (hr : ∀ r : Int × Int, IsRV s r → Run G A .ret [(2, .v (.leaf (.int .i64 r.1))), (3, .v (.leaf (.int .i64 r.2)))] ks Q) (hq : IsRV s (0, 0) → ∀ n i : Int, Run G A (.exit 0) [(0, .v (.leaf (.str s))), (4, .v (.leaf (.int .i64 n))), (5, .v (.leaf (.int .i64 i))), (13, .v (.leaf (.bool false)))] ks Q) (hsz : 2 ≤ s.size) (hx : ∀ x ∈ preI s 2, 128 ≤ x) : Run G A (.loop impl_ReadVar.l0) [(0, .v (.leaf (.str s))), (4, .v (.leaf (.int .i64 (val (preI s 2))))), (5, .v (.leaf (.int .i64 2)))] ks Q := by
 refine run_loop_at impl_ReadVar.l0.eq_1 ?_
 by_cases hlt : 2 < s.size
 ·have hd : s.data[2]? = some (s.data[2]'hlt) := Array.getElem?_eq_getElem hlt
  generalize s.data[2]'hlt = y at hd
  have hy := y.toNat_lt
  have hp := pre_snoc (ib_get hd)
  have hv : val (preI s (2 + 1)) = val (preI s 2) + 128 ^ 2 * ((y.toNat : Int) % 128) := by rw [hp, val_snoc, pre_length hsz]
  have hv0 := val_nonneg (preI s 2)
  have hv1 := val_lt (preI s 2)
  rw [pre_length hsz] at hv1
  simp only [Nat.reduceAdd] at hv
  have e1 : Go.bits .and .u8 (y.toNat : Int) 127 = (y.toNat : Int) % 128 := and8 7 (by omega) (by omega) (by omega)
  have e2 : (2 : Int) ^ Nat.min 14 IntKind.i64.bits = 16384 := by decide
  have e4 : IntKind.u64.wrap 14 = 14 := by decide
  have e3 : Go.bits .or .i64 (val (preI s 2)) ((y.toNat : Int) % 128 * 16384) = val (preI s 3) := by
   rw [hv, or64' 14 (by omega) (by omega) (by omega) hv0 (by omega) (by omega)]
   omega
  generalize val (preI s 2) = v0 at *
  have hlt' : (2 : Int) < s.size := by omega
  by_cases hge : 128 ≤ y.toNat
  ·have ih := rv3 s ks Q hr hq (by omega) (by
    intro x hxm
    rw [show 3 = 2 + 1 from rfl, hp] at hxm
    rcases List.mem_append.1 hxm with hxm | hxm
    ·exact hx x hxm
    ·obtain rfl := List.mem_singleton.1 hxm
     omega)
   have hge' : 128 ≤ (y.toNat : Int) := by omega
   simp (maxSteps := 1000000) (disch := omega) [ip, wr, -vb_and, -vb_or, vbA, vbO, hlt, hlt', hd, e1, e2, e3, e4, hge, hge']
   exact ih
  ·have hge' : ¬ 128 ≤ (y.toNat : Int) := by omega
   by_cases hz : y.toNat = 0
   ·have hz' : (y.toNat : Int) = 0 := by omega
    have hzu : y = 0 := by apply UInt8.toNat_inj.1; simpa using hz
    have hr := hr (0, 0) (rv_zero hd hx (by omega) hz)
    simp (maxSteps := 1000000) (disch := omega) [ip, wr, -vb_and, -vb_or, vbA, vbO, hlt, hlt', hd, e1, e2, e3, e4, hge, hge', hz, hz', hzu]
    exact hr
   ·have hz' : ¬ (y.toNat : Int) = 0 := by omega
    have hzu : ¬ y = 0 := fun h => hz (by rw [h]; rfl)
    have hr := hr (val (preI s 3), ((3 : Nat) : Int)) (rv_end hd (by omega) hx (by omega) (by omega))
    simp (maxSteps := 1000000) (disch := omega) [ip, wr, -vb_and, -vb_or, vbA, vbO, hlt, hlt', hd, e1, e2, e3, e4, hge, hge', hz, hz', hzu]
    exact hr
 ·have hq := hq (rv_stop hx (.inr (by omega))) (val (preI s 2)) 2
  have hlt' : ¬ (2 : Int) < s.size := by omega
  simp (maxSteps := 1000000) (disch := omega) [ip, wr, hlt, hlt']
  exact hq
theorem rv1 (s : ByteArray) (ks : List Fr) (Q : VX → Env → Prop) (hr : ∀ r : Int × Int, IsRV s r → Run G A .ret [(2, .v (.leaf (.int .i64 r.1))), (3, .v (.leaf (.int .i64 r.2)))] ks Q) (hq : IsRV s (0, 0) → ∀ n i : Int, Run G A (.exit 0) [(0, .v (.leaf (.str s))), (4, .v (.leaf (.int .i64 n))), (5, .v (.leaf (.int .i64 i))), (13, .v (.leaf (.bool false)))] ks Q) (hsz : 1 ≤ s.size) (hx : ∀ x ∈ preI s 1, 128 ≤ x) : Run G A (.loop impl_ReadVar.l0) [(0, .v (.leaf (.str s))), (4, .v (.leaf (.int .i64 (val (preI s 1))))), (5, .v (.leaf (.int .i64 1)))] ks Q := by
 refine run_loop_at impl_ReadVar.l0.eq_1 ?_
 by_cases hlt : 1 < s.size
 ·have hd : s.data[1]? = some (s.data[1]'hlt) := Array.getElem?_eq_getElem hlt
  generalize s.data[1]'hlt = y at hd
  have hy := y.toNat_lt
  have hp := pre_snoc (ib_get hd)
  have hv : val (preI s (1 + 1)) = val (preI s 1) + 128 ^ 1 * ((y.toNat : Int) % 128) := by rw [hp, val_snoc, pre_length hsz]
  have hv0 := val_nonneg (preI s 1)
  have hv1 := val_lt (preI s 1)
  rw [pre_length hsz] at hv1
  simp only [Nat.reduceAdd] at hv
  have e1 : Go.bits .and .u8 (y.toNat : Int) 127 = (y.toNat : Int) % 128 := and8 7 (by omega) (by omega) (by omega)
  have e2 : (2 : Int) ^ Nat.min 7 IntKind.i64.bits = 128 := by decide
  have e4 : IntKind.u64.wrap 7 = 7 := by decide
  have e3 : Go.bits .or .i64 (val (preI s 1)) ((y.toNat : Int) % 128 * 128) = val (preI s 2) := by
   rw [hv, or64' 7 (by omega) (by omega) (by omega) hv0 (by omega) (by omega)]
   omega
  generalize val (preI s 1) = v0 at *
  have hlt' : (1 : Int) < s.size := by omega
  by_cases hge : 128 ≤ y.toNat
  ·have ih := rv2 s ks Q hr hq (by omega) (by
    intro x hxm
    rw [show 2 = 1 + 1 from rfl, hp] at hxm
    rcases List.mem_append.1 hxm with hxm | hxm
    ·exact hx x hxm
    ·obtain rfl := List.mem_singleton.1 hxm
     omega)
   have hge' : 128 ≤ (y.toNat : Int) := by omega
   simp (maxSteps := 1000000) (disch := omega) [ip, wr, -vb_and, -vb_or, vbA, vbO, hlt, hlt', hd, e1, e2, e3, e4, hge, hge']
   exact ih
  ·have hge' : ¬ 128 ≤ (y.toNat : Int) := by omega
   by_cases hz : y.toNat = 0
   ·have hz' : (y.toNat : Int) = 0 := by omega
    have hzu : y = 0 := by apply UInt8.toNat_inj.1; simpa using hz
    have hr := hr (0, 0) (rv_zero hd hx (by omega) hz)
    simp (maxSteps := 1000000) (disch := omega) [ip, wr, -vb_and, -vb_or, vbA, vbO, hlt, hlt', hd, e1, e2, e3, e4, hge, hge', hz, hz', hzu]
    exact hr
   ·have hz' : ¬ (y.toNat : Int) = 0 := by omega
    have hzu : ¬ y = 0 := fun h => hz (by rw [h]; rfl)
    have hr := hr (val (preI s 2), ((2 : Nat) : Int)) (rv_end hd (by omega) hx (by omega) (by omega))
    simp (maxSteps := 1000000) (disch := omega) [ip, wr, -vb_and, -vb_or, vbA, vbO, hlt, hlt', hd, e1, e2, e3, e4, hge, hge', hz, hz', hzu]
    exact hr
 ·have hq := hq (rv_stop hx (.inr (by omega))) (val (preI s 1)) 1
  have hlt' : ¬ (1 : Int) < s.size := by omega
  simp (maxSteps := 1000000) (disch := omega) [ip, wr, hlt, hlt']
  exact hq
theorem rv0 (s : ByteArray) (ks : List Fr) (Q : VX → Env → Prop) (hr : ∀ r : Int × Int, IsRV s r → Run G A .ret [(2, .v (.leaf (.int .i64 r.1))), (3, .v (.leaf (.int .i64 r.2)))] ks Q) (hq : IsRV s (0, 0) → ∀ n i : Int, Run G A (.exit 0) [(0, .v (.leaf (.str s))), (4, .v (.leaf (.int .i64 n))), (5, .v (.leaf (.int .i64 i))), (13, .v (.leaf (.bool false)))] ks Q) (hsz : 0 ≤ s.size) (hx : ∀ x ∈ preI s 0, 128 ≤ x) : Run G A (.loop impl_ReadVar.l0) [(0, .v (.leaf (.str s))), (4, .v (.leaf (.int .i64 (val (preI s 0))))), (5, .v (.leaf (.int .i64 0)))] ks Q := by
 refine run_loop_at impl_ReadVar.l0.eq_1 ?_
 by_cases hlt : 0 < s.size
 ·have hd : s.data[0]? = some (s.data[0]'hlt) := Array.getElem?_eq_getElem hlt
  generalize s.data[0]'hlt = y at hd
  have hy := y.toNat_lt
  have hp := pre_snoc (ib_get hd)
  have hv : val (preI s (0 + 1)) = val (preI s 0) + 128 ^ 0 * ((y.toNat : Int) % 128) := by rw [hp, val_snoc, pre_length hsz]
  have hv0 := val_nonneg (preI s 0)
  have hv1 := val_lt (preI s 0)
  rw [pre_length hsz] at hv1
  simp only [Nat.reduceAdd] at hv
  have e1 : Go.bits .and .u8 (y.toNat : Int) 127 = (y.toNat : Int) % 128 := and8 7 (by omega) (by omega) (by omega)
  have e2 : (2 : Int) ^ Nat.min 0 IntKind.i64.bits = 1 := by decide
  have e4 : IntKind.u64.wrap 0 = 0 := by decide
  have e3 : Go.bits .or .i64 (val (preI s 0)) ((y.toNat : Int) % 128) = val (preI s 1) := by
   rw [hv, or64' 0 (by omega) (by omega) (by omega) hv0 (by omega) (by omega)]
   omega
  generalize val (preI s 0) = v0 at *
  have hlt' : (0 : Int) < s.size := by omega
  by_cases hge : 128 ≤ y.toNat
  ·have ih := rv1 s ks Q hr hq (by omega) (by
    intro x hxm
    rw [show 1 = 0 + 1 from rfl, hp] at hxm
    rcases List.mem_append.1 hxm with hxm | hxm
    ·exact hx x hxm
    ·obtain rfl := List.mem_singleton.1 hxm
     omega)
   have hge' : 128 ≤ (y.toNat : Int) := by omega
   simp (maxSteps := 1000000) (disch := omega) [ip, wr, -vb_and, -vb_or, vbA, vbO, hlt, hlt', hd, e1, e2, e3, e4, hge, hge']
   exact ih
  ·have hge' : ¬ 128 ≤ (y.toNat : Int) := by omega
   by_cases hz : y.toNat = 0
   ·have hz' : (y.toNat : Int) = 0 := by omega
    have hzu : y = 0 := by apply UInt8.toNat_inj.1; simpa using hz
    have e1z : Go.bits .and .u8 0 127 = 0 := by decide
    have e3z := e3
    rw [hz'] at e3z
    simp only [Int.zero_emod] at e3z
    have hr := hr (val (preI s 1), ((1 : Nat) : Int)) (rv_end hd (by omega) hx (by omega) (by omega))
    simp (maxSteps := 1000000) (disch := omega) [ip, wr, -vb_and, -vb_or, vbA, vbO, hlt, hlt', hd, e1, e2, e3, e4, hge, hge', hz, hz', hzu, e1z, e3z]
    exact hr
   ·have hz' : ¬ (y.toNat : Int) = 0 := by omega
    have hzu : ¬ y = 0 := fun h => hz (by rw [h]; rfl)
    have hr := hr (val (preI s 1), ((1 : Nat) : Int)) (rv_end hd (by omega) hx (by omega) (by omega))
    simp (maxSteps := 1000000) (disch := omega) [ip, wr, -vb_and, -vb_or, vbA, vbO, hlt, hlt', hd, e1, e2, e3, e4, hge, hge', hz, hz', hzu]
    exact hr
 ·have hq := hq (rv_stop hx (.inr (by omega))) (val (preI s 0)) 0
  have hlt' : ¬ (0 : Int) < s.size := by omega
  simp (maxSteps := 1000000) (disch := omega) [ip, wr, hlt, hlt']
  exact hq
theorem implReadVar (s : ByteArray) : ∃ r : Int × Int, IsRV s r ∧ A 8 [.leaf (.str s)] = some ([.leaf (.int .i64 r.1), .leaf (.int .i64 r.2)], [.gone]) := by
 obtain ⟨rs, os, h1, rfl, r, hr, rfl⟩ : ∃ rs os, A 8 [.leaf (.str s)] = some (rs, os) ∧ os = [.gone] ∧ ∃ r : Int × Int, IsRV s r ∧ rs = [.leaf (.int .i64 r.1), .leaf (.int .i64 r.2)] := by
  refine runE_impl_ReadVar ?_
  simp (maxSteps := 1000000) (disch := omega) [ip, wr, impl_ReadVar.b]
  refine rv0 s _ _ (fun r hr => ?_) (fun hz n i => ?_) (Nat.zero_le _) (by intro x hx; simp [preI] at hx)
  ·simp (maxSteps := 1000000) (disch := omega) [ip, wr, ]
   exact hr
  ·simp (maxSteps := 1000000) (disch := omega) [ip, wr, ]
   exact hz
 exact ⟨r, hr, h1⟩
end Go.Proofs.YticecjjfbjnaaaaDoor.FN
