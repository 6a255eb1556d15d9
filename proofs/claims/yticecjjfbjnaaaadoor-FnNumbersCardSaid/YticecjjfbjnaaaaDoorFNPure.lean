/- FnNumbers: what the program writes as a number it reads again. -/
import Derived.Test.YticecjjfbjnaaaaDoorFNOpen
import Derived.Test.YticecjjfbjnaaaaDoorFNNumC
import Derived.Test.YticecjjfbjnaaaaDoorFNNumD
namespace Go.Proofs.YticecjjfbjnaaaaDoor.FN
open Go Go.VS Go.Lib
set_option maxRecDepth 10000
set_option maxHeartbeats 8000000
set_option linter.unusedSimpArgs false
set_option linter.unusedVariables false
theorem rows_u8s : ∀ l : List Int, (∀ n ∈ l, (Lit.int .u8 n).wf = true) → (l.map fun n : Int => [L.int .u8 n]) = (u8s l).map fun x : UInt8 => [L.int .u8 x.toNat]
 | [], _ => rfl
 | n :: l, h => by
  have ih := rows_u8s l fun m hm => h m (by simp [hm])
  have h1 := h n (by simp)
  simp [Lit.wf, IntKind.min, IntKind.max, IntKind.signed, IntKind.bits] at h1
  have e : (((UInt8.ofNat n.toNat).toNat : Nat) : Int) = n := by
   rw [UInt8.toNat_ofNat']
   omega
  simp only [u8s, List.map_cons] at ih ⊢
  rw [ih, e]
theorem rd_itoa (n : Int) : (rd (str (itoa n))).2 = decide (-1000000000 < n ∧ n < 1000000000) ∧ ((rd (str (itoa n))).2 = true → (rd (str (itoa n))).1 = n) := by
 have e : (str (itoa n)).data.toList = itoa n := rfl
 rcases rd_is (str (itoa n)) with ⟨m, m0, m1, me, hr⟩ | ⟨hno, hr⟩
 ·rw [e] at me
  obtain rfl := itoa_inj me
  rw [hr]
  exact ⟨(decide_eq_true ⟨m0, m1⟩).symm, fun _ => rfl⟩
 ·rw [hr]
  refine ⟨(decide_eq_false fun h => hno n h.1 h.2 e.symm).symm, fun h => by cases h⟩
theorem empty_of {a : ByteArray} (h : a.size = 0) : a = ⟨#[]⟩ := by
 apply ByteArray.ext
 apply Array.eq_empty_of_size_eq_zero
 exact h
theorem pure (x0 : List Int) (h0 : okS22 x0) : ∃ outs, A 3 [.leaf (.sl false 1 (x0.map fun n : Int => [L.int .u8 n]))] = some ([.leaf (.bool true)], outs) := by
 rw [rows_u8s x0 h0.1]
 generalize u8s x0 = b
 have hg : A 4 [codeR b] = some ([.leaf (.bool (decide (1048576 < (b.length : Int))))], [.gone]) := by
  refine run_laws_big ?_
  simp (maxSteps := 1000000) (disch := omega) [ip, wr, laws_big.b]
 refine ⟨_, run_laws_FnNumbers (r := ([.leaf (.bool true)], [.gone])) ?_⟩
 by_cases hbig : 1048576 < (b.length : Int)
 ·rw [decide_eq_true hbig] at hg
  simp (maxSteps := 1000000) (disch := omega) [ip, wr, laws_FnNumbers.b, hg]
 ·rw [decide_eq_false hbig] at hg
  have hb : (b.length : Int) ≤ 1000000000 := by omega
  obtain ⟨n, hn, d1⟩ := drawVar b hb
  obtain ⟨tail, ht, d2⟩ := drawHex b hb
  obtain ⟨z, d3⟩ := drawReadVar b hb
  have v1 := implVar n
  have vz := varS_size n
  obtain ⟨r, hr, v2⟩ := implReadVar (varS n ++ tail)
  have f1 := implFixed n
  have fz := fixS_size n
  obtain ⟨q, hq, f2⟩ := implReadFixed (fixS n ++ tail)
  have c1 := implDec n hn.1 hn.2
  have c2 := implReadDec (str (itoa n)) (by
   rw [str_size]
   have : (itoa n).length ≤ 100 := by
    have h := (decDigits_len 19 n.natAbs).mpr (by omega)
    unfold itoa
    split
    ·rw [List.length_cons]; omega
    ·rw [show n.toNat = n.natAbs from by omega]; omega
   omega)
  obtain ⟨c3, c4⟩ := rd_itoa n
  have x1 : A 14 [.leaf (.str tail)] = some ([.leaf (.str (hexS tail))], [.gone]) := by
   refine P_impl_Hex ?_
   simp only [prim_impl_Hex, runHex]
   rw [if_pos (by omega)]
   rfl
  have x2 := implUnhex tail (by omega)
  obtain ⟨w, hw, w2⟩ := implReadVar z
  have w3 := implVar w.1
  have w4 : ¬ w.2 = 0 → 0 ≤ w.2 ∧ w.2 ≤ (z.size : Int) ∧ varS w.1 = z.extract 0 w.2.toNat := fun h => read_var z w hw h
  have vfact : (varS n = ⟨#[]⟩ ∧ ¬ (0 ≤ n ∧ n ≤ 562949953421311)) ∨ ((¬ varS n = ⟨#[]⟩ ∧ (0 ≤ n ∧ n ≤ 562949953421311)) ∧ r = (n, ((varS n).size : Int))) := by
   by_cases h : 0 ≤ n ∧ n ≤ 562949953421311
   ·refine .inr ⟨⟨fun e => ?_, h⟩, var_read n h.1 h.2 tail r hr⟩
    have := congrArg ByteArray.size e
    unfold varS at this
    rw [if_pos h, strI_size] at this
    have hp : 0 < (vb 6 n).length := List.length_pos_iff.mpr (vb_length_pos 6 n)
    rw [show (⟨#[]⟩ : ByteArray).size = 0 from rfl] at this
    omega
   ·exact .inl ⟨by unfold varS; rw [if_neg h], h⟩
  have ffact : (fixS n = ⟨#[]⟩ ∧ (n < 0 ∨ 72057594037927936 ≤ n)) ∨ ((¬ fixS n = ⟨#[]⟩ ∧ (fixS n).size = 7 ∧ (0 ≤ n ∧ n < 72057594037927936)) ∧ q = (n, true)) := by
   by_cases h : 0 ≤ n ∧ n < 72057594037927936
   ·have e : fixS n = strI (dg n 7) := if_pos h
    have hs : (fixS n).size = 7 := by rw [e, strI_size, dg_length]
    refine .inr ⟨⟨fun e2 => ?_, hs, h⟩, ?_⟩
    ·rw [e2] at hs; cases hs
    ·rw [hq (by rw [ByteArray.size_append]; omega), fix_read h.1 h.2]
   ·exact .inl ⟨by unfold fixS; rw [if_neg h], by omega⟩
  obtain ⟨r1, r2⟩ := r
  obtain ⟨q1, q2⟩ := q
  obtain ⟨w1, w22⟩ := w
  simp only at v2 f2 w2 w3 w4
  generalize varS n = vn at *
  generalize fixS n = fn at *
  generalize str (itoa n) = dn at *
  generalize hexS tail = ht at *
  generalize hrd : rd dn = dd at *
  obtain ⟨dd1, dd2⟩ := dd
  simp only at c2 c3 c4
  subst c3
  obtain ⟨n0, n1⟩ := hn
  have c5 : (dd1 = n ∧ -1000000000 < n ∧ n < 1000000000) ∨ (¬ -1000000000 < n ∧ n < 1000000000) ∨ (-1000000000 < n ∧ ¬ n < 1000000000) := by
   by_cases a1 : -1000000000 < n
   ·by_cases a2 : n < 1000000000
    ·exact .inl ⟨c4 (decide_eq_true ⟨a1, a2⟩), a1, a2⟩
    ·exact .inr (.inr ⟨a1, a2⟩)
   ·exact .inr (.inl ⟨a1, by omega⟩)
  rcases c5 with ⟨rfl, D1, D2⟩ | ⟨D1, D2⟩ | ⟨D1, D2⟩
  ·rw [decide_eq_true (And.intro D1 D2)] at c2
   by_cases w0 : w22 = 0
   ·rcases vfact with ⟨ve, vn0⟩ | ⟨⟨ve, vn0⟩, vr⟩
    ·rcases ffact with ⟨fe, fn0⟩ | ⟨⟨fe, fs, fn0⟩, fr⟩
     ·subst ve fe
      simp (maxSteps := 1000000) (disch := omega) [ip, wr, laws_FnNumbers.b, hg, d1, d2, d3, v1, v2, f1, f2, c1, c2, x1, x2, w2, w3, D1, D2, w0]
      all_goals repeat' ((first | refine runD_cases (fun hcz => ?_) (fun hcz => ?_) | refine gopB_cases (fun hcz => ?_) (fun hcz => ?_) | refine gopB_drawn (fun hcz => ?_) (fun hcz => ?_)) <;> (try simp only [decide_eq_true_eq, decide_eq_false_iff_not, Bool.not_eq_true', Bool.not_eq_false', Bool.not_eq_true, Bool.not_eq_false] at hcz) <;> (try simp (maxSteps := 1000000) (disch := omega) [ip, wr, hcz, hg, d1, d2, d3, v1, v2, f1, f2, c1, c2, x1, x2, w2, w3, D1, D2, w0]))
      all_goals omega
     ·simp only [Prod.mk.injEq] at fr
      obtain ⟨rfl, rfl⟩ := fr
      subst ve
      simp (maxSteps := 1000000) (disch := omega) [ip, wr, laws_FnNumbers.b, hg, d1, d2, d3, v1, v2, f1, f2, c1, c2, x1, x2, w2, w3, D1, D2, w0, fe, fs]
      all_goals repeat' ((first | refine runD_cases (fun hcz => ?_) (fun hcz => ?_) | refine gopB_cases (fun hcz => ?_) (fun hcz => ?_) | refine gopB_drawn (fun hcz => ?_) (fun hcz => ?_)) <;> (try simp only [decide_eq_true_eq, decide_eq_false_iff_not, Bool.not_eq_true', Bool.not_eq_false', Bool.not_eq_true, Bool.not_eq_false] at hcz) <;> (try simp (maxSteps := 1000000) (disch := omega) [ip, wr, hcz, hg, d1, d2, d3, v1, v2, f1, f2, c1, c2, x1, x2, w2, w3, D1, D2, w0, fe, fs]))
      all_goals omega
    ·simp only [Prod.mk.injEq] at vr
     obtain ⟨rfl, rfl⟩ := vr
     rcases ffact with ⟨fe, fn0⟩ | ⟨⟨fe, fs, fn0⟩, fr⟩
     ·omega
     ·simp only [Prod.mk.injEq] at fr
      obtain ⟨rfl, rfl⟩ := fr
      simp (maxSteps := 1000000) (disch := omega) [ip, wr, laws_FnNumbers.b, hg, d1, d2, d3, v1, v2, f1, f2, c1, c2, x1, x2, w2, w3, D1, D2, w0, fe, fs, ve]
      all_goals repeat' ((first | refine runD_cases (fun hcz => ?_) (fun hcz => ?_) | refine gopB_cases (fun hcz => ?_) (fun hcz => ?_) | refine gopB_drawn (fun hcz => ?_) (fun hcz => ?_)) <;> (try simp only [decide_eq_true_eq, decide_eq_false_iff_not, Bool.not_eq_true', Bool.not_eq_false', Bool.not_eq_true, Bool.not_eq_false] at hcz) <;> (try simp (maxSteps := 1000000) (disch := omega) [ip, wr, hcz, hg, d1, d2, d3, v1, v2, f1, f2, c1, c2, x1, x2, w2, w3, D1, D2, w0, fe, fs, ve]))
      all_goals omega
   ·obtain ⟨w5, w6, w7⟩ := w4 w0
    rw [w7] at w3
    rcases vfact with ⟨ve, vn0⟩ | ⟨⟨ve, vn0⟩, vr⟩
    ·rcases ffact with ⟨fe, fn0⟩ | ⟨⟨fe, fs, fn0⟩, fr⟩
     ·subst ve fe
      simp (maxSteps := 1000000) (disch := omega) [ip, wr, laws_FnNumbers.b, hg, d1, d2, d3, v1, v2, f1, f2, c1, c2, x1, x2, w2, w3, D1, D2, w0, w5, w6]
      all_goals repeat' ((first | refine runD_cases (fun hcz => ?_) (fun hcz => ?_) | refine gopB_cases (fun hcz => ?_) (fun hcz => ?_) | refine gopB_drawn (fun hcz => ?_) (fun hcz => ?_)) <;> (try simp only [decide_eq_true_eq, decide_eq_false_iff_not, Bool.not_eq_true', Bool.not_eq_false', Bool.not_eq_true, Bool.not_eq_false] at hcz) <;> (try simp (maxSteps := 1000000) (disch := omega) [ip, wr, hcz, hg, d1, d2, d3, v1, v2, f1, f2, c1, c2, x1, x2, w2, w3, D1, D2, w0, w5, w6]))
      all_goals omega
     ·simp only [Prod.mk.injEq] at fr
      obtain ⟨rfl, rfl⟩ := fr
      subst ve
      simp (maxSteps := 1000000) (disch := omega) [ip, wr, laws_FnNumbers.b, hg, d1, d2, d3, v1, v2, f1, f2, c1, c2, x1, x2, w2, w3, D1, D2, w0, w5, w6, fe, fs]
      all_goals repeat' ((first | refine runD_cases (fun hcz => ?_) (fun hcz => ?_) | refine gopB_cases (fun hcz => ?_) (fun hcz => ?_) | refine gopB_drawn (fun hcz => ?_) (fun hcz => ?_)) <;> (try simp only [decide_eq_true_eq, decide_eq_false_iff_not, Bool.not_eq_true', Bool.not_eq_false', Bool.not_eq_true, Bool.not_eq_false] at hcz) <;> (try simp (maxSteps := 1000000) (disch := omega) [ip, wr, hcz, hg, d1, d2, d3, v1, v2, f1, f2, c1, c2, x1, x2, w2, w3, D1, D2, w0, w5, w6, fe, fs]))
      all_goals omega
    ·simp only [Prod.mk.injEq] at vr
     obtain ⟨rfl, rfl⟩ := vr
     rcases ffact with ⟨fe, fn0⟩ | ⟨⟨fe, fs, fn0⟩, fr⟩
     ·omega
     ·simp only [Prod.mk.injEq] at fr
      obtain ⟨rfl, rfl⟩ := fr
      simp (maxSteps := 1000000) (disch := omega) [ip, wr, laws_FnNumbers.b, hg, d1, d2, d3, v1, v2, f1, f2, c1, c2, x1, x2, w2, w3, D1, D2, w0, w5, w6, fe, fs, ve]
      all_goals repeat' ((first | refine runD_cases (fun hcz => ?_) (fun hcz => ?_) | refine gopB_cases (fun hcz => ?_) (fun hcz => ?_) | refine gopB_drawn (fun hcz => ?_) (fun hcz => ?_)) <;> (try simp only [decide_eq_true_eq, decide_eq_false_iff_not, Bool.not_eq_true', Bool.not_eq_false', Bool.not_eq_true, Bool.not_eq_false] at hcz) <;> (try simp (maxSteps := 1000000) (disch := omega) [ip, wr, hcz, hg, d1, d2, d3, v1, v2, f1, f2, c1, c2, x1, x2, w2, w3, D1, D2, w0, w5, w6, fe, fs, ve]))
      all_goals omega
  ·rw [decide_eq_false (fun h => D1 h.1)] at c2
   by_cases w0 : w22 = 0
   ·rcases vfact with ⟨ve, vn0⟩ | ⟨⟨ve, vn0⟩, vr⟩
    ·rcases ffact with ⟨fe, fn0⟩ | ⟨⟨fe, fs, fn0⟩, fr⟩
     ·subst ve fe
      simp (maxSteps := 1000000) (disch := omega) [ip, wr, laws_FnNumbers.b, hg, d1, d2, d3, v1, v2, f1, f2, c1, c2, x1, x2, w2, w3, D1, D2, w0]
      all_goals repeat' ((first | refine runD_cases (fun hcz => ?_) (fun hcz => ?_) | refine gopB_cases (fun hcz => ?_) (fun hcz => ?_) | refine gopB_drawn (fun hcz => ?_) (fun hcz => ?_)) <;> (try simp only [decide_eq_true_eq, decide_eq_false_iff_not, Bool.not_eq_true', Bool.not_eq_false', Bool.not_eq_true, Bool.not_eq_false] at hcz) <;> (try simp (maxSteps := 1000000) (disch := omega) [ip, wr, hcz, hg, d1, d2, d3, v1, v2, f1, f2, c1, c2, x1, x2, w2, w3, D1, D2, w0]))
      all_goals omega
     ·simp only [Prod.mk.injEq] at fr
      obtain ⟨rfl, rfl⟩ := fr
      subst ve
      simp (maxSteps := 1000000) (disch := omega) [ip, wr, laws_FnNumbers.b, hg, d1, d2, d3, v1, v2, f1, f2, c1, c2, x1, x2, w2, w3, D1, D2, w0, fe, fs]
      all_goals repeat' ((first | refine runD_cases (fun hcz => ?_) (fun hcz => ?_) | refine gopB_cases (fun hcz => ?_) (fun hcz => ?_) | refine gopB_drawn (fun hcz => ?_) (fun hcz => ?_)) <;> (try simp only [decide_eq_true_eq, decide_eq_false_iff_not, Bool.not_eq_true', Bool.not_eq_false', Bool.not_eq_true, Bool.not_eq_false] at hcz) <;> (try simp (maxSteps := 1000000) (disch := omega) [ip, wr, hcz, hg, d1, d2, d3, v1, v2, f1, f2, c1, c2, x1, x2, w2, w3, D1, D2, w0, fe, fs]))
      all_goals omega
    ·simp only [Prod.mk.injEq] at vr
     obtain ⟨rfl, rfl⟩ := vr
     rcases ffact with ⟨fe, fn0⟩ | ⟨⟨fe, fs, fn0⟩, fr⟩
     ·omega
     ·simp only [Prod.mk.injEq] at fr
      obtain ⟨rfl, rfl⟩ := fr
      simp (maxSteps := 1000000) (disch := omega) [ip, wr, laws_FnNumbers.b, hg, d1, d2, d3, v1, v2, f1, f2, c1, c2, x1, x2, w2, w3, D1, D2, w0, fe, fs, ve]
      all_goals repeat' ((first | refine runD_cases (fun hcz => ?_) (fun hcz => ?_) | refine gopB_cases (fun hcz => ?_) (fun hcz => ?_) | refine gopB_drawn (fun hcz => ?_) (fun hcz => ?_)) <;> (try simp only [decide_eq_true_eq, decide_eq_false_iff_not, Bool.not_eq_true', Bool.not_eq_false', Bool.not_eq_true, Bool.not_eq_false] at hcz) <;> (try simp (maxSteps := 1000000) (disch := omega) [ip, wr, hcz, hg, d1, d2, d3, v1, v2, f1, f2, c1, c2, x1, x2, w2, w3, D1, D2, w0, fe, fs, ve]))
      all_goals omega
   ·obtain ⟨w5, w6, w7⟩ := w4 w0
    rw [w7] at w3
    rcases vfact with ⟨ve, vn0⟩ | ⟨⟨ve, vn0⟩, vr⟩
    ·rcases ffact with ⟨fe, fn0⟩ | ⟨⟨fe, fs, fn0⟩, fr⟩
     ·subst ve fe
      simp (maxSteps := 1000000) (disch := omega) [ip, wr, laws_FnNumbers.b, hg, d1, d2, d3, v1, v2, f1, f2, c1, c2, x1, x2, w2, w3, D1, D2, w0, w5, w6]
      all_goals repeat' ((first | refine runD_cases (fun hcz => ?_) (fun hcz => ?_) | refine gopB_cases (fun hcz => ?_) (fun hcz => ?_) | refine gopB_drawn (fun hcz => ?_) (fun hcz => ?_)) <;> (try simp only [decide_eq_true_eq, decide_eq_false_iff_not, Bool.not_eq_true', Bool.not_eq_false', Bool.not_eq_true, Bool.not_eq_false] at hcz) <;> (try simp (maxSteps := 1000000) (disch := omega) [ip, wr, hcz, hg, d1, d2, d3, v1, v2, f1, f2, c1, c2, x1, x2, w2, w3, D1, D2, w0, w5, w6]))
      all_goals omega
     ·simp only [Prod.mk.injEq] at fr
      obtain ⟨rfl, rfl⟩ := fr
      subst ve
      simp (maxSteps := 1000000) (disch := omega) [ip, wr, laws_FnNumbers.b, hg, d1, d2, d3, v1, v2, f1, f2, c1, c2, x1, x2, w2, w3, D1, D2, w0, w5, w6, fe, fs]
      all_goals repeat' ((first | refine runD_cases (fun hcz => ?_) (fun hcz => ?_) | refine gopB_cases (fun hcz => ?_) (fun hcz => ?_) | refine gopB_drawn (fun hcz => ?_) (fun hcz => ?_)) <;> (try simp only [decide_eq_true_eq, decide_eq_false_iff_not, Bool.not_eq_true', Bool.not_eq_false', Bool.not_eq_true, Bool.not_eq_false] at hcz) <;> (try simp (maxSteps := 1000000) (disch := omega) [ip, wr, hcz, hg, d1, d2, d3, v1, v2, f1, f2, c1, c2, x1, x2, w2, w3, D1, D2, w0, w5, w6, fe, fs]))
      all_goals omega
    ·simp only [Prod.mk.injEq] at vr
     obtain ⟨rfl, rfl⟩ := vr
     rcases ffact with ⟨fe, fn0⟩ | ⟨⟨fe, fs, fn0⟩, fr⟩
     ·omega
     ·simp only [Prod.mk.injEq] at fr
      obtain ⟨rfl, rfl⟩ := fr
      simp (maxSteps := 1000000) (disch := omega) [ip, wr, laws_FnNumbers.b, hg, d1, d2, d3, v1, v2, f1, f2, c1, c2, x1, x2, w2, w3, D1, D2, w0, w5, w6, fe, fs, ve]
      all_goals repeat' ((first | refine runD_cases (fun hcz => ?_) (fun hcz => ?_) | refine gopB_cases (fun hcz => ?_) (fun hcz => ?_) | refine gopB_drawn (fun hcz => ?_) (fun hcz => ?_)) <;> (try simp only [decide_eq_true_eq, decide_eq_false_iff_not, Bool.not_eq_true', Bool.not_eq_false', Bool.not_eq_true, Bool.not_eq_false] at hcz) <;> (try simp (maxSteps := 1000000) (disch := omega) [ip, wr, hcz, hg, d1, d2, d3, v1, v2, f1, f2, c1, c2, x1, x2, w2, w3, D1, D2, w0, w5, w6, fe, fs, ve]))
      all_goals omega
  ·rw [decide_eq_false (fun h => D2 h.2)] at c2
   by_cases w0 : w22 = 0
   ·rcases vfact with ⟨ve, vn0⟩ | ⟨⟨ve, vn0⟩, vr⟩
    ·rcases ffact with ⟨fe, fn0⟩ | ⟨⟨fe, fs, fn0⟩, fr⟩
     ·subst ve fe
      simp (maxSteps := 1000000) (disch := omega) [ip, wr, laws_FnNumbers.b, hg, d1, d2, d3, v1, v2, f1, f2, c1, c2, x1, x2, w2, w3, D1, D2, w0]
      all_goals repeat' ((first | refine runD_cases (fun hcz => ?_) (fun hcz => ?_) | refine gopB_cases (fun hcz => ?_) (fun hcz => ?_) | refine gopB_drawn (fun hcz => ?_) (fun hcz => ?_)) <;> (try simp only [decide_eq_true_eq, decide_eq_false_iff_not, Bool.not_eq_true', Bool.not_eq_false', Bool.not_eq_true, Bool.not_eq_false] at hcz) <;> (try simp (maxSteps := 1000000) (disch := omega) [ip, wr, hcz, hg, d1, d2, d3, v1, v2, f1, f2, c1, c2, x1, x2, w2, w3, D1, D2, w0]))
      all_goals omega
     ·simp only [Prod.mk.injEq] at fr
      obtain ⟨rfl, rfl⟩ := fr
      subst ve
      simp (maxSteps := 1000000) (disch := omega) [ip, wr, laws_FnNumbers.b, hg, d1, d2, d3, v1, v2, f1, f2, c1, c2, x1, x2, w2, w3, D1, D2, w0, fe, fs]
      all_goals repeat' ((first | refine runD_cases (fun hcz => ?_) (fun hcz => ?_) | refine gopB_cases (fun hcz => ?_) (fun hcz => ?_) | refine gopB_drawn (fun hcz => ?_) (fun hcz => ?_)) <;> (try simp only [decide_eq_true_eq, decide_eq_false_iff_not, Bool.not_eq_true', Bool.not_eq_false', Bool.not_eq_true, Bool.not_eq_false] at hcz) <;> (try simp (maxSteps := 1000000) (disch := omega) [ip, wr, hcz, hg, d1, d2, d3, v1, v2, f1, f2, c1, c2, x1, x2, w2, w3, D1, D2, w0, fe, fs]))
      all_goals omega
    ·simp only [Prod.mk.injEq] at vr
     obtain ⟨rfl, rfl⟩ := vr
     rcases ffact with ⟨fe, fn0⟩ | ⟨⟨fe, fs, fn0⟩, fr⟩
     ·omega
     ·simp only [Prod.mk.injEq] at fr
      obtain ⟨rfl, rfl⟩ := fr
      simp (maxSteps := 1000000) (disch := omega) [ip, wr, laws_FnNumbers.b, hg, d1, d2, d3, v1, v2, f1, f2, c1, c2, x1, x2, w2, w3, D1, D2, w0, fe, fs, ve]
      all_goals repeat' ((first | refine runD_cases (fun hcz => ?_) (fun hcz => ?_) | refine gopB_cases (fun hcz => ?_) (fun hcz => ?_) | refine gopB_drawn (fun hcz => ?_) (fun hcz => ?_)) <;> (try simp only [decide_eq_true_eq, decide_eq_false_iff_not, Bool.not_eq_true', Bool.not_eq_false', Bool.not_eq_true, Bool.not_eq_false] at hcz) <;> (try simp (maxSteps := 1000000) (disch := omega) [ip, wr, hcz, hg, d1, d2, d3, v1, v2, f1, f2, c1, c2, x1, x2, w2, w3, D1, D2, w0, fe, fs, ve]))
      all_goals omega
   ·obtain ⟨w5, w6, w7⟩ := w4 w0
    rw [w7] at w3
    rcases vfact with ⟨ve, vn0⟩ | ⟨⟨ve, vn0⟩, vr⟩
    ·rcases ffact with ⟨fe, fn0⟩ | ⟨⟨fe, fs, fn0⟩, fr⟩
     ·subst ve fe
      simp (maxSteps := 1000000) (disch := omega) [ip, wr, laws_FnNumbers.b, hg, d1, d2, d3, v1, v2, f1, f2, c1, c2, x1, x2, w2, w3, D1, D2, w0, w5, w6]
      all_goals repeat' ((first | refine runD_cases (fun hcz => ?_) (fun hcz => ?_) | refine gopB_cases (fun hcz => ?_) (fun hcz => ?_) | refine gopB_drawn (fun hcz => ?_) (fun hcz => ?_)) <;> (try simp only [decide_eq_true_eq, decide_eq_false_iff_not, Bool.not_eq_true', Bool.not_eq_false', Bool.not_eq_true, Bool.not_eq_false] at hcz) <;> (try simp (maxSteps := 1000000) (disch := omega) [ip, wr, hcz, hg, d1, d2, d3, v1, v2, f1, f2, c1, c2, x1, x2, w2, w3, D1, D2, w0, w5, w6]))
      all_goals omega
     ·simp only [Prod.mk.injEq] at fr
      obtain ⟨rfl, rfl⟩ := fr
      subst ve
      simp (maxSteps := 1000000) (disch := omega) [ip, wr, laws_FnNumbers.b, hg, d1, d2, d3, v1, v2, f1, f2, c1, c2, x1, x2, w2, w3, D1, D2, w0, w5, w6, fe, fs]
      all_goals repeat' ((first | refine runD_cases (fun hcz => ?_) (fun hcz => ?_) | refine gopB_cases (fun hcz => ?_) (fun hcz => ?_) | refine gopB_drawn (fun hcz => ?_) (fun hcz => ?_)) <;> (try simp only [decide_eq_true_eq, decide_eq_false_iff_not, Bool.not_eq_true', Bool.not_eq_false', Bool.not_eq_true, Bool.not_eq_false] at hcz) <;> (try simp (maxSteps := 1000000) (disch := omega) [ip, wr, hcz, hg, d1, d2, d3, v1, v2, f1, f2, c1, c2, x1, x2, w2, w3, D1, D2, w0, w5, w6, fe, fs]))
      all_goals omega
    ·simp only [Prod.mk.injEq] at vr
     obtain ⟨rfl, rfl⟩ := vr
     rcases ffact with ⟨fe, fn0⟩ | ⟨⟨fe, fs, fn0⟩, fr⟩
     ·omega
     ·simp only [Prod.mk.injEq] at fr
      obtain ⟨rfl, rfl⟩ := fr
      simp (maxSteps := 1000000) (disch := omega) [ip, wr, laws_FnNumbers.b, hg, d1, d2, d3, v1, v2, f1, f2, c1, c2, x1, x2, w2, w3, D1, D2, w0, w5, w6, fe, fs, ve]
      all_goals repeat' ((first | refine runD_cases (fun hcz => ?_) (fun hcz => ?_) | refine gopB_cases (fun hcz => ?_) (fun hcz => ?_) | refine gopB_drawn (fun hcz => ?_) (fun hcz => ?_)) <;> (try simp only [decide_eq_true_eq, decide_eq_false_iff_not, Bool.not_eq_true', Bool.not_eq_false', Bool.not_eq_true, Bool.not_eq_false] at hcz) <;> (try simp (maxSteps := 1000000) (disch := omega) [ip, wr, hcz, hg, d1, d2, d3, v1, v2, f1, f2, c1, c2, x1, x2, w2, w3, D1, D2, w0, w5, w6, fe, fs, ve]))
      all_goals omega
end Go.Proofs.YticecjjfbjnaaaaDoor.FN
