/- Numbers in bytes: the program's own functions, walked. -/
import Derived.Test.YticecjjfbjnaaaaDoorFNBytesA
import Derived.Test.YticecjjfbjnaaaaDoorFNDrawA
import Derived.Test.YticecjjfbjnaaaaDoorFNNumA
namespace Go.Proofs.YticecjjfbjnaaaaDoor.FN
open Go Go.VS Go.Lib
set_option maxRecDepth 10000
set_option maxHeartbeats 8000000
set_option linter.unusedSimpArgs false
set_option linter.unusedVariables false
abbrev intR (l : List Int) : List (List L) := l.map fun n : Int => [L.int .u8 n]
theorem bytesOf_intR : ∀ l : List Int, bytesOf (intR l) = some (u8s l)
 | [] => rfl
 | n :: l => by
  have := bytesOf_intR l
  simp only [intR, List.map_cons, bytesOf] at this ⊢
  rw [this]
  rfl
theorem vbA (k : IntKind) (a b : Int) : vbin .and (.int k a) (.int k b) = some (.int k (Go.bits .and k a b)) := by simp [vbin, Go.bits]
theorem vbO (k : IntKind) (a b : Int) : vbin .or (.int k a) (.int k b) = some (.int k (Go.bits .or k a b)) := by simp [vbin, Go.bits]
theorem wraps63 (n : Int) (h0 : 0 ≤ n) (h1 : n < 2 ^ 63) : IntKind.i64.wrap n = n := wrap_i64 (by omega) (by omega)
theorem or64 (i : Nat) {x y : Int} (hx0 : 0 ≤ x) (hx : x % 2 ^ i = 0) (hx1 : x < 2 ^ 63) (hy0 : 0 ≤ y) (hy : y < 2 ^ i) (hy1 : y < 2 ^ 63) : Go.bits .or .i64 x y = x + y := bits_join .i64 63 (by decide) wraps63 i x y hx0 hx hx1 hy0 hy hy1
theorem or64' (i : Nat) {x y : Int} (hx0 : 0 ≤ x) (hx : x % 2 ^ i = 0) (hx1 : x < 2 ^ 63) (hy0 : 0 ≤ y) (hy : y < 2 ^ i) (hy1 : y < 2 ^ 63) : Go.bits .or .i64 y x = y + x := by
 have e : Go.bits .or .i64 y x = Go.bits .or .i64 x y := by unfold Go.bits; simp only [BitVec.or_comm]
 rw [e, or64 i hx0 hx hx1 hy0 hy hy1, Int.add_comm]
theorem and64 (i : Nat) (hi : i ≤ 63) {x : Int} (hx0 : 0 ≤ x) (hx1 : x < 2 ^ 63) : Go.bits .and .i64 x (2 ^ i - 1) = x % 2 ^ i := bits_mask .i64 63 (by decide) wraps63 i hi x hx0 hx1
theorem and8 (i : Nat) (hi : i ≤ 8) {x : Int} (hx0 : 0 ≤ x) (hx1 : x < 2 ^ 8) : Go.bits .and .u8 x (2 ^ i - 1) = x % 2 ^ i := bits_mask .u8 8 (by decide) wraps_u8 i hi x hx0 hx1
theorem implVar_loop (ks : List Fr) (Q : VX → Env → Prop) : ∀ (d : Nat) (x : Int) (l : List Int), 0 ≤ x → x < 9223372036854775808 → x < 128 ^ (d + 1) → l.length + d ≤ 100 →
  (∀ (y : Int) (l' : List Int), l' ++ [y] = l ++ vb d x → 0 ≤ y → y < 128 → l'.length ≤ 100 → Run G A (.exit 0) [(0, .v (.leaf (.int .i64 y))), (3, .v (.leaf (.sl true 1 (intR l')))), (8, .v (.leaf (.bool false)))] ks Q) →
  Run G A (.loop impl_Var.l0) [(0, .v (.leaf (.int .i64 x))), (3, .v (.leaf (.sl true 1 (intR l))))] ks Q
 | 0, x, l, h0, h1, h2, hl, hq => by
  rw [show (0 + 1 : Nat) = 1 from rfl, Int.pow_succ, Int.pow_zero] at h2
  have hq := hq x l rfl h0 (by omega) (by omega)
  have hn : ¬ 127 < x := by omega
  refine run_loop_at impl_Var.l0.eq_1 ?_
  simp (maxSteps := 1000000) (disch := omega) [ip, wr, hn]
  exact hq
 | d + 1, x, l, h0, h1, h2, hl, hq => by
  refine run_loop_at impl_Var.l0.eq_1 ?_
  by_cases hx : 127 < x
  ·have e1 : Go.bits .and .i64 x 127 = x % 128 := and64 7 (by omega) h0 (by omega)
   have e2 : Go.bits .or .i64 128 (x % 128) = 128 + x % 128 := or64 7 (by omega) (by omega) (by omega) (by omega) (by omega) (by omega)
   have e3 : x.fdiv (2 ^ Nat.min 7 IntKind.i64.bits) = x / 128 := Int.fdiv_eq_ediv_of_nonneg _ (by decide)
   have ih := implVar_loop ks Q d (x / 128) (l ++ [128 + x % 128]) (by omega) (by omega) (by rw [Int.pow_succ] at h2; omega) (by simp; omega) (fun y l' e y0 y1 hl' => hq y l' (by rw [e, vb, if_pos (by omega)]; simp) y0 y1 hl')
   simp (maxSteps := 1000000) (disch := omega) [ip, wr, -vb_and, -vb_or, vbA, vbO, hx, e1, e2, e3]
   refine run_env ih ?_
   simp
  ·have hq := hq x l (by rw [vb, if_neg (by omega)]) h0 (by omega) (by omega)
   simp (maxSteps := 1000000) (disch := omega) [ip, wr, hx]
   exact hq
theorem implVar (x : Int) : A 7 [.leaf (.int .i64 x)] = some ([.leaf (.str (varS x))], [.gone]) := by
 have hR := inRange x 0 562949953421311
 refine run_impl_Var ?_
 unfold varS
 by_cases h : 0 ≤ x ∧ x ≤ 562949953421311
 ·rw [decide_eq_true h] at hR
  rw [if_pos h]
  simp (maxSteps := 1000000) (disch := omega) [ip, wr, impl_Var.b, hR]
  refine implVar_loop _ _ 6 x [] h.1 (by omega) (by show x < 562949953421312; omega) (by decide) (fun y l' e y0 y1 hl' => ?_)
  have e2 := bytesOf_intR (l' ++ [y])
  have hy : IntKind.u8.wrap y = y := wrap_u8 y0 (by omega)
  rw [List.nil_append] at e
  have e3 : strI (vb 6 x) = ⟨(u8s (l' ++ [y])).toArray⟩ := by rw [e]; rfl
  rw [e3]
  simp only [intR, List.map_append, List.map_cons, List.map_nil] at e2
  generalize u8s (l' ++ [y]) = R at *
  simp (maxSteps := 1000000) (disch := omega) [ip, wr, hy, e2]
 ·rw [decide_eq_false h] at hR
  rw [if_neg h]
  simp (maxSteps := 1000000) (disch := omega) [ip, wr, impl_Var.b, hR]
theorem implFixed_loop (n : Int) (hn : 0 ≤ n) (ks : List Fr) (Q : VX → Env → Prop) : ∀ (w : Nat) (l : List Int), w ≤ 7 → l.length + w ≤ 7 →
  Run G A (.exit 0) [(0, .v (.leaf (.int .i64 n))), (5, .v (.leaf (.sl true 1 (intR (l ++ dg n w))))), (6, .v (.leaf (.int .i64 (-1)))), (25, .v (.leaf (.bool false)))] ks Q →
  Run G A (.loop impl_Fixed.l0) [(0, .v (.leaf (.int .i64 n))), (5, .v (.leaf (.sl true 1 (intR l)))), (6, .v (.leaf (.int .i64 ((w : Int) - 1))))] ks Q
 | 0, l, hw, hl, hq => by
  refine run_loop_at impl_Fixed.l0.eq_1 ?_
  simp (maxSteps := 1000000) (disch := omega) [ip, wr, ]
  simpa [dg] using hq
 | w + 1, l, hw, hl, hq => by
  have ih := implFixed_loop n hn ks Q w (l ++ [(n / 256 ^ w) % 256]) (by omega) (by simp; omega) (by rw [List.append_assoc]; exact hq)
  have e0 : ((w + 1 : Nat) : Int) - 1 = (w : Int) := by omega
  rw [e0]
  have e1 : IntKind.i64.wrap (8 * (w : Int)) = 8 * (w : Int) := wrap_i64 (by omega) (by omega)
  have e2 : IntKind.u64.wrap (8 * (w : Int)) = 8 * (w : Int) := by simp [IntKind.wrap, IntKind.bits, IntKind.signed]; omega
  have e3 : n.fdiv (2 ^ Nat.min (8 * (w : Int)).toNat IntKind.i64.bits) = n / 256 ^ w := by
   have a1 : Nat.min (8 * (w : Int)).toNat IntKind.i64.bits = 8 * w := by
    rw [show (8 * (w : Int)).toNat = 8 * w by omega]
    exact Nat.min_eq_left (by simp [IntKind.bits]; omega)
   rw [a1, Int.pow_mul, Int.fdiv_eq_ediv_of_nonneg _ (Int.pow_nonneg (by decide))]
   rfl
  have e4 : IntKind.u8.wrap (n / 256 ^ w) = (n / 256 ^ w) % 256 := by simp [IntKind.wrap, IntKind.bits, IntKind.signed]
  have e5 : ¬ 8 * (w : Int) < 0 := by omega
  refine run_loop_at impl_Fixed.l0.eq_1 ?_
  simp (maxSteps := 1000000) (disch := omega) [ip, wr, e1, e2, e3, e4, e5]
  refine run_env ih ?_
  simp
theorem implFixed (n : Int) : A 9 [.leaf (.int .i64 n), .leaf (.int .i64 7)] = some ([.leaf (.str (fixS n))], [.gone, .gone]) := by
 have hR := inRange 7 1 7
 rw [decide_eq_true (by decide)] at hR
 have e1 : IntKind.u64.wrap 56 = 56 := by decide
 have e2 : IntKind.i64.wrap (2 ^ Nat.min 56 IntKind.i64.bits) = 72057594037927936 := by decide
 refine run_impl_Fixed ?_
 unfold fixS
 by_cases h0 : n < 0
 ·rw [if_neg (by omega)]
  simp (maxSteps := 1000000) (disch := omega) [ip, wr, impl_Fixed.b, hR, h0]
 ·by_cases h1 : 72057594037927936 ≤ n
  ·rw [if_neg (by omega)]
   simp (maxSteps := 1000000) (disch := omega) [ip, wr, impl_Fixed.b, hR, h0, e1, e2, h1]
  ·rw [if_pos (by omega)]
   have e3 := bytesOf_intR (dg n 7)
   have e4 : strI (dg n 7) = ⟨(u8s (dg n 7)).toArray⟩ := rfl
   rw [e4]
   simp (maxSteps := 1000000) (disch := omega) [ip, wr, impl_Fixed.b, hR, h0, e1, e2, h1]
   refine run_env (implFixed_loop n (by omega) _ _ 7 [] (by decide) (by decide) ?_) ?_
   ·simp only [List.nil_append]
    generalize u8s (dg n 7) = R at *
    generalize dg n 7 = D at *
    simp (maxSteps := 1000000) (disch := omega) [ip, wr, e3]
   ·simp
theorem implReadFixed_loop (s : ByteArray) (hs : 7 ≤ s.size) (ks : List Fr) (Q : VX → Env → Prop) : ∀ (d i : Nat) (n : Int), i + d = 7 → n = num256 (preI s i) → 0 ≤ n → n < 256 ^ i →
  Run G A (.exit 0) [(0, .v (.leaf (.str s))), (6, .v (.leaf (.int .i64 (num256 (preI s 7))))), (17, .v (.leaf (.int .i64 7))), (18, .v (.leaf (.int .i64 7))), (19, .v (.leaf (.bool false)))] ks Q →
  Run G A (.loop impl_ReadFixed.l0) [(0, .v (.leaf (.str s))), (6, .v (.leaf (.int .i64 n))), (17, .v (.leaf (.int .i64 7))), (18, .v (.leaf (.int .i64 i)))] ks Q
 | 0, i, n, h, hn, h0, h1, hq => by
  obtain rfl : i = 7 := by omega
  rw [← hn] at hq
  refine run_loop_at impl_ReadFixed.l0.eq_1 ?_
  simp (maxSteps := 1000000) (disch := omega) [ip, wr, ]
  exact hq
 | d + 1, i, n, h, hn, h0, h1, hq => by
  have hlt : i < s.size := by omega
  have hd : s.data[i]? = some (s.data[i]'hlt) := Array.getElem?_eq_getElem hlt
  generalize s.data[i]'hlt = y at hd
  have hy := y.toNat_lt
  have hp := pre_snoc (ib_get hd)
  have hb : n < 281474976710656 := by
   have : (256 : Int) ^ i ≤ 281474976710656 := by
    obtain rfl | rfl | rfl | rfl | rfl | rfl | rfl : i = 0 ∨ i = 1 ∨ i = 2 ∨ i = 3 ∨ i = 4 ∨ i = 5 ∨ i = 6 := by omega
    all_goals decide
   omega
  have ih := implReadFixed_loop s hs ks Q d (i + 1) (n * 256 + (y.toNat : Int)) (by omega) (by rw [hp, hn]; simp [num256]) (by omega) (by rw [Int.pow_succ]; omega) hq
  have e2 : (2 : Int) ^ Nat.min 8 IntKind.i64.bits = 256 := by decide
  have e3 : Go.bits .or .i64 (n * 256) (y.toNat : Int) = n * 256 + (y.toNat : Int) := or64 8 (by omega) (by omega) (by omega) (by omega) (by omega) (by omega)
  have hi7 : (i : Int) < 7 := by omega
  refine run_loop_at impl_ReadFixed.l0.eq_1 ?_
  simp (maxSteps := 1000000) (disch := omega) [ip, wr, -vb_or, vbO, hi7, hd, e2, e3, hlt]
  refine run_env ih ?_
  simp
theorem implReadFixed (s : ByteArray) : ∃ r : Int × Bool, (7 ≤ s.size → r = (num256 (preI s 7), true)) ∧ A 10 [.leaf (.str s), .leaf (.int .i64 7)] = some ([.leaf (.int .i64 r.1), .leaf (.bool r.2)], [.gone, .gone]) := by
 have hR := inRange 7 1 7
 rw [decide_eq_true (by decide)] at hR
 by_cases h : (s.size : Int) < 7
 ·refine ⟨(0, false), fun h2 => by omega, run_impl_ReadFixed ?_⟩
  simp (maxSteps := 1000000) (disch := omega) [ip, wr, impl_ReadFixed.b, hR, h]
 ·refine ⟨(num256 (preI s 7), true), fun _ => rfl, run_impl_ReadFixed ?_⟩
  simp (maxSteps := 1000000) (disch := omega) [ip, wr, impl_ReadFixed.b, hR, h]
  refine implReadFixed_loop s (by omega) _ _ 7 0 0 rfl (by simp [preI, num256]) (Int.le_refl _) (by decide) ?_
  simp (maxSteps := 1000000) (disch := omega) [ip, wr, ]
theorem hexd_lt (m : Nat) (h : m < 16) : Lib.indexByte (⟨#[48, 49, 50, 51, 52, 53, 54, 55, 56, 57, 97, 98, 99, 100, 101, 102]⟩ : ByteArray).data.toList (hexd m) = (m : Int) := by
 have : ∀ m : Fin 16, Lib.indexByte (⟨#[48, 49, 50, 51, 52, 53, 54, 55, 56, 57, 97, 98, 99, 100, 101, 102]⟩ : ByteArray).data.toList (hexd m.val) = (m.val : Int) := by decide +kernel
 exact this ⟨m, h⟩
theorem iByte (c : UInt8) : A 23 [.leaf (.str ⟨#[48, 49, 50, 51, 52, 53, 54, 55, 56, 57, 97, 98, 99, 100, 101, 102]⟩), .leaf (.int .u8 c.toNat)] = some ([.leaf (.int .i64 (Lib.indexByte (⟨#[48, 49, 50, 51, 52, 53, 54, 55, 56, 57, 97, 98, 99, 100, 101, 102]⟩ : ByteArray).data.toList c))], [.gone, .gone]) := by
 refine P_strings_IndexByte ?_
 simp only [prim_strings_IndexByte, runIndexByte]
 have : ((c.toNat : Int)).toNat.toUInt8 = c := by simp
 rw [this]
theorem hexL_get : ∀ (l : List UInt8) (i : Nat) (b : UInt8), l[i]? = some b → (hexL l)[2 * i]? = some (hexd (b.toNat / 16)) ∧ (hexL l)[2 * i + 1]? = some (hexd (b.toNat % 16))
 | [], i, b, h => by simp at h
 | x :: l, 0, b, h => by simp at h; subst h; simp [hexL]
 | x :: l, i + 1, b, h => by
  have := hexL_get l i b (by simpa using h)
  rw [show 2 * (i + 1) = 2 * i + 1 + 1 by omega]
  simpa [hexL] using this
def hexS (s : ByteArray) : ByteArray := ⟨(hexL s.data.toList).toArray⟩
theorem hexS_size (s : ByteArray) : (hexS s).size = 2 * s.size := by
 have := hexL_length s.data.toList
 simp [hexS]
 simpa using this
theorem implUnhex_loop (s : ByteArray) (hs : s.size ≤ 1000) (ks : List Fr) (Q : VX → Env → Prop) (hq : Run G A (.exit 0) [(0, .v (.leaf (.str (hexS s)))), (4, .v (.leaf (.sl true 1 (intR (ib s))))), (5, .v (.leaf (.int .i64 (2 * s.size)))), (15, .v (.leaf (.bool false)))] ks Q) : ∀ (d i : Nat), i + d = s.size →
  Run G A (.loop impl_Unhex.l0) [(0, .v (.leaf (.str (hexS s)))), (4, .v (.leaf (.sl true 1 (intR (preI s i))))), (5, .v (.leaf (.int .i64 (2 * i))))] ks Q
 | 0, i, h => by
  obtain rfl : i = s.size := by omega
  have hz := hexS_size s
  have e : preI s s.size = ib s := by unfold preI; rw [List.take_of_length_le (by rw [ib_length]; omega)]
  have hn : ¬ (2 * (s.size : Int)) < ((hexS s).size : Int) := by omega
  rw [e]
  refine run_loop_at impl_Unhex.l0.eq_1 ?_
  simp (maxSteps := 1000000) (disch := omega) [ip, wr, hn]
  exact hq
 | d + 1, i, h => by
  have ih := implUnhex_loop s hs ks Q hq d (i + 1) (by omega)
  have hz := hexS_size s
  have hlt : i < s.size := by omega
  have hd : s.data[i]? = some (s.data[i]'hlt) := Array.getElem?_eq_getElem hlt
  generalize s.data[i]'hlt = y at hd
  have hy := y.toNat_lt
  rw [pre_snoc (ib_get hd)] at ih
  have hd' : s.data.toList[i]? = some y := by rw [Array.getElem?_toList]; exact hd
  obtain ⟨g1, g2⟩ := hexL_get s.data.toList i y hd'
  have k1 : (hexS s).data[(2 * (i : Int)).toNat]? = some (hexd (y.toNat / 16)) := by
   rw [show (2 * (i : Int)).toNat = 2 * i by omega]
   unfold hexS
   rw [List.getElem?_toArray]
   exact g1
  have k2 : (hexS s).data[(2 * (i : Int) + 1).toNat]? = some (hexd (y.toNat % 16)) := by
   rw [show (2 * (i : Int) + 1).toNat = 2 * i + 1 by omega]
   unfold hexS
   rw [List.getElem?_toArray]
   exact g2
  have b1 := iByte (hexd (y.toNat / 16))
  have b2 := iByte (hexd (y.toNat % 16))
  rw [hexd_lt _ (by omega)] at b1
  rw [hexd_lt _ (by omega)] at b2
  have e2 : (2 : Int) ^ Nat.min 4 IntKind.i64.bits = 16 := by decide
  have e3 : Go.bits .or .i64 (((y.toNat / 16 : Nat) : Int) * 16) ((y.toNat % 16 : Nat) : Int) = (y.toNat : Int) := by
   rw [or64 4 (by omega) (by omega) (by omega) (by omega) (by omega) (by omega)]
   omega
  have c1 : ¬ ((y.toNat / 16 : Nat) : Int) < 0 := by omega
  have c2 : ¬ ((y.toNat % 16 : Nat) : Int) < 0 := by omega
  have hw : IntKind.u8.wrap (y.toNat : Int) = (y.toNat : Int) := wrap_u8 (by omega) (by omega)
  have hlen := pre_length (s := s) (k := i) (by omega)
  have hl2 : (2 * (i : Int)) < ((hexS s).size : Int) := by omega
  have ei : 2 * (i : Int) + 2 = 2 * ((i + 1 : Nat) : Int) := by omega
  generalize hA : y.toNat / 16 = a at *
  generalize hB : y.toNat % 16 = b at *
  generalize hexd a = ha at *
  generalize hexd b = hb at *
  generalize hexS s = H at *
  generalize preI s i = P at *
  refine run_loop_at impl_Unhex.l0.eq_1 ?_
  simp (maxSteps := 1000000) (disch := omega) [ip, wr, -vb_or, vbO, hl2, k1, k2, b1, b2, e2, e3, c1, c2, hw]
  refine run_env ih ?_
  simp
  omega
theorem implUnhex (s : ByteArray) (hs : s.size ≤ 1000) : A 13 [.leaf (.str (hexS s))] = some ([.leaf (.str s), .leaf (.bool true)], [.gone]) := by
 have hz := hexS_size s
 have em : ((hexS s).size : Int).tmod 2 = 0 := by rw [Int.tmod_eq_emod_of_nonneg (by omega)]; omega
 have e := bytesOf_intR (ib s)
 have e2 : (⟨(u8s (ib s)).toArray⟩ : ByteArray) = s := strI_ib s
 have L := implUnhex_loop s hs
 refine run_impl_Unhex ?_
 generalize hexS s = H at *
 simp (maxSteps := 1000000) (disch := omega) [ip, wr, impl_Unhex.b, em]
 refine run_env (L _ _ ?_ s.size 0 (by omega)) ?_
 ·generalize u8s (ib s) = R at *
  generalize ib s = I at *
  simp (maxSteps := 1000000) (disch := omega) [ip, wr, e, e2]
 ·simp [preI]
theorem specVar_loop (ks : List Fr) (Q : VX → Env → Prop) (hq : ∀ (y : Int) (l : List Int), l.length ≤ 6 → Run G A (.exit 0) [(0, .v (.leaf (.int .i64 y))), (3, .v (.leaf (.sl true 1 (intR l)))), (9, .v (.leaf (.bool false)))] ks Q) : ∀ (d : Nat) (x : Int) (l : List Int), 0 ≤ x → x < 9223372036854775808 → x < 128 ^ (d + 1) → l.length + d ≤ 6 →
  Run G A (.loop spec_Var.l0) [(0, .v (.leaf (.int .i64 x))), (3, .v (.leaf (.sl true 1 (intR l))))] ks Q
 | 0, x, l, h0, h1, h2, hl => by
  rw [show (0 + 1 : Nat) = 1 from rfl, Int.pow_succ, Int.pow_zero] at h2
  have hq := hq x l (by omega)
  have hn : ¬ 128 ≤ x := by omega
  refine run_loop_at spec_Var.l0.eq_1 ?_
  simp (maxSteps := 1000000) (disch := omega) [ip, wr, hn]
  exact hq
 | d + 1, x, l, h0, h1, h2, hl => by
  refine run_loop_at spec_Var.l0.eq_1 ?_
  by_cases hx : 128 ≤ x
  ·have e1 : x.tmod 128 = x % 128 := Int.tmod_eq_emod_of_nonneg h0
   have e2 : x.tdiv 128 = x / 128 := Int.tdiv_eq_ediv_of_nonneg h0
   have ih := specVar_loop ks Q hq d (x / 128) (l ++ [128 + x % 128]) (by omega) (by omega) (by rw [Int.pow_succ] at h2; omega) (by simp; omega)
   simp (maxSteps := 1000000) (disch := omega) [ip, wr, hx, e1, e2]
   refine run_env ih ?_
   simp
  ·have hq := hq x l (by omega)
   simp (maxSteps := 1000000) (disch := omega) [ip, wr, hx]
   exact hq
theorem specVar_ex (x : Int) : ∃ s : ByteArray, s.size ≤ 7 ∧ A 26 [.leaf (.int .i64 x)] = some ([.leaf (.str s)], [.gone]) := by
 obtain ⟨rs, os, h1, rfl, s, hs, rfl⟩ : ∃ rs os, A 26 [.leaf (.int .i64 x)] = some (rs, os) ∧ os = [.gone] ∧ ∃ s : ByteArray, s.size ≤ 7 ∧ rs = [.leaf (.str s)] := by
  have hR := l1In x 0 562949953421311
  refine runE_spec_Var ?_
  by_cases h : 0 ≤ x ∧ x ≤ 562949953421311
  ·rw [decide_eq_true h] at hR
   simp (maxSteps := 1000000) (disch := omega) [ip, wr, spec_Var.b, hR]
   refine run_env (specVar_loop _ _ (fun y l hl => ?_) 6 x [] h.1 (by omega) (by show x < 562949953421312; omega) (by decide)) ?_
   ·have e2 := bytesOf_intR (l ++ [IntKind.u8.wrap y])
    have hu : (u8s (l ++ [IntKind.u8.wrap y])).length ≤ 7 := by simp [u8s]; omega
    simp only [intR, List.map_append, List.map_cons, List.map_nil] at e2
    generalize u8s (l ++ [IntKind.u8.wrap y]) = R at *
    simp (maxSteps := 1000000) (disch := omega) [ip, wr, e2]
    exact hu
   ·simp
  ·rw [decide_eq_false h] at hR
   simp (maxSteps := 1000000) (disch := omega) [ip, wr, spec_Var.b, hR]
 exact ⟨s, hs, h1⟩
end Go.Proofs.YticecjjfbjnaaaaDoor.FN
