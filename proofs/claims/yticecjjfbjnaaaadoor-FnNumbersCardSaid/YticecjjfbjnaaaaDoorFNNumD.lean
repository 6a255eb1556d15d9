/- What the reference draws for numbers. -/
import Derived.Test.YticecjjfbjnaaaaDoorFNNumBy
namespace Go.Proofs.YticecjjfbjnaaaaDoor.FN
open Go Go.VS Go.Lib
set_option maxRecDepth 10000
set_option maxHeartbeats 8000000
set_option linter.unusedSimpArgs false
set_option linter.unusedVariables false
theorem wrap_in (n : Int) : -9223372036854775808 ≤ IntKind.i64.wrap n ∧ IntKind.i64.wrap n ≤ 9223372036854775807 := by
 have e : IntKind.i64.wrap n = if n % 18446744073709551616 ≥ 9223372036854775808 then n % 18446744073709551616 - 18446744073709551616 else n % 18446744073709551616 := by
  simp [IntKind.wrap, IntKind.bits, IntKind.signed]
 rw [e]
 split <;> omega
theorem text_loop (b : List UInt8) (hb : (b.length : Int) ≤ 1000000000) (ks : List Fr) (Q : VX → Env → Prop) (style : Int) (M : Nat) (hM : M ≤ 1000) (hq : ∀ (l : List Int) (i h : Int), 0 ≤ i → l.length ≤ M → Run G A (.exit 0) [(0, .v (.box (curR b i h))), (5, .v (.leaf (.sl true 1 (intR l)))), (6, .v (.leaf (.int .i64 style))), (7, .v (.leaf (.int .i64 0))), (17, .v (.leaf (.bool false)))] ks Q) :
  ∀ (n : Nat) (l : List Int) (i h : Int), 0 ≤ i → l.length + n ≤ M → Run G A (.loop spec_l1Text.l0) [(0, .v (.box (curR b i h))), (5, .v (.leaf (.sl true 1 (intR l)))), (6, .v (.leaf (.int .i64 style))), (7, .v (.leaf (.int .i64 n)))] ks Q
 | 0, l, i, h, h0, hn => by
  have hq := hq l i h h0 (by omega)
  refine run_loop_at spec_l1Text.l0.eq_1 ?_
  simp (maxSteps := 1000000) (disch := omega) [ip, wr, ]
  exact hq
 | n + 1, l, i, h, h0, hn => by
  have ih := text_loop b hb ks Q style M hM hq n
  have e1 := l1Byte hb (h := h) h0
  have hx := byteP_in hb (h := h) h0
  generalize byteP b i h = r at *
  obtain ⟨x, i1, h1⟩ := r
  simp only at e1 hx
  have t2 : x.tmod 2 = x % 2 := Int.tmod_eq_emod_of_nonneg hx.1
  have t4 : x.tmod 4 = x % 4 := Int.tmod_eq_emod_of_nonneg hx.1
  have en : ((n : Int) + 1 - 1) = n := by omega
  have hx0 := hx.1
  have hx1 := hx.2
  refine run_loop_at spec_l1Text.l0.eq_1 ?_
  by_cases s1 : style = 1
  ·simp (maxSteps := 1000000) (disch := omega) [ip, wr, e1, s1, t2, en]
   refine run_env (ih (l ++ [x % 2]) i1 h1 (by omega) (by simp; omega)) ?_
   simp [s1]
  ·by_cases s2 : style = 2
   ·simp (maxSteps := 1000000) (disch := omega) [ip, wr, e1, s2, t4, en]
    refine run_env (ih (l ++ [97 + x % 4]) i1 h1 (by omega) (by simp; omega)) ?_
    simp [s2]
   ·simp (maxSteps := 1000000) (disch := omega) [ip, wr, e1, s1, s2, en]
    refine run_env (ih (l ++ [x]) i1 h1 (by omega) (by simp; omega)) ?_
    simp
theorem l1Text_ex (b : List UInt8) (hb : (b.length : Int) ≤ 1000000000) (i h : Int) (most : Nat) (hm : most ≤ 1000) (h0 : 0 ≤ i) : ∃ r : ByteArray × Nat × Int, r.1.size ≤ most ∧ A 18 [.box (curR b i h), .leaf (.int .i64 most)] = some ([.leaf (.str r.1)], [.box (curR b r.2.1 r.2.2), .gone]) := by
 obtain ⟨rs, os, e1, s, i', h', hs, rfl, rfl⟩ : ∃ rs os, A 18 [.box (curR b i h), .leaf (.int .i64 most)] = some (rs, os) ∧ ∃ (s : ByteArray) (i' : Nat) (h' : Int), s.size ≤ most ∧ rs = [.leaf (.str s)] ∧ os = [.box (curR b i' h'), .gone] := by
  refine runE_spec_l1Text ?_
  have e1 := l1Below hb (h := h) h0 4
  generalize belowP b i h 4 = r at *
  obtain ⟨style, i1, h1⟩ := r
  have e2 := l1Below hb (i := i1) (h := h1) (by omega) ((most : Int) + 1)
  have hx := (belowP_in hb (i := i1) (h := h1) (by omega) ((most : Int) + 1)).2 (by omega)
  generalize belowP b i1 h1 ((most : Int) + 1) = r2 at *
  obtain ⟨n, i2, h2⟩ := r2
  simp only at e1 e2 hx
  simp (maxSteps := 1000000) (disch := omega) [ip, wr, spec_l1Text.b, e1, e2]
  refine run_env (text_loop b hb _ _ style most hm (fun l i h h0 hl => ?_) n.toNat [] i2 h2 (by omega) (by simp; omega)) ?_
  ·have e3 := bytesOf_intR l
   have hu : (u8s l).length ≤ most := by simp [u8s]; omega
   have hi : ((i.toNat : Nat) : Int) = i := by omega
   generalize u8s l = R at *
   simp (maxSteps := 1000000) (disch := omega) [ip, wr, e3]
   exact ⟨_, (by simpa using hu), rfl, i.toNat, hi.symm⟩
  ·simp
   omega
 exact ⟨(s, i', h'), hs, e1⟩
theorem l1Num_ex (b : List UInt8) (hb : (b.length : Int) ≤ 1000000000) (i h : Int) (h0 : 0 ≤ i) : ∃ r : Int × Nat × Int, (-9223372036854775808 ≤ r.1 ∧ r.1 ≤ 9223372036854775807) ∧ A 17 [.box (curR b i h)] = some ([.leaf (.int .i64 r.1)], [.box (curR b r.2.1 r.2.2)]) := by
 obtain ⟨rs, os, e1, n, i', h', hs, rfl, rfl⟩ : ∃ rs os, A 17 [.box (curR b i h)] = some (rs, os) ∧ ∃ (n : Int) (i' : Nat) (h' : Int), (-9223372036854775808 ≤ n ∧ n ≤ 9223372036854775807) ∧ rs = [.leaf (.int .i64 n)] ∧ os = [.box (curR b i' h')] := by
  refine runE_spec_l1Num ?_
  have be := fun (i h : Int) (h0 : 0 ≤ i) => l1Below hb (h := h) h0
  have bi := fun (i h : Int) (h0 : 0 ≤ i) (n : Int) => belowP_in hb (h := h) h0 n
  have pi := fun (i h : Int) (h0 : 0 ≤ i) => l1PickInt hb (h := h) h0 (l := [-1, 0, 127, 128, 255, 256, 16383, 16384, 65535, 65536, 562949953421311, 562949953421312, 999999999, 1000000000, -999999999, 9223372036854775807, -9223372036854775808]) (by decide)
  have pn := fun (i h : Int) (h0 : 0 ≤ i) => pickI_in hb (h := h) h0 (l := [-1, 0, 127, 128, 255, 256, 16383, 16384, 65535, 65536, 562949953421311, 562949953421312, 999999999, 1000000000, -999999999, 9223372036854775807, -9223372036854775808]) (by decide) (-9223372036854775808) 9223372036854775807 (by decide)
  simp only [Kints, List.map_cons, List.map_nil, List.length_cons, List.length_nil] at pi
  have b1 := bi i h h0 8
  have b2 := bi _ (belowP b i h 8).2.2 (show 0 ≤ ((belowP b i h 8).2.1 : Int) by omega) 100000
  have b2 := b2.2 (by decide)
  have b3 := bi _ (belowP b i h 8).2.2 (show 0 ≤ ((belowP b i h 8).2.1 : Int) by omega) 70000
  have b3 := b3.2 (by decide)
  simp (maxSteps := 1000000) (disch := omega) [ip, wr, spec_l1Num.b, be, pi, h0]
  all_goals repeat' ((first | refine runD_cases (fun hcz => ?_) (fun hcz => ?_) | refine gopB_cases (fun hcz => ?_) (fun hcz => ?_) | refine gopB_drawn (fun hcz => ?_) (fun hcz => ?_)) <;> (try simp only [decide_eq_true_eq, decide_eq_false_iff_not, Bool.not_eq_true', Bool.not_eq_false', Bool.not_eq_true, Bool.not_eq_false] at hcz) <;> (try simp (maxSteps := 1000000) (disch := omega) [ip, wr, hcz, be, pi, h0]))
  all_goals first | exact ⟨_, pn _ _ (by omega), rfl, _, rfl⟩ | exact ⟨_, wrap_in _, rfl, _, rfl⟩ | exact ⟨_, by omega, rfl, _, rfl⟩
 exact ⟨(n, i', h'), hs, e1⟩
theorem l1Spoil_ex (b : List UInt8) (hb : (b.length : Int) ≤ 1000000000) (i h : Int) (s : ByteArray) (hs : s.size ≤ 1000) (h0 : 0 ≤ i) : ∃ r : ByteArray × Nat × Int, A 28 [.box (curR b i h), .leaf (.str s)] = some ([.leaf (.str r.1)], [.box (curR b r.2.1 r.2.2), .gone]) := by
 obtain ⟨rs, os, e1, t, i', h', rfl, rfl⟩ : ∃ rs os, A 28 [.box (curR b i h), .leaf (.str s)] = some (rs, os) ∧ ∃ (t : ByteArray) (i' : Nat) (h' : Int), rs = [.leaf (.str t)] ∧ os = [.box (curR b i' h'), .gone] := by
  refine runE_spec_l1Spoil ?_
  by_cases hz : (s.size : Int) = 0
  ·obtain ⟨r, _, hr⟩ := l1Text_ex b hb i h 3 (by decide) h0
   have hz' : s.size = 0 := by omega
   have hr : A 18 [.box (curR b i h), .leaf (.int .i64 3)] = some ([.leaf (.str r.1)], [.box (curR b r.2.1 r.2.2), .gone]) := hr
   generalize r.1 = r1 at *
   simp (maxSteps := 1000000) (disch := omega) [ip, wr, spec_l1Spoil.b, hz, hz', hr]
   exact ⟨_, rfl⟩
  ·have hz' : ¬ s.size = 0 := by omega
   have be := fun (i h : Int) (h0 : 0 ≤ i) => l1Below hb (h := h) h0
   have by_ := fun (i h : Int) (h0 : 0 ≤ i) => l1Byte hb (h := h) h0
   have hx := (belowP_in hb (h := h) h0 (s.size : Int)).2 (by omega)
   have e1 := l1Below hb (h := h) h0 (s.size : Int)
   generalize belowP b i h (s.size : Int) = r at *
   obtain ⟨k, i1, h1⟩ := r
   simp only at hx e1
   obtain ⟨hx0, hx1⟩ := hx
   have hkn : k.toNat < s.size := by omega
   have hd : s.data[k.toNat]? = some (s.data[k.toNat]'hkn) := Array.getElem?_eq_getElem hkn
   generalize s.data[k.toNat]'hkn = y at hd
   simp (maxSteps := 1000000) (disch := omega) [ip, wr, spec_l1Spoil.b, e1, be, by_, hz, hz', hx0, hx1, hd, hkn]
   all_goals repeat' ((first | refine runD_cases (fun hcz => ?_) (fun hcz => ?_) | refine gopB_cases (fun hcz => ?_) (fun hcz => ?_) | refine gopB_drawn (fun hcz => ?_) (fun hcz => ?_)) <;> (try simp only [decide_eq_true_eq, decide_eq_false_iff_not, Bool.not_eq_true', Bool.not_eq_false', Bool.not_eq_true, Bool.not_eq_false] at hcz) <;> (try simp (maxSteps := 1000000) (disch := omega) [ip, wr, hcz, e1, be, by_, hz, hz', hx0, hx1, hd, hkn]))
   all_goals exact ⟨_, rfl⟩
 exact ⟨(t, i', h'), e1⟩
abbrev codeR (b : List UInt8) : CV := .leaf (.sl false 1 (b.map fun x : UInt8 => [L.int .u8 x.toNat]))
theorem drawVar (b : List UInt8) (hb : (b.length : Int) ≤ 1000000000) : ∃ n : Int, (-9223372036854775808 ≤ n ∧ n ≤ 9223372036854775807) ∧ A 5 [codeR b] = some ([.leaf (.int .i64 n)], [.gone]) := by
 obtain ⟨h, e1⟩ := l1New b hb
 obtain ⟨r, hr, e2⟩ := l1Num_ex b hb 0 h (Int.le_refl _)
 refine ⟨r.1, hr, run_spec_DrawVar ?_⟩
 generalize r.1 = n at *
 simp (maxSteps := 1000000) (disch := omega) [ip, wr, spec_DrawVar.b, e1, e2]
theorem drawHex (b : List UInt8) (hb : (b.length : Int) ≤ 1000000000) : ∃ s : ByteArray, s.size ≤ 40 ∧ A 6 [codeR b] = some ([.leaf (.str s)], [.gone]) := by
 obtain ⟨h, e1⟩ := l1New b hb
 obtain ⟨r, hr, e2⟩ := l1Text_ex b hb 0 h 40 (by decide) (Int.le_refl _)
 have e2 : A 18 [.box (curR b 0 h), .leaf (.int .i64 40)] = some ([.leaf (.str r.1)], [.box (curR b r.2.1 r.2.2), .gone]) := e2
 refine ⟨r.1, hr, run_spec_DrawHex ?_⟩
 generalize r.1 = n at *
 simp (maxSteps := 1000000) (disch := omega) [ip, wr, spec_DrawHex.b, e1, e2]
theorem drawReadVar (b : List UInt8) (hb : (b.length : Int) ≤ 1000000000) : ∃ s : ByteArray, A 15 [codeR b] = some ([.leaf (.str s)], [.gone]) := by
 obtain ⟨h, e1⟩ := l1New b hb
 obtain ⟨⟨n, i1, h1⟩, _, e2⟩ := l1Num_ex b hb 0 h (Int.le_refl _)
 obtain ⟨a, ha, e3⟩ := specVar_ex n
 obtain ⟨⟨t, i2, h2⟩, ht, e4⟩ := l1Text_ex b hb i1 h1 4 (by decide) (by omega)
 have e5 := l1Once hb (i := i2) (h := h2) (by omega) 4
 generalize belowP b i2 h2 4 = r at *
 obtain ⟨k, i3, h3⟩ := r
 have hs : (a ++ t).size ≤ 1000 := by rw [ByteArray.size_append]; simp only at ht; omega
 obtain ⟨⟨u, i4, h4⟩, e6⟩ := l1Spoil_ex b hb i3 h3 (a ++ t) hs (by omega)
 have e4 : A 18 [.box (curR b i1 h1), .leaf (.int .i64 4)] = some ([.leaf (.str t)], [.box (curR b i2 h2), .gone]) := e4
 simp only at e2 e5 e6 ht
 by_cases hk : k = 0
 ·rw [decide_eq_true hk] at e5
  refine ⟨u, run_spec_DrawReadVar ?_⟩
  simp (maxSteps := 1000000) (disch := omega) [ip, wr, spec_DrawReadVar.b, e1, e2, e3, e4, e5, e6]
 ·rw [decide_eq_false hk] at e5
  refine ⟨a ++ t, run_spec_DrawReadVar ?_⟩
  simp (maxSteps := 1000000) (disch := omega) [ip, wr, spec_DrawReadVar.b, e1, e2, e3, e4, e5]
theorem implDec (n : Int) (h0 : -9223372036854775808 ≤ n) (h1 : n ≤ 9223372036854775807) : A 12 [.leaf (.int .i64 n)] = some ([.leaf (.str (str (itoa n)))], [.gone]) := by
 have h := P_strconv_Itoa (cs := [.leaf (.int .i64 n)]) (r := ([.leaf (.str (str (itoa n)))], [.gone])) (by simp only [prim_strconv_Itoa, runItoa]; rw [if_pos ⟨h0, h1⟩]; rfl)
 refine run_impl_Dec ?_
 simp (maxSteps := 1000000) (disch := omega) [ip, wr, impl_Dec.b, h]
end Go.Proofs.YticecjjfbjnaaaaDoor.FN
