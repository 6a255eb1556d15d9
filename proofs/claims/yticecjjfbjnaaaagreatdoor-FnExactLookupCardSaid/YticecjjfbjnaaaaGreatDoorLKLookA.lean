/- What a name stands for in a right system: the program's and the reference's tell the same. -/
import Derived.Test.YticecjjfbjnaaaaGreatDoorLKSysB
namespace Go.Proofs.YticecjjfbjnaaaaGreatDoor.LK
open Go Go.VS Go.Lib
set_option maxRecDepth 10000
set_option maxHeartbeats 8000000
set_option linter.unusedSimpArgs false
set_option linter.unusedVariables false
def zeroV : KValue := ⟨0, 0, ⟨#[]⟩⟩
def valAt (l : List KValue) (j : Int) : KValue := l.getD j.toNat zeroV
def instAt (y : KSys) (j : Int) : KInst := y.insts.getD j.toNat ⟨⟨#[]⟩, 0, [], [], [], []⟩
/-- What a library has itself under a name. -/
def ownV (x : KInst) (n : ByteArray) : KValue := if 0 ≤ strIdx x.names n 0 then valAt x.vals (strIdx x.names n 0) else zeroV
def linkV (y : KSys) (n : ByteArray) : List KLink → KValue
 | [] => zeroV
 | l :: ls => if l.name = n then ownV (instAt y l.inst) l.at_ else linkV y n ls
def lookV (y : KSys) (home : Int) (n : ByteArray) : KValue := if 0 ≤ strIdx (instAt y home).names n 0 then valAt (instAt y home).vals (strIdx (instAt y home).names n 0) else linkV y n (instAt y home).links
noncomputable def lookB (y : KSys) (home : Int) (n : ByteArray) : KValue := if (within 0 ((y.insts.length : Int) - 1) home && sysB y) = true then lookV y home n else zeroV
theorem linkV_none (y : KSys) (n : ByteArray) : ∀ l : List KLink, (∀ x ∈ l, ¬ x.name = n) → linkV y n l = zeroV
 | [], _ => rfl
 | x :: l, h => by unfold linkV; rw [if_neg (h x (by simp)), linkV_none y n l fun z hz => h z (by simp [hz])]
theorem linkV_at (y : KSys) (n : ByteArray) : ∀ (l : List KLink) (i : Nat) (x : KLink) (k : Int), 0 ≤ k → l[i]? = some x → findB (fun z : KLink => decide (z.name = n)) l k = k + i → linkV y n l = ownV (instAt y x.inst) x.at_
 | [], i, x, k, _, h, _ => by simp at h
 | z :: l, i, x, k, hk, h, hf => by
  unfold findB at hf
  unfold linkV
  by_cases hz : z.name = n
  ·rw [if_pos (by simpa using hz)] at hf
   have : i = 0 := by omega
   subst this
   simp at h
   subst h
   rw [if_pos hz]
  ·rw [if_neg (by simpa using hz)] at hf
   rw [if_neg hz]
   cases i with
   | zero =>
    rcases findB_cases (fun z : KLink => decide (z.name = n)) l (k + 1) (by omega) with ⟨h1, _⟩ | ⟨j, w, _, _, h3⟩
    ·omega
    ·omega
   | succ i => exact linkV_at y n l i x (k + 1) (by omega) (by simpa using h) (by rw [hf]; omega)
theorem strIdx_lt : ∀ (l : List ByteArray) (n : ByteArray) (k : Int), 0 ≤ k → strIdx l n k < k + l.length ∧ -1 ≤ strIdx l n k
 | [], n, k, hk => by simp [strIdx]; omega
 | x :: l, n, k, hk => by
  unfold strIdx
  have := strIdx_lt l n (k + 1) (by omega)
  simp only [List.length_cons]
  split <;> omega
theorem inst_of {y : KSys} (h : sysB y = true) {i : Nat} {x : KInst} (hx : y.insts[i]? = some x) : instB y i x = true := by
 unfold sysB at h
 simp only [Bool.and_eq_true] at h
 have := fromB_get (instB y) y.insts 0 i x h.2.2.2.2.1 hx
 simpa using this
theorem vals_of {y : KSys} (h : sysB y = true) {i : Nat} {x : KInst} (hx : y.insts[i]? = some x) : x.vals.length = x.names.length := by
 have := inst_of h hx
 unfold instB at this
 simp only [Bool.and_eq_true, decide_eq_true_eq] at this
 exact this.2.2.2.1
theorem link_of {y : KSys} (h : sysB y = true) {i : Nat} {x : KInst} (hx : y.insts[i]? = some x) {j : Nat} {l : KLink} (hl : x.links[j]? = some l) : 0 ≤ l.inst ∧ l.inst < y.insts.length := by
 have := inst_of h hx
 unfold instB at this
 simp only [Bool.and_eq_true, decide_eq_true_eq] at this
 have h2 := this.2.2.2.2.1
 unfold linksB at h2
 simp only [Bool.and_eq_true] at h2
 have h3 := List.all_eq_true.1 h2.1 l (List.mem_of_getElem? hl)
 unfold linkB at h3
 simp only [Bool.and_eq_true, within, decide_eq_true_eq] at h3
 omega
theorem instAt_get {y : KSys} {j : Int} {x : KInst} (h : y.insts[j.toNat]? = some x) : instAt y j = x := by simp [instAt, List.getD_eq_getElem?_getD, h]
theorem valAt_get {l : List KValue} {j : Int} {v : KValue} (h : l[j.toNat]? = some v) : valAt l j = v := by simp [valAt, List.getD_eq_getElem?_getD, h]
theorem names_le {y : KSys} {i : Nat} {x : KInst} (hw : (KSys.w y : Int) ≤ 1048576) (hx : y.insts[i]? = some x) : (x.names.length : Int) ≤ 1048576 ∧ (x.links.length : Int) ≤ 1048576 := by
 have hxu := insts_at hx
 obtain ⟨w1, w2, w3, w4⟩ := sysw hw
 simp only [KInst.w] at hxu
 constructor <;> omega
theorem implOwn (y : KSys) (j : Int) (x : KInst) (n : ByteArray) (hx : y.insts[j.toNat]? = some x) (h0 : 0 ≤ j) (hl : (x.names.length : Int) ≤ 1048576) : A 156 [.box (KSys.row false y), .leaf (.int .i64 j), .leaf (.str n)] = some ([.leaf (.int .i64 (strIdx x.names n 0))], [.box (KSys.row false y), .gone, .gone]) := by
 have h1 := sIndex x.names n hl
 refine run_impl_Sys_own ?_
 generalize strIdx x.names n 0 = k at *
 simp (maxSteps := 1000000) (disch := omega) [ip, wr, impl_Sys_own.b, hx, at_get hx, h0, h1]
theorem implLookupR (y : KSys) (home : Int) (n : ByteArray) (hk : sysB y = true) (h0 : 0 ≤ home) (h1 : home < y.insts.length) (hw : (KSys.w y : Int) ≤ 1048576) : A 98 [.box (KSys.row false y), .leaf (.int .i64 home), .leaf (.str n)] = some ([.agg (KValue.row false (lookV y home n)), .leaf (.bool (!isZero (lookV y home n)))], [.box (KSys.row false y), .gone, .gone]) := by
 have hi : home.toNat < y.insts.length := by omega
 have hx : y.insts[home.toNat]? = some y.insts[home.toNat] := List.getElem?_eq_getElem hi
 generalize y.insts[home.toNat] = x at hx
 have hN := names_le hw hx
 have hv := vals_of hk hx
 have ho := implOwn y home x n hx h0 hN.1
 have hs := strIdx_lt x.names n 0 (by omega)
 unfold lookV
 rw [instAt_get hx]
 refine run_impl_Sys_lookup ?_
 by_cases hm : 0 ≤ strIdx x.names n 0
 ·rw [if_pos hm]
  have hvl : (strIdx x.names n 0).toNat < x.vals.length := by omega
  have hvx : x.vals[(strIdx x.names n 0).toNat]? = some x.vals[(strIdx x.names n 0).toNat] := List.getElem?_eq_getElem hvl
  generalize x.vals[(strIdx x.names n 0).toNat] = v at hvx
  rw [valAt_get hvx]
  generalize strIdx x.names n 0 = k at *
  simp (maxSteps := 1000000) (disch := omega) [ip, wr, impl_Sys_lookup.b, ho, hm, hx, at_get hx, hvx, at_get hvx, h0, isZero]
 ·rw [if_neg hm]
  generalize strIdx x.names n 0 = k at *
  simp (maxSteps := 1000000) (disch := omega) [ip, wr, impl_Sys_lookup.b, ho, hm, hx, at_get hx, h0]
  refine at_find 44 impl_Sys_lookup.l0.eq_1 (fun z : KLink => decide (z.name = n)) x.links (by simp) (fun g ha => ?_) (fun i l hl hi2 hp ih => ?_) (fun i l hl hi2 hp g => ?_)
  ·rw [linkV_none y n x.links (fun z hz => by simpa using List.all_eq_true.1 ha z hz)]
   simp (maxSteps := 1000000) (disch := omega) [ip, wr, zeroV, isZero]
  ·have hp : ¬ l.name = n := by simpa using hp
   simp (maxSteps := 1000000) (disch := omega) [ip, wr, hl, at_get hl, hp]
   refine run_env ih ?_
   simp
  ·have hp : l.name = n := by simpa using hp
   rw [linkV_at y n x.links i l 0 (Int.le_refl _) hl (by rw [g]; omega)]
   obtain ⟨b0, b1⟩ := link_of hk hx hl
   have hj : l.inst.toNat < y.insts.length := by omega
   have hz : y.insts[l.inst.toNat]? = some y.insts[l.inst.toNat] := List.getElem?_eq_getElem hj
   generalize y.insts[l.inst.toNat] = z at hz
   have hN2 := names_le hw hz
   have hv2 := vals_of hk hz
   have ho2 := implOwn y l.inst z l.at_ hz b0 hN2.1
   have hs2 := strIdx_lt z.names l.at_ 0 (by omega)
   rw [instAt_get hz]
   unfold ownV
   by_cases hm2 : 0 ≤ strIdx z.names l.at_ 0
   ·rw [if_pos hm2]
    have hvl : (strIdx z.names l.at_ 0).toNat < z.vals.length := by omega
    have hvx : z.vals[(strIdx z.names l.at_ 0).toNat]? = some z.vals[(strIdx z.names l.at_ 0).toNat] := List.getElem?_eq_getElem hvl
    generalize z.vals[(strIdx z.names l.at_ 0).toNat] = v at hvx
    rw [valAt_get hvx]
    generalize strIdx z.names l.at_ 0 = k2 at *
    simp (maxSteps := 1000000) (disch := omega) [ip, wr, hl, at_get hl, hp, ho2, hm2, hz, at_get hz, hvx, at_get hvx, b0, isZero]
   ·rw [if_neg hm2]
    generalize strIdx z.names l.at_ 0 = k2 at *
    simp (maxSteps := 1000000) (disch := omega) [ip, wr, hl, at_get hl, hp, ho2, hm2, b0, zeroV, isZero]
theorem implLookup (y : KSys) (home : Int) (n : ByteArray) (hw : (KSys.w y : Int) ≤ 1048576) : A 41 [.agg (KSys.row false y), .leaf (.int .i64 home), .leaf (.str n)] = some ([.agg (KValue.row false (lookB y home n)), .leaf (.bool (!isZero (lookB y home n)))], [.gone, .gone, .gone]) := by
 have hP := implSysOk y hw
 have hR := inRange' home 0 ((y.insts.length : Int) - 1)
 obtain ⟨w1, w2, w3, w4⟩ := sysw hw
 unfold lookB
 refine run_impl_Lookup ?_
 cases p1 : within 0 ((y.insts.length : Int) - 1) home with
 | false =>
  rw [p1] at hR
  simp (maxSteps := 1000000) (disch := omega) [ip, wr, impl_Lookup.b, hR, zeroV, isZero]
 | true =>
  rw [p1] at hR
  cases p2 : sysB y with
  | false =>
   rw [p2] at hP
   simp (maxSteps := 1000000) (disch := omega) [ip, wr, impl_Lookup.b, hR, hP, zeroV, isZero]
  | true =>
   rw [p2] at hP
   simp only [within, decide_eq_true_eq] at p1
   have h2 := implLookupR y home n p2 p1.1 (by omega) hw
   simp only [Bool.and_self, if_true]
   generalize lookV y home n = v at *
   generalize isZero v = b at *
   simp (maxSteps := 1000000) (disch := omega) [ip, wr, impl_Lookup.b, hR, hP, h2]
theorem strIdx_find : ∀ (l : List ByteArray) (n : ByteArray) (k : Int), strIdx l n k = findB (fun s : ByteArray => decide (s = n)) l k
 | [], n, k => rfl
 | x :: l, n, k => by
  unfold strIdx findB
  rw [strIdx_find l n (k + 1)]
  by_cases h : x = n
  ·simp [h]
  ·have h2 : ¬ n = x := fun e => h e.symm
   simp [h, h2]
theorem l8Name (x : KInst) (n : ByteArray) (hl : (x.names.length : Int) ≤ 1048576) : A 152 [.agg (KInst.row false x), .leaf (.str n)] = some ([.leaf (.int .i64 (strIdx x.names n 0))], [.gone, .gone]) := by
 rw [strIdx_find]
 refine run_spec_l8Name ?_
 simp (maxSteps := 1000000) (disch := omega) [ip, wr, spec_l8Name.b]
 refine at_find 5 spec_l8Name.l0.eq_1 (fun s : ByteArray => decide (s = n)) x.names (by simp) (fun g _ => ?_) (fun i s hs hi hp ih => ?_) (fun i s hs hi hp g => ?_)
 ·simp (maxSteps := 1000000) (disch := omega) [ip, wr, g]
 ·have hp : ¬ s = n := by simpa using hp
  simp (maxSteps := 1000000) (disch := omega) [ip, wr, hs, at_get hs, hp]
  refine run_env ih ?_
  simp
 ·have hp : s = n := by simpa using hp
  simp (maxSteps := 1000000) (disch := omega) [ip, wr, hs, at_get hs, hp, g]
theorem specLookupR (y : KSys) (home : Int) (n : ByteArray) (hk : sysB y = true) (h0 : 0 ≤ home) (h1 : home < y.insts.length) (hw : (KSys.w y : Int) ≤ 1048576) : A 93 [.agg (KSys.row false y), .leaf (.int .i64 home), .leaf (.str n)] = some ([.agg (KValue.row false (lookV y home n)), .leaf (.bool (!isZero (lookV y home n)))], [.gone, .gone, .gone]) := by
 have hi : home.toNat < y.insts.length := by omega
 have hx : y.insts[home.toNat]? = some y.insts[home.toNat] := List.getElem?_eq_getElem hi
 generalize y.insts[home.toNat] = x at hx
 have hN := names_le hw hx
 have hv := vals_of hk hx
 have ho := l8Name x n hN.1
 have hs := strIdx_lt x.names n 0 (by omega)
 unfold lookV
 rw [instAt_get hx]
 refine run_spec_l8Look ?_
 by_cases hm : 0 ≤ strIdx x.names n 0
 ·rw [if_pos hm]
  have hvl : (strIdx x.names n 0).toNat < x.vals.length := by omega
  have hvx : x.vals[(strIdx x.names n 0).toNat]? = some x.vals[(strIdx x.names n 0).toNat] := List.getElem?_eq_getElem hvl
  generalize x.vals[(strIdx x.names n 0).toNat] = v at hvx
  rw [valAt_get hvx]
  generalize strIdx x.names n 0 = k at *
  simp (maxSteps := 1000000) (disch := omega) [ip, wr, spec_l8Look.b, ho, hm, hx, at_get hx, hvx, at_get hvx, h0, isZero]
 ·rw [if_neg hm]
  generalize strIdx x.names n 0 = k at *
  simp (maxSteps := 1000000) (disch := omega) [ip, wr, spec_l8Look.b, ho, hm, hx, at_get hx, h0]
  refine at_find 10 spec_l8Look.l0.eq_1 (fun z : KLink => decide (z.name = n)) x.links (by simp) (fun g ha => ?_) (fun i l hl hi2 hp ih => ?_) (fun i l hl hi2 hp g => ?_)
  ·rw [linkV_none y n x.links (fun z hz => by simpa using List.all_eq_true.1 ha z hz)]
   simp (maxSteps := 1000000) (disch := omega) [ip, wr, zeroV, isZero]
  ·have hp : ¬ l.name = n := by simpa using hp
   simp (maxSteps := 1000000) (disch := omega) [ip, wr, hl, at_get hl, hp]
   refine run_env ih ?_
   simp
  ·have hp : l.name = n := by simpa using hp
   rw [linkV_at y n x.links i l 0 (Int.le_refl _) hl (by rw [g]; omega)]
   obtain ⟨b0, b1⟩ := link_of hk hx hl
   have hj : l.inst.toNat < y.insts.length := by omega
   have hz : y.insts[l.inst.toNat]? = some y.insts[l.inst.toNat] := List.getElem?_eq_getElem hj
   generalize y.insts[l.inst.toNat] = z at hz
   have hN2 := names_le hw hz
   have hv2 := vals_of hk hz
   have ho2 := l8Name z l.at_ hN2.1
   have hs2 := strIdx_lt z.names l.at_ 0 (by omega)
   rw [instAt_get hz]
   unfold ownV
   by_cases hm2 : 0 ≤ strIdx z.names l.at_ 0
   ·rw [if_pos hm2]
    have hvl : (strIdx z.names l.at_ 0).toNat < z.vals.length := by omega
    have hvx : z.vals[(strIdx z.names l.at_ 0).toNat]? = some z.vals[(strIdx z.names l.at_ 0).toNat] := List.getElem?_eq_getElem hvl
    generalize z.vals[(strIdx z.names l.at_ 0).toNat] = v at hvx
    rw [valAt_get hvx]
    generalize strIdx z.names l.at_ 0 = k2 at *
    have hk2 : ¬ k2 < 0 := by omega
    simp (maxSteps := 1000000) (disch := omega) [ip, wr, hl, at_get hl, hp, ho2, hm2, hk2, hz, at_get hz, hvx, at_get hvx, b0, isZero]
   ·rw [if_neg hm2]
    generalize strIdx z.names l.at_ 0 = k2 at *
    have hk2 : k2 < 0 := by omega
    simp (maxSteps := 1000000) (disch := omega) [ip, wr, hl, at_get hl, hp, ho2, hk2, hz, at_get hz, b0, zeroV, isZero]
theorem specLookup (y : KSys) (home : Int) (n : ByteArray) (hw : (KSys.w y : Int) ≤ 1048576) : A 39 [.agg (KSys.row false y), .leaf (.int .i64 home), .leaf (.str n)] = some ([.agg (KValue.row false (lookB y home n)), .leaf (.bool (!isZero (lookB y home n)))], [.gone, .gone, .gone]) := by
 have hP := specSysOk y hw
 obtain ⟨w1, w2, w3, w4⟩ := sysw hw
 unfold lookB
 refine run_spec_Lookup ?_
 cases p2 : sysB y with
 | false =>
  rw [p2] at hP
  simp only [Bool.and_false]
  simp (maxSteps := 1000000) (disch := omega) [ip, wr, spec_Lookup.b, hP, zeroV, isZero]
 | true =>
  rw [p2] at hP
  by_cases h0 : home < 0
  ·have p1 : within 0 ((y.insts.length : Int) - 1) home = false := by simp [within]; omega
   rw [p1]
   simp (maxSteps := 1000000) (disch := omega) [ip, wr, spec_Lookup.b, hP, h0, zeroV, isZero]
  ·by_cases h1 : home < y.insts.length
   ·have p1 : within 0 ((y.insts.length : Int) - 1) home = true := by simp [within]; omega
    rw [p1]
    have h2 := specLookupR y home n p2 (by omega) h1 hw
    simp only [Bool.and_self, if_true]
    generalize lookV y home n = v at *
    generalize isZero v = b at *
    simp (maxSteps := 1000000) (disch := omega) [ip, wr, spec_Lookup.b, hP, h0, h1, h2]
   ·have p1 : within 0 ((y.insts.length : Int) - 1) home = false := by simp [within]; omega
    rw [p1]
    simp (maxSteps := 1000000) (disch := omega) [ip, wr, spec_Lookup.b, hP, h0, h1, zeroV, isZero]
end Go.Proofs.YticecjjfbjnaaaaGreatDoor.LK
