/- What the reference draws: a cursor over bytes. -/
import Derived.Test.YtjcjodcpiickaaaGreatDoorRAFam
namespace Go.Proofs.YtjcjodcpiickaaaGreatDoor.RA
open Go Go.VS Go.Lib
set_option maxRecDepth 10000
set_option maxHeartbeats 8000000
set_option linter.unusedSimpArgs false
set_option linter.unusedVariables false
/-- A cursor over the bytes of a draw. -/
abbrev curR (b : List UInt8) (i h : Int) : List L := [.sl false 1 (b.map fun x : UInt8 => [L.int .u8 x.toNat]), .int .i64 i, .int .i64 h]
noncomputable def and255 (a : Int) : Int := IntKind.i64.wrap ((BitVec.ofInt IntKind.i64.bits a &&& BitVec.ofInt IntKind.i64.bits 255).toNat : Nat)
theorem vb_and255 (a : Int) : vbin .and (.int .i64 a) (.int .i64 255) = some (.int .i64 (and255 a)) := by simp [vbin, and255]
theorem and255_in (a : Int) : 0 ≤ and255 a ∧ and255 a ≤ 255 := by
 unfold and255
 have h : (BitVec.ofInt IntKind.i64.bits a &&& BitVec.ofInt IntKind.i64.bits 255).toNat ≤ 255 := by
  rw [BitVec.toNat_and]
  exact Nat.le_trans Nat.and_le_right (by decide)
 rw [wrap_i64 (by omega) (by omega)]
 omega
theorem l1New_loop (b : List UInt8) (hb : (b.length : Int) ≤ 1000000000) (ks : List Fr) (Q : VX → Env → Prop) (hq : ∀ h k : Int, Run G A (.exit 0) [(0, .v (.leaf (.sl false 1 (b.map fun x : UInt8 => [L.int .u8 x.toNat])))), (3, .v (.leaf (.int .i64 h))), (4, .v (.leaf (.int .i64 k))), (15, .v (.leaf (.bool false)))] ks Q) :
  ∀ (m : Nat) (h k : Int), 0 ≤ k → (b.length : Int) - k ≤ m → Run G A (.loop spec_l1New.l0) [(0, .v (.leaf (.sl false 1 (b.map fun x : UInt8 => [L.int .u8 x.toNat])))), (3, .v (.leaf (.int .i64 h))), (4, .v (.leaf (.int .i64 k)))] ks Q
 | 0, h, k, h0, hm => by
  have h1 : ¬ k < b.length := by omega
  have hq := hq h k
  refine run_loop_at spec_l1New.l0.eq_1 ?_
  simp (maxSteps := 1000000) (disch := omega) [ip, wr, h1]
  exact hq
 | m + 1, h, k, h0, hm => by
  have hqk := hq h k
  refine run_loop_at spec_l1New.l0.eq_1 ?_
  by_cases h1 : k < b.length
  ·have hn : k.toNat < b.length := by omega
   by_cases h2 : k < 4000
   ·simp (maxSteps := 1000000) (disch := omega) [ip, wr, h1, h2, h0, hn]
    exact l1New_loop b hb ks Q hq m _ (k + 1) (by omega) (by omega)
   ·simp (maxSteps := 1000000) (disch := omega) [ip, wr, h1, h2]
    exact hqk
  ·simp (maxSteps := 1000000) (disch := omega) [ip, wr, h1]
   exact hqk
theorem l1New (b : List UInt8) (hb : (b.length : Int) ≤ 1000000000) : ∃ h, A 59 [.leaf (.sl false 1 (b.map fun x : UInt8 => [L.int .u8 x.toNat]))] = some ([.box (curR b 0 h)], [.gone]) := by
 obtain ⟨rs, os, h1, rfl, h, rfl⟩ : ∃ rs os, A 59 [.leaf (.sl false 1 (b.map fun x : UInt8 => [L.int .u8 x.toNat]))] = some (rs, os) ∧ os = [.gone] ∧ ∃ h, rs = [.box (curR b 0 h)] := by
  refine runE_spec_l1New ?_
  simp (maxSteps := 1000000) (disch := omega) [ip, wr, spec_l1New.b]
  refine l1New_loop b hb _ _ (fun h k => ?_) b.length _ 0 (by omega) (by omega)
  simp (maxSteps := 1000000) (disch := omega) [ip, wr, ]
 exact ⟨h, h1⟩
theorem l1Byte_ex (b : List UInt8) (hb : (b.length : Int) ≤ 1000000000) (i h : Int) (h0 : 0 ≤ i) : ∃ r : Int × Nat × Int, (0 ≤ r.1 ∧ r.1 ≤ 255) ∧ A 147 [.box (curR b i h)] = some ([.leaf (.int .i64 r.1)], [.box (curR b r.2.1 r.2.2)]) := by
 obtain ⟨rs, os, e1, x, i', h', hx, hi, rfl, rfl⟩ : ∃ rs os, A 147 [.box (curR b i h)] = some (rs, os) ∧ ∃ x i' h' : Int, (0 ≤ x ∧ x ≤ 255) ∧ 0 ≤ i' ∧ rs = [.leaf (.int .i64 x)] ∧ os = [.box (curR b i' h')] := by
  refine runE_spec_l1Byte ?_
  by_cases hlt : i < b.length
  ·have hn : i.toNat < b.length := by omega
   have hx : b[i.toNat]? = some b[i.toNat] := List.getElem?_eq_getElem hn
   generalize b[i.toNat] = y at hx
   simp (maxSteps := 1000000) (disch := omega) [ip, wr, -vb_and, vb_and255, spec_l1Byte.b, hlt, h0, hx]
   exact ⟨and255_in _, by omega⟩
  ·simp (maxSteps := 1000000) (disch := omega) [ip, wr, -vb_and, vb_and255, spec_l1Byte.b, hlt]
   exact ⟨and255_in _, h0⟩
 refine ⟨(x, i'.toNat, h'), hx, ?_⟩
 rw [e1, show ((i'.toNat : Nat) : Int) = i' by omega]
noncomputable def byteP (b : List UInt8) (i h : Int) : Int × Nat × Int := Classical.epsilon fun r => (0 ≤ r.1 ∧ r.1 ≤ 255) ∧ A 147 [.box (curR b i h)] = some ([.leaf (.int .i64 r.1)], [.box (curR b r.2.1 r.2.2)])
theorem byteP_in {b : List UInt8} (hb : (b.length : Int) ≤ 1000000000) {i h : Int} (h0 : 0 ≤ i) : 0 ≤ (byteP b i h).1 ∧ (byteP b i h).1 ≤ 255 := (Classical.epsilon_spec (l1Byte_ex b hb i h h0)).1
theorem l1Byte {b : List UInt8} (hb : (b.length : Int) ≤ 1000000000) {i h : Int} (h0 : 0 ≤ i) : A 147 [.box (curR b i h)] = some ([.leaf (.int .i64 (byteP b i h).1)], [.box (curR b (byteP b i h).2.1 (byteP b i h).2.2)]) := (Classical.epsilon_spec (l1Byte_ex b hb i h h0)).2
theorem l1Below_ex (b : List UInt8) (hb : (b.length : Int) ≤ 1000000000) (i h n : Int) (h0 : 0 ≤ i) : ∃ r : Int × Nat × Int, ((n ≤ 0 → r.1 = 0) ∧ (0 < n → 0 ≤ r.1 ∧ r.1 < n)) ∧ A 88 [.box (curR b i h), .leaf (.int .i64 n)] = some ([.leaf (.int .i64 r.1)], [.box (curR b r.2.1 r.2.2), .gone]) := by
 by_cases hn : n ≤ 0
 ·refine ⟨(0, i.toNat, h), ⟨fun _ => rfl, fun h => by omega⟩, run_spec_l1Below ?_⟩
  have e : ((i.toNat : Nat) : Int) = i := by omega
  simp (maxSteps := 1000000) (disch := omega) [ip, wr, spec_l1Below.b, hn, e]
 ·have e1 := l1Byte hb (h := h) h0
  have hx := byteP_in hb (h := h) h0
  generalize byteP b i h = r1 at *
  obtain ⟨x, i1, k1⟩ := r1
  simp only at e1 hx
  by_cases hn2 : n ≤ 256
  ·have e : x.tmod n = x % n := Int.tmod_eq_emod_of_nonneg hx.1
   refine ⟨(x % n, i1, k1), ⟨fun h => by omega, fun h => ⟨Int.emod_nonneg _ (by omega), Int.emod_lt_of_pos _ h⟩⟩, run_spec_l1Below ?_⟩
   have hz : ¬ n = 0 := by omega
   simp (maxSteps := 1000000) (disch := omega) [ip, wr, spec_l1Below.b, hn, hn2, e1, hz, e]
  ·have e2 := l1Byte hb (i := i1) (h := k1) (by omega)
   have hy := byteP_in hb (i := i1) (h := k1) (by omega)
   generalize byteP b i1 k1 = r2 at *
   obtain ⟨y, i2, k2⟩ := r2
   have e3 := l1Byte hb (i := i2) (h := k2) (by omega)
   have hz := byteP_in hb (i := i2) (h := k2) (by omega)
   generalize byteP b i2 k2 = r3 at *
   obtain ⟨z, i3, k3⟩ := r3
   have e4 := l1Byte hb (i := i3) (h := k3) (by omega)
   have hw := byteP_in hb (i := i3) (h := k3) (by omega)
   generalize byteP b i3 k3 = r4 at *
   obtain ⟨w, i4, k4⟩ := r4
   simp only at e2 e3 e4 hy hz hw
   have hv : 0 ≤ x * 16777216 + y * 65536 + z * 256 + w := by omega
   have e : (x * 16777216 + y * 65536 + z * 256 + w).tmod n = (x * 16777216 + y * 65536 + z * 256 + w) % n := Int.tmod_eq_emod_of_nonneg hv
   refine ⟨((x * 16777216 + y * 65536 + z * 256 + w) % n, i4, k4), ⟨fun h => by omega, fun h => ⟨Int.emod_nonneg _ (by omega), Int.emod_lt_of_pos _ h⟩⟩, run_spec_l1Below ?_⟩
   have hz0 : ¬ n = 0 := by omega
   simp (maxSteps := 1000000) (disch := omega) [ip, wr, spec_l1Below.b, hn, hn2, e1, e2, e3, e4, hz0, e]
noncomputable def belowP (b : List UInt8) (i h n : Int) : Int × Nat × Int := Classical.epsilon fun r => ((n ≤ 0 → r.1 = 0) ∧ (0 < n → 0 ≤ r.1 ∧ r.1 < n)) ∧ A 88 [.box (curR b i h), .leaf (.int .i64 n)] = some ([.leaf (.int .i64 r.1)], [.box (curR b r.2.1 r.2.2), .gone])
theorem belowP_in {b : List UInt8} (hb : (b.length : Int) ≤ 1000000000) {i h : Int} (h0 : 0 ≤ i) (n : Int) : (n ≤ 0 → (belowP b i h n).1 = 0) ∧ (0 < n → 0 ≤ (belowP b i h n).1 ∧ (belowP b i h n).1 < n) := (Classical.epsilon_spec (l1Below_ex b hb i h n h0)).1
theorem l1Below {b : List UInt8} (hb : (b.length : Int) ≤ 1000000000) {i h : Int} (h0 : 0 ≤ i) (n : Int) : A 88 [.box (curR b i h), .leaf (.int .i64 n)] = some ([.leaf (.int .i64 (belowP b i h n).1)], [.box (curR b (belowP b i h n).2.1 (belowP b i h n).2.2), .gone]) := (Classical.epsilon_spec (l1Below_ex b hb i h n h0)).2
theorem l1Once {b : List UInt8} (hb : (b.length : Int) ≤ 1000000000) {i h : Int} (h0 : 0 ≤ i) (n : Int) : A 62 [.box (curR b i h), .leaf (.int .i64 n)] = some ([.leaf (.bool (decide ((belowP b i h n).1 = 0)))], [.box (curR b (belowP b i h n).2.1 (belowP b i h n).2.2), .gone]) := by
 have e1 := l1Below hb (h := h) h0 n
 generalize belowP b i h n = r at *
 refine run_spec_l1Once ?_
 simp (maxSteps := 1000000) (disch := omega) [ip, wr, spec_l1Once.b, e1]
noncomputable def pickP (b : List UInt8) (i h : Int) (l : List ByteArray) : ByteArray := (l[(belowP b i h l.length).1.toNat]?).getD ⟨#[]⟩
theorem pick_get {b : List UInt8} (hb : (b.length : Int) ≤ 1000000000) {i h : Int} (h0 : 0 ≤ i) {α : Type} (l : List α) (hl : 0 < l.length) : 0 ≤ (belowP b i h l.length).1 ∧ ∃ x, l[(belowP b i h l.length).1.toNat]? = some x ∧ x ∈ l := by
 have hx := (belowP_in hb (h := h) h0 (l.length : Int)).2 (by omega)
 have hn : (belowP b i h l.length).1.toNat < l.length := by omega
 exact ⟨hx.1, _, List.getElem?_eq_getElem hn, List.getElem_mem hn⟩
theorem pickP_in {b : List UInt8} (hb : (b.length : Int) ≤ 1000000000) {i h : Int} (h0 : 0 ≤ i) {l : List ByteArray} (hl : 0 < l.length) : pickP b i h l ∈ l := by
 obtain ⟨_, x, e, hm⟩ := pick_get hb (h := h) h0 l hl
 unfold pickP
 rw [e]
 exact hm
theorem l1Pick {b : List UInt8} (hb : (b.length : Int) ≤ 1000000000) {i h : Int} (h0 : 0 ≤ i) {l : List ByteArray} (hl : 0 < l.length) : A 127 [.box (curR b i h), .leaf (Kstrs false l)] = some ([.leaf (.str (pickP b i h l))], [.box (curR b (belowP b i h l.length).2.1 (belowP b i h l.length).2.2), .gone]) := by
 have e1 := l1Below hb (h := h) h0 l.length
 obtain ⟨hx0, x, e, hm⟩ := pick_get hb (h := h) h0 l hl
 have e2 : pickP b i h l = x := by unfold pickP; rw [e]; rfl
 have e3 : (belowP b i h l.length).1.toNat < l.length := (List.getElem?_eq_some_iff.1 e).1
 rw [e2]
 generalize belowP b i h l.length = r at *
 refine run_spec_l1Pick ?_
 simp (maxSteps := 1000000) (disch := omega) [ip, wr, spec_l1Pick.b, e1, e, at_get e, hx0, e3]
theorem l1Size (b : List UInt8) (most : Int) (hm : 0 ≤ most) (hb : (b.length : Int) ≤ 1000000000) : ∃ n, (0 ≤ n ∧ n ≤ most) ∧ A 61 [.leaf (.sl false 1 (b.map fun x : UInt8 => [L.int .u8 x.toNat])), .leaf (.int .i64 most)] = some ([.leaf (.int .i64 n)], [.gone, .gone]) := by
 have e : (b.length : Int).tdiv 20 = b.length / 20 := Int.tdiv_eq_ediv_of_nonneg (by omega)
 by_cases h : most < 2 + (b.length : Int) / 20
 ·refine ⟨most, ⟨hm, Int.le_refl _⟩, run_spec_l1Size ?_⟩
  simp (maxSteps := 1000000) (disch := omega) [ip, wr, spec_l1Size.b, e, h]
 ·refine ⟨2 + (b.length : Int) / 20, ⟨by omega, by omega⟩, run_spec_l1Size ?_⟩
  simp (maxSteps := 1000000) (disch := omega) [ip, wr, spec_l1Size.b, e, h]
end Go.Proofs.YtjcjodcpiickaaaGreatDoor.RA
