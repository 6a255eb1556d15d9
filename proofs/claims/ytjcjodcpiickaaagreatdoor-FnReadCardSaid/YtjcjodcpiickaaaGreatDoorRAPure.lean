/- FnRead: the law answers true. -/
import Derived.Test.YtjcjodcpiickaaaGreatDoorRAOpen
import Derived.Test.YtjcjodcpiickaaaGreatDoorRADataB
namespace Go.Proofs.YtjcjodcpiickaaaGreatDoor.RA
open Go Go.VS Go.Lib
set_option maxRecDepth 10000
set_option maxHeartbeats 8000000
set_option linter.unusedSimpArgs false
set_option linter.unusedVariables false
theorem rows_u8T : ∀ (l : List Int), (∀ n ∈ l, (Lit.int .u8 n).wf = true) → (l.map fun n : Int => [L.int .u8 n]) = (u8T l).map fun x : UInt8 => [L.int .u8 x.toNat]
 | [], _ => rfl
 | n :: l, h => by
  have ih := rows_u8T l fun m hm => h m (by simp [hm])
  have h1 := h n (by simp)
  simp [Lit.wf, IntKind.min, IntKind.max, IntKind.signed, IntKind.bits] at h1
  have e : (((UInt8.ofNat n.toNat).toNat : Nat) : Int) = n := by
   rw [UInt8.toNat_ofNat']
   omega
  simp only [u8T, List.map_cons] at ih ⊢
  rw [ih, e]
theorem pure (x0 : List Int) (h0 : okS22 x0) : ∃ outs, A 3 [.leaf (.sl false 1 (x0.map fun n : Int => [L.int .u8 n]))] = some ([.leaf (.bool true)], outs) := by
 rw [rows_u8T x0 h0.1]
 generalize u8T x0 = b
 have hg : A 10 [codeR b] = some ([.leaf (.bool (decide (1048576 < (b.length : Int))))], [.gone]) := by
  refine run_laws_big ?_
  simp (maxSteps := 1000000) (disch := omega) [ip, wr, laws_big.b]
 refine ⟨_, run_laws_FnRead (r := ([.leaf (.bool true)], [.gone])) ?_⟩
 by_cases hbig : 1048576 < (b.length : Int)
 ·rw [decide_eq_true hbig] at hg
  simp (maxSteps := 1000000) (disch := omega) [ip, wr, laws_FnRead.b, hg]
 ·rw [decide_eq_false hbig] at hg
  obtain ⟨s, zs, e1⟩ := drawRead b (by omega)
  obtain ⟨x, zx, e2⟩ := drawDataOk b (by omega)
  have r1 := implRead (s := s) (by omega)
  have r2 := specRead (s := s) (by omega)
  have hS := readR_smallD s
  rcases readR_bad s with hb | ⟨hb1, hb2, hb3⟩
  ·have w1 := implShow hS.ok hS.us hS.ts
   have w2 := implRead (s := ⟨(showB (readR s).1).toArray⟩) (by have := hS.len; rw [show (ByteArray.mk (showB (readR s).1).toArray).size = (showB (readR s).1).length from rfl]; omega)
   rw [read_show hb] at w2
   have w3 := implRead (s := (⟨#[32, 59, 32, 120, 10, 9]⟩ : ByteArray) ++ s ++ ⟨#[10, 32, 59, 32, 101, 110, 100]⟩) (by simp only [ba_append_size, szmk, List.size_toArray, List.length_cons, List.length_nil]; omega)
   rw [read_around hb] at w3
   have w4 := implDataOk hS.ok hS.us hS.ts hS.len
   have w5 : dataOkB (readR s).1 = true := by
    unfold dataOkB
    rw [read_show hb, decide_eq_true hb, decide_eq_true rfl]
    rfl
   rw [w5] at w4
   have w6 := sameDL (readR s).1 (by have := hS.c; omega) (by have := hS.t; omega)
   have w7 := implDataOk zx.ok zx.us zx.ts zx.len
   have w8 := specDataOk zx.ok zx.us zx.ts zx.len
   generalize dataOkB x = v at *
   generalize (⟨(showB (readR s).1).toArray⟩ : ByteArray) = t at *
   generalize readR s = z at *
   obtain ⟨d, n⟩ := z
   simp only at hb w1 w4 w6
   subst hb
   simp (maxSteps := 1000000) (disch := omega) [ip, wr, laws_FnRead.b, hg, e1, e2, r1, r2, w1, w2, w3, w4, w6, w7, w8, szmk]
  ·generalize readR s = z at *
   obtain ⟨d, n⟩ := z
   simp only at hb1 hb2 hb3
   subst hb3
   have hb1' : ¬ n < 0 := by omega
   simp (maxSteps := 1000000) (disch := omega) [ip, wr, laws_FnRead.b, hg, e1, r1, r2, hb1, hb2, hb1']
end Go.Proofs.YtjcjodcpiickaaaGreatDoor.RA
