/- Read: the program's and the reference's tell the same. -/
import Derived.Test.YtjcjodcpiickaaaGreatDoorRAReadD
namespace Go.Proofs.YtjcjodcpiickaaaGreatDoor.RA
open Go Go.VS Go.Lib
set_option maxRecDepth 10000
set_option maxHeartbeats 8000000
set_option linter.unusedSimpArgs false
set_option linter.unusedVariables false
/-- What is handed back behind all data. -/
def finR (q : RD × List Int) : KData × Int := if 0 ≤ q.1.bad then (⟨[], []⟩, q.1.bad) else (⟨q.1.cells, q.2⟩, -1)
theorem readR_fin (s : ByteArray) : readR s = finR (allR s (s.size + 1) ⟨skp s 0, 0, -1, []⟩ []) := by
 unfold readR finR
 rfl
abbrev fin2 (q : KData × Int) : List CV := [.agg (KData.row true q.1), .leaf (.int .i64 q.2)]
abbrev dat0 : List L := [.sl true 5 [], .sl true 1 []]
theorem iall {s : ByteArray} (hs : (s.size : Int) ≤ 1000000000) : ∀ (k : Nat) (r : RD) (tops : List Int) (n pl : Nat) (t0 : ByteArray) (ks : List Fr), Fine s r → r.bad < 0 → n ≤ s.size → r.at_ = skp s n → s.size - r.at_ + 1 ≤ k → (tops.length : Int) ≤ n →
  (∀ (m p : Nat) (t : ByteArray) (cs : List KDatum) (ts : List Int), finR (allR s k r tops) = (⟨cs, ts⟩, -1) → Run G A (.exit 0) [(2, .v (.box dat0)), (4, .v (.box (rdK s m p t cs false))), (5, .v (.leaf (Kints true ts))), (10, .v (.leaf (.bool false)))] ks (QF true [.V] [.cell 2 2 true, .tmp 3] (fin2 (finR (allR s k r tops)), [.gone]))) →
  Run G A (.loop impl_Read.l0) [(2, .v (.box dat0)), (4, .v (.box (rdK s n pl t0 r.cells false))), (5, .v (.leaf (Kints true tops)))] ks (QF true [.V] [.cell 2 2 true, .tmp 3] (fin2 (finR (allR s k r tops)), [.gone]))
 | 0, r, tops, n, pl, t0, ks, hf, hb, hn, hr, hk, hl, hE => by omega
 | k + 1, r, tops, n, pl, t0, ks, hf, hb, hn, hr, hk, hl, hE => by
  have h1 := iover (s := s) (by omega) hn pl t0 r.cells false
  have hge := skp_ge s n
  unfold allR at hE ⊢
  by_cases hend : s.size ≤ r.at_
  ·rw [if_pos (.inr hend)] at hE ⊢
   have he : skp s n = s.size := by have := hf.a; omega
   have hE := hE (skp s n) pl t0 r.cells tops (by unfold finR; rw [if_neg (by simp only; omega)])
   rw [decide_eq_true he] at h1
   generalize finR (r, tops) = z at *
   generalize skp s n = m at *
   refine run_loop_at impl_Read.l0.eq_1 ?_
   simp (maxSteps := 1000000) (disch := omega) [ip, wr, h1]
   exact hE
  ·rw [if_neg (by omega)] at hE ⊢
   simp only at hE ⊢
   have he : ¬ skp s n = s.size := by omega
   rw [decide_eq_false he] at h1
   obtain ⟨x, n', p', t', cs', b', g2, g3⟩ := idatum hs (2 * (s.size - r.at_) + 1) r 0 hf hb (Nat.le_refl _) (by omega)
   have g2 := ifollow hs hf pl t0 r.cells 0 (by omega) g2
   have hfin := datR_fine s (2 * (s.size - r.at_) + 1) r 0 hf (Nat.le_refl _)
   rw [← hr] at h1
   simp only [Int.natCast_zero] at g2
   generalize datR s (2 * (s.size - r.at_) + 1) r 0 = r1 at *
   rcases g3 with ⟨b2, rfl, rfl, rfl, rfl, rfl⟩ | ⟨b2, rfl, rfl⟩
   ·rw [if_neg (by omega)] at hE ⊢
    have hmv := hfin.2 b2
    have hra := hfin.1.a
    have hsk := skp_ge s r1.at_
    have ih := iall hs k (r1.skip s) (tops ++ [lastR r1]) r1.at_ r1.last t' ks (skip_fine hfin.1) b2 hfin.1.a rfl (by show s.size - skp s r1.at_ + 1 ≤ k; omega) (by simp only [List.length_append, List.length_singleton]; omega) hE
    have ih : Run G A (.loop impl_Read.l0) [(2, .v (.box dat0)), (4, .v (.box (rdK s r1.at_ r1.last t' r1.cells false))), (5, .v (.leaf (Kints true (tops ++ [lastR r1]))))] ks (QF true [.V] [.cell 2 2 true, .tmp 3] (fin2 (finR (allR s k (r1.skip s) (tops ++ [lastR r1]))), [.gone])) := ih
    generalize finR (allR s k (r1.skip s) (tops ++ [lastR r1])) = z at *
    generalize lastR r1 = lr at *
    refine run_loop_at impl_Read.l0.eq_1 ?_
    simp (maxSteps := 1000000) (disch := omega) [ip, wr, h1, g2]
    refine run_env ih ?_
    simp
   ·rw [if_pos b2]
    have e1 : finR (r1, tops) = (⟨[], []⟩, r1.bad) := by unfold finR; rw [if_pos b2]
    rw [e1]
    have e2 : (r1.bad.toNat : Int) = r1.bad := by omega
    refine run_loop_at impl_Read.l0.eq_1 ?_
    simp (maxSteps := 1000000) (disch := omega) [ip, wr, h1, g2]
    rw [show max r1.bad 0 = r1.bad by omega]
    refine run_ret ?_ _
    simp (maxSteps := 1000000) (disch := omega) [ip, wr, ]
theorem implRead {s : ByteArray} (hs : (s.size : Int) ≤ 1000000000) : A 12 [.leaf (.str s)] = some (fin2 (readR s), [.gone]) := by
 refine run_impl_Read ?_
 rw [readR_fin]
 have h := fun ks hE => iall hs (s.size + 1) ⟨skp s 0, 0, -1, []⟩ [] 0 0 ⟨#[]⟩ ks (start_fine s) (by simp only; omega) (Nat.zero_le _) rfl (by simp only; omega) (by simp) hE
 generalize finR (allR s (s.size + 1) ⟨skp s 0, 0, -1, []⟩ []) = z at *
 simp (maxSteps := 1000000) (disch := omega) [ip, wr, impl_Read.b]
 refine h _ fun m p t cs ts hz => ?_
 subst hz
 simp (maxSteps := 1000000) (disch := omega) [ip, wr, ]
theorem sall {s : ByteArray} (hs : (s.size : Int) ≤ 1000000000) : ∀ (k : Nat) (r : RD) (tops : List Int) (ks : List Fr), Fine s r → s.size - r.at_ + 1 ≤ k → (tops.length : Int) ≤ r.at_ →
  (∀ (r' : RD) (ts : List Int), allR s k r tops = (r', ts) → Run G A (.exit 0) [(0, .v (.leaf (.str s))), (2, .v (.box dat0)), (4, .v (.box (spR s r' ts))), (17, .v (.leaf (.bool false)))] ks (QF true [.V] [.cell 2 2 true, .tmp 3] (fin2 (finR (allR s k r tops)), [.gone]))) →
  Run G A (.loop spec_Read.l0) [(0, .v (.leaf (.str s))), (2, .v (.box dat0)), (4, .v (.box (spR s r tops)))] ks (QF true [.V] [.cell 2 2 true, .tmp 3] (fin2 (finR (allR s k r tops)), [.gone]))
 | 0, r, tops, ks, hf, hk, hl, hE => by omega
 | k + 1, r, tops, ks, hf, hk, hl, hE => by
  have hfa := hf.a
  unfold allR at hE ⊢
  by_cases hend : 0 ≤ r.bad ∨ s.size ≤ r.at_
  ·rw [if_pos hend] at hE ⊢
   have hE := hE r tops rfl
   generalize finR (r, tops) = z at *
   refine run_loop_at spec_Read.l0.eq_1 ?_
   by_cases hb : r.bad < 0
   ·have h2 : ¬ (r.at_ : Int) < s.size := by omega
    simp (maxSteps := 1000000) (disch := omega) [ip, wr, hb, h2]
    exact hE
   ·simp (maxSteps := 1000000) (disch := omega) [ip, wr, hb]
    exact hE
  ·rw [if_neg hend] at hE ⊢
   simp only at hE ⊢
   have hb : r.bad < 0 := by omega
   have h2 : (r.at_ : Int) < s.size := by omega
   have g2 := sdat hs tops (2 * (s.size - r.at_) + 1) r 0 hf (Nat.le_refl _) (by omega)
   have hfin := datR_fine s (2 * (s.size - r.at_) + 1) r 0 hf (Nat.le_refl _)
   simp only [Int.natCast_zero] at g2
   generalize datR s (2 * (s.size - r.at_) + 1) r 0 = r1 at *
   by_cases b2 : 0 ≤ r1.bad
   ·rw [if_pos b2] at hE ⊢
    have hE := hE r1 tops rfl
    have b3 : ¬ r1.bad < 0 := by omega
    generalize finR (r1, tops) = z at *
    refine run_loop_at spec_Read.l0.eq_1 ?_
    simp (maxSteps := 1000000) (disch := omega) [ip, wr, hb, h2, g2, b3]
    refine run_loop_at spec_Read.l0.eq_1 ?_
    simp (maxSteps := 1000000) (disch := omega) [ip, wr, b3]
    exact hE
   ·rw [if_neg b2] at hE ⊢
    have b3 : r1.bad < 0 := by omega
    have hmv := hfin.2 b3
    have hsk := skp_ge s r1.at_
    have hc := hfin.1.c
    have hc' : (r1.cells.length : Int) ≤ 1000 := by omega
    have h4 := sskip (s := s) (by omega) hfin.1.a r1.last r1.bad r1.cells (tops ++ [lastR r1])
    have ih : Run G A (.loop spec_Read.l0) [(0, .v (.leaf (.str s))), (2, .v (.box dat0)), (4, .v (.box (sp6 s (skp s r1.at_) r1.last r1.bad r1.cells (tops ++ [lastR r1]))))] ks (QF true [.V] [.cell 2 2 true, .tmp 3] (fin2 (finR (allR s k (r1.skip s) (tops ++ [lastR r1]))), [.gone])) := sall hs k (r1.skip s) (tops ++ [lastR r1]) ks (skip_fine hfin.1) (by show s.size - skp s r1.at_ + 1 ≤ k; omega) (by show _ ≤ ((skp s r1.at_ : Nat) : Int); simp only [List.length_append, List.length_singleton]; omega) hE
    generalize finR (allR s k (r1.skip s) (tops ++ [lastR r1])) = z at *
    have el : lastR r1 = (r1.cells.length : Int) - 1 := rfl
    rw [el] at h4
    simp only [sp6, List.map_append, List.map_cons, List.map_nil] at h4
    rw [el] at ih
    generalize skp s r1.at_ = p2 at *
    refine run_loop_at spec_Read.l0.eq_1 ?_
    simp (maxSteps := 1000000) (disch := omega) [ip, wr, hb, h2, g2, b3, hc', h4]
    refine run_env ih ?_
    simp
theorem specRead {s : ByteArray} (hs : (s.size : Int) ≤ 1000000000) : A 13 [.leaf (.str s)] = some (fin2 (readR s), [.gone]) := by
 refine run_spec_Read ?_
 rw [readR_fin]
 have h0 : A 66 [.agg [.str s, .int .i64 0, .int .i64 0, .int .i64 (-1), .sl true 5 [], .sl true 1 []]] = some ([.agg (sp6 s (skp s 0) 0 (-1) [] [])], [.gone]) := sskip (s := s) (by omega) (Nat.zero_le _) 0 (-1) [] []
 have h := fun ks hE => sall hs (s.size + 1) ⟨skp s 0, 0, -1, []⟩ [] ks (start_fine s) (by simp only; omega) (by simp only [List.length_nil]; omega) hE
 unfold finR at h ⊢
 generalize allR s (s.size + 1) ⟨skp s 0, 0, -1, []⟩ [] = q at *
 generalize skp s 0 = p at *
 simp (maxSteps := 1000000) (disch := omega) [ip, wr, spec_Read.b, h0]
 refine h _ fun r' ts hq => ?_
 subst hq
 by_cases hb : 0 ≤ r'.bad
 ·simp only [if_pos hb]
  simp (maxSteps := 1000000) (disch := omega) [ip, wr, hb]
 ·simp only [if_neg hb]
  simp (maxSteps := 1000000) (disch := omega) [ip, wr, hb]
end Go.Proofs.YtjcjodcpiickaaaGreatDoor.RA
