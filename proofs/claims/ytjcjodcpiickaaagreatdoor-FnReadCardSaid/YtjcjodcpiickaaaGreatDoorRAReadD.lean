/- Reading whole texts: the program's and the reference's. -/
import Derived.Test.YtjcjodcpiickaaaGreatDoorRAReadB
import Derived.Test.YtjcjodcpiickaaaGreatDoorRAReadC
namespace Go.Proofs.YtjcjodcpiickaaaGreatDoor.RA
open Go Go.VS Go.Lib
set_option maxRecDepth 10000
set_option maxHeartbeats 8000000
set_option linter.unusedSimpArgs false
set_option linter.unusedVariables false
abbrev spR (s : ByteArray) (r : RD) (ts : List Int) : List L := sp6 s r.at_ r.last r.bad r.cells ts
mutual
theorem sdat {s : ByteArray} (hs : (s.size : Int) ≤ 1000000000) (ts : List Int) : ∀ (k : Nat) (r : RD) (deep : Nat), Fine s r → 2 * (s.size - r.at_) + 1 ≤ k → deep ≤ 24 →
  A 67 [.agg (spR s r ts), .leaf (.int .i64 deep)] = some ([.agg (spR s (datR s k r deep) ts)], [.gone, .gone])
 | 0, r, deep, hf, hk, hd => by omega
 | k + 1, r, deep, hf, hk, hd => by
  have hp := skp_le hf.a
  have hq := skp_ge s r.at_
  have he := tokE_le hp
  have hg := tokE_ge s (skp s r.at_)
  have hgo := go_fine hf (e := tokE s (skp s r.at_)) (p := skp s r.at_) he hp
  have hts := tokT_size s (skp s r.at_)
  have h1 := sskip (s := s) (by omega) hf.a r.last r.bad r.cells ts
  have h2 := stok (s := s) (by omega) hp
  refine run_spec_l2Datum ?_
  unfold datR
  simp only
  by_cases hne : 0 ≤ r.bad ∨ tokE s (skp s r.at_) = skp s r.at_
  ·rw [if_pos hne]
   have h3 := sfail s (r.skip s) ts (skp s r.at_)
   simp only at h3
   generalize failR (r.skip s) (skp s r.at_) = q at *
   generalize tokE s (skp s r.at_) = e at *
   generalize skp s r.at_ = p at *
   by_cases hb : 0 ≤ r.bad
   ·simp (maxSteps := 1000000) (disch := omega) [ip, wr, spec_l2Datum.b, h1, h2, hb, h3]
   ·have hep : e = p := hne.resolve_left hb
    subst hep
    simp (maxSteps := 1000000) (disch := omega) [ip, wr, spec_l2Datum.b, h1, h2, hb, h3]
  ·rw [if_neg hne]
   have hb : ¬ 0 ≤ r.bad := fun h => hne (.inl h)
   have hep : ¬ tokE s (skp s r.at_) = skp s r.at_ := fun h => hne (.inr h)
   have hx : s.extract (skp s r.at_) (tokE s (skp s r.at_)) = tokT s (skp s r.at_) := rfl
   by_cases hdp : (tokT s (skp s r.at_) = lpT ∨ tokT s (skp s r.at_) = quoT) ∧ 24 ≤ deep
   ·rw [if_pos hdp]
    have h3 := sfail s (r.skip s) ts (skp s r.at_)
    simp only at h3
    have h24 : (24 : Int) ≤ deep := by omega
    obtain ⟨hT, _⟩ := hdp
    generalize failR (r.skip s) (skp s r.at_) = q at *
    generalize tokT s (skp s r.at_) = T at *
    generalize tokE s (skp s r.at_) = e at *
    generalize skp s r.at_ = p at *
    rcases hT with rfl | rfl
    ·simp (maxSteps := 1000000) (disch := omega) [ip, wr, spec_l2Datum.b, h1, h2, hb, hep, hx, h24, h3]
    ·simp (maxSteps := 1000000) (disch := omega) [ip, wr, spec_l2Datum.b, h1, h2, hb, hep, hx, h24, h3]
   ·rw [if_neg hdp]
    by_cases hq1 : tokT s (skp s r.at_) = quoT
    ·rw [if_pos hq1]
     rw [hq1] at hx
     have h24 : ¬ 24 ≤ deep := fun h => hdp ⟨.inr hq1, h⟩
     have h24' : ¬ (24 : Int) ≤ deep := by omega
     have g1 := sputQ s (r.go (tokE s (skp s r.at_)) (skp s r.at_)) ts
     simp only at g1
     have hput := putR_fine hgo quoteD
     have hpt := putR_at (r.go (tokE s (skp s r.at_)) (skp s r.at_)) quoteD
     have g2 := sdat hs ts k (putR (r.go (tokE s (skp s r.at_)) (skp s r.at_)) quoteD) (deep + 1) hput (by rw [hpt.1]; simp only; omega) (by omega)
     have hf2 := datR_fine s k (putR (r.go (tokE s (skp s r.at_)) (skp s r.at_)) quoteD) (deep + 1) hput (by rw [hpt.1]; simp only; omega)
     simp only [Int.natCast_add, Int.natCast_one] at g2
     have c1 := hput.c
     generalize putR (r.go (tokE s (skp s r.at_)) (skp s r.at_)) quoteD = r1 at *
     have c2 := hf2.1.c
     generalize datR s k r1 (deep + 1) = r2 at *
     have g3 := sputN s r2 ts
     have c3 := (putR_fine hf2.1 nilD).c
     have g4 := slist s (putR r2 nilD) ts [lastR r1, lastR r2] c3 (by simp)
     simp only [Kints, List.map_cons, List.map_nil, lastR] at g4
     have e1 : lstR (putR r2 nilD) [lastR r1, lastR r2] = lstR (putR r2 nilD) [(r1.cells.length : Int) - 1, (r2.cells.length : Int) - 1] := rfl
     rw [e1]
     generalize lstR (putR r2 nilD) [(r1.cells.length : Int) - 1, (r2.cells.length : Int) - 1] = r4 at *
     generalize putR r2 nilD = r3 at *
     generalize tokT s (skp s r.at_) = T at *
     generalize tokE s (skp s r.at_) = e at *
     generalize skp s r.at_ = p at *
     simp (maxSteps := 1000000) (disch := omega) [ip, wr, spec_l2Datum.b, h1, h2, hb, hep, hx, h24', g1, g2, g3, g4]
    ·rw [if_neg hq1]
     by_cases hq2 : tokT s (skp s r.at_) = lpT
     ·rw [if_pos hq2]
      rw [hq2] at hx
      have h24 : ¬ 24 ≤ deep := fun h => hdp ⟨.inl hq2, h⟩
      have h24' : ¬ (24 : Int) ≤ deep := by omega
      have hin := fun ks h => slp hs ts k (r.go (tokE s (skp s r.at_)) (skp s r.at_)) [] deep ks hgo (by simp only; omega) (by omega) (by simp only [List.length_nil]; omega) h
      try simp only at hin
      generalize lpR s k (r.go (tokE s (skp s r.at_)) (skp s r.at_)) [] deep = q at *
      generalize tokT s (skp s r.at_) = T at *
      generalize tokE s (skp s r.at_) = e at *
      generalize skp s r.at_ = p at *
      simp (maxSteps := 1000000) (disch := omega) [ip, wr, spec_l2Datum.b, h1, h2, hb, hep, hx, h24']
      refine hin _ fun ps' t' => ?_
      simp (maxSteps := 1000000) (disch := omega) [ip, wr, ]
     ·rw [if_neg hq2]
      have h3 := satom (s := s) (r.go (tokE s (skp s r.at_)) (skp s r.at_)) ts (tokT s (skp s r.at_)) (skp s r.at_) (by omega)
      simp only at h3
      generalize atomR (r.go (tokE s (skp s r.at_)) (skp s r.at_)) (tokT s (skp s r.at_)) (skp s r.at_) = q at *
      generalize tokT s (skp s r.at_) = T at *
      generalize tokE s (skp s r.at_) = e at *
      generalize skp s r.at_ = p at *
      simp (maxSteps := 1000000) (disch := omega) [ip, wr, spec_l2Datum.b, h1, h2, hb, hep, hx, hq1, hq2, h3]
theorem slp {s : ByteArray} (hs : (s.size : Int) ≤ 1000000000) (ts : List Int) : ∀ (k : Nat) (r : RD) (ps : List Int) (deep : Nat) (ks : List Fr), Fine s r → 2 * (s.size - r.at_) + 2 ≤ k → deep < 24 → (ps.length : Int) ≤ r.at_ →
  (∀ (ps' : List Int) (t' : ByteArray), Run G A (.exit 0) [(1, .v (.leaf (.int .i64 deep))), (2, .v (.box (spR s (lpR s k r ps deep) ts))), (4, .v (.box sp0)), (10, .v (.leaf (Kints true ps'))), (87, .v (.leaf (.bool false)))] ks (QF true [.O, .V] [.cell 4 6 true] ([.agg (spR s (lpR s k r ps deep) ts)], [.gone, .gone]))) →
  Run G A (.loop spec_l2Datum.l0) [(1, .v (.leaf (.int .i64 deep))), (2, .v (.box (spR s r ts))), (4, .v (.box sp0)), (10, .v (.leaf (Kints true ps)))] ks (QF true [.O, .V] [.cell 4 6 true] ([.agg (spR s (lpR s k r ps deep) ts)], [.gone, .gone]))
 | 0, r, ps, deep, ks, hf, hk, hd, hl, hE => by omega
 | k + 1, r, ps, deep, ks, hf, hk, hd, hl, hE => by
  have hp := skp_le hf.a
  have hq := skp_ge s r.at_
  have he := tokE_le hp
  have hg := tokE_ge s (skp s r.at_)
  have hgo := go_fine hf (e := tokE s (skp s r.at_)) (p := skp s r.at_) he hp
  have hfa := hf.a
  unfold lpR at hE ⊢
  by_cases hb : 0 ≤ r.bad
  ·rw [if_pos hb] at hE ⊢
   have hE := hE ps ⟨#[]⟩
   refine run_loop_at spec_l2Datum.l0.eq_1 ?_
   have hbn : ¬ r.bad < 0 := by omega
   simp (maxSteps := 1000000) (disch := omega) [ip, wr, hb, hbn]
   exact hE
  ·rw [if_neg hb] at hE ⊢
   simp only at hE ⊢
   have hb' : r.bad < 0 := by omega
   have h1 := sskip (s := s) (by omega) hf.a r.last r.bad r.cells ts
   have h2 := stok (s := s) (by omega) hp
   have hx : s.extract (skp s r.at_) (tokE s (skp s r.at_)) = tokT s (skp s r.at_) := rfl
   by_cases hr : tokT s (skp s r.at_) = rpT
   ·rw [if_pos hr]
    clear hE
    rw [hr] at hx
    have g1 := sputN s (r.go (tokE s (skp s r.at_)) (skp s r.at_)) ts
    have c1 := (putR_fine hgo nilD).c
    have g2 := slist s (putR (r.go (tokE s (skp s r.at_)) (skp s r.at_)) nilD) ts ps c1 (by omega)
    simp only at g1
    generalize lstR (putR (r.go (tokE s (skp s r.at_)) (skp s r.at_)) nilD) ps = r2 at *
    generalize putR (r.go (tokE s (skp s r.at_)) (skp s r.at_)) nilD = r1 at *
    generalize tokT s (skp s r.at_) = T at *
    generalize tokE s (skp s r.at_) = e at *
    generalize skp s r.at_ = p at *
    refine run_loop_at spec_l2Datum.l0.eq_1 ?_
    simp (maxSteps := 1000000) (disch := omega) [ip, wr, hb', h1, h2, hx, g1, g2]
    refine run_ret ?_ _
    simp (maxSteps := 1000000) (disch := omega) [ip, wr, ]
   ·rw [if_neg hr] at hE ⊢
    by_cases hdt : tokT s (skp s r.at_) = dotT ∧ ps ≠ []
    ·rw [if_pos hdt]
     clear hE
     obtain ⟨hdt, hps⟩ := hdt
     rw [hdt] at hx
     have hpl : 0 < (ps.length : Int) := by have := List.length_pos_iff.mpr hps; omega
     have hne : tokE s (skp s r.at_) ≠ skp s r.at_ := fun e => by
      have h3 := hdt
      unfold tokT at h3
      rw [e] at h3
      have h4 := congrArg ByteArray.size h3
      simp at h4
     have g2 := sdat hs ts k (r.go (tokE s (skp s r.at_)) (skp s r.at_)) (deep + 1) hgo (by simp only; omega) (by omega)
     have hf2 := datR_fine s k (r.go (tokE s (skp s r.at_)) (skp s r.at_)) (deep + 1) hgo (by simp only; omega)
     simp only [Int.natCast_add, Int.natCast_one] at g2
     generalize datR s k (r.go (tokE s (skp s r.at_)) (skp s r.at_)) (deep + 1) = r2 at *
     have hp2 := skp_le hf2.1.a
     have he2 := tokE_le hp2
     have hg2 := tokE_ge s (skp s r2.at_)
     have hx2 : s.extract (skp s r2.at_) (tokE s (skp s r2.at_)) = tokT s (skp s r2.at_) := rfl
     have h3 := sskip (s := s) (by omega) hf2.1.a r2.last r2.bad r2.cells ts
     have h4 := stok (s := s) (by omega) hp2
     by_cases hr2 : tokT s (skp s r2.at_) = rpT
     ·rw [if_pos hr2]
      rw [hr2] at hx2
      have g3 := slist s ((r2.skip s).go (tokE s (skp s r2.at_)) (skp s r2.at_)) ts ps hf2.1.c (by omega)
      simp only at g3
      generalize lstR ((r2.skip s).go (tokE s (skp s r2.at_)) (skp s r2.at_)) ps = r3 at *
      generalize tokT s (skp s r2.at_) = T2 at *
      generalize tokE s (skp s r2.at_) = e2 at *
      generalize skp s r2.at_ = p2 at *
      generalize tokT s (skp s r.at_) = T at *
      generalize tokE s (skp s r.at_) = e at *
      generalize skp s r.at_ = p at *
      refine run_loop_at spec_l2Datum.l0.eq_1 ?_
      simp (maxSteps := 1000000) (disch := omega) [ip, wr, hb', h1, h2, hx, hpl, g2, h3, h4, hx2, g3]
      refine run_ret ?_ _
      simp (maxSteps := 1000000) (disch := omega) [ip, wr, ]
     ·rw [if_neg hr2]
      have g3 := sfail s (r2.skip s) ts (skp s r2.at_)
      simp only at g3
      generalize failR (r2.skip s) (skp s r2.at_) = r3 at *
      generalize tokT s (skp s r2.at_) = T2 at *
      generalize tokE s (skp s r2.at_) = e2 at *
      generalize skp s r2.at_ = p2 at *
      generalize tokT s (skp s r.at_) = T at *
      generalize tokE s (skp s r.at_) = e at *
      generalize skp s r.at_ = p at *
      refine run_loop_at spec_l2Datum.l0.eq_1 ?_
      simp (maxSteps := 1000000) (disch := omega) [ip, wr, hb', h1, h2, hx, hpl, g2, h3, h4, hx2, hr2, g3]
      refine run_ret ?_ _
      simp (maxSteps := 1000000) (disch := omega) [ip, wr, ]
    ·rw [if_neg hdt] at hE ⊢
     have hsk := skip_fine hf
     have g2 : A 67 [.agg (sp6 s (skp s r.at_) r.last r.bad r.cells ts), .leaf (.int .i64 ((deep + 1 : Nat) : Int))] = some ([.agg (spR s (datR s k (r.skip s) (deep + 1)) ts)], [.gone, .gone]) := sdat hs ts k (r.skip s) (deep + 1) hsk (by show 2 * (s.size - skp s r.at_) + 1 ≤ k; omega) (by omega)
     have hf2 := datR_fine s k (r.skip s) (deep + 1) hsk (by show 2 * (s.size - skp s r.at_) + 1 ≤ k; omega)
     simp only [Int.natCast_add, Int.natCast_one] at g2
     have hcd : ¬ tokT s (skp s r.at_) = dotT ∨ ps.length = 0 := by
      by_cases h3 : tokT s (skp s r.at_) = dotT
      ·refine .inr ?_
       have : ps = [] := Classical.byContradiction fun h => hdt ⟨h3, h⟩
       rw [this]; rfl
      ·exact .inl h3
     generalize datR s k (r.skip s) (deep + 1) = r2 at *
     have ih : Run G A (.loop spec_l2Datum.l0) [(1, .v (.leaf (.int .i64 deep))), (2, .v (.box (spR s r2 ts))), (4, .v (.box sp0)), (10, .v (.leaf (Kints true (ps ++ [lastR r2]))))] ks (QF true [.O, .V] [.cell 4 6 true] ([.agg (spR s (lpR s k r2 (ps ++ [lastR r2]) deep) ts)], [.gone, .gone])) := by
      by_cases hb2 : r2.bad < 0
      ·have hmv := hf2.2 hb2
       have hra := hf2.1.a
       have : skp s r.at_ < r2.at_ := hmv
       exact slp hs ts k r2 (ps ++ [lastR r2]) deep ks hf2.1 (by omega) hd (by simp only [List.length_append, List.length_singleton]; omega) hE
      ·have e1 : lpR s k r2 (ps ++ [lastR r2]) deep = r2 := by
        cases k with
        | zero => omega
        | succ k => unfold lpR; rw [if_pos (by omega)]
       rw [e1] at hE ⊢
       have hE := hE (ps ++ [lastR r2]) ⟨#[]⟩
       generalize lastR r2 = lr at *
       refine run_loop_at spec_l2Datum.l0.eq_1 ?_
       simp (maxSteps := 1000000) (disch := omega) [ip, wr, hb2]
       refine run_env hE ?_
       simp
     have hc2 : (r2.cells.length : Int) ≤ 1000 := by have := hf2.1.c; omega
     have el : lastR r2 = (r2.cells.length : Int) - 1 := rfl
     rw [el] at ih hE ⊢
     generalize lpR s k r2 (ps ++ [(r2.cells.length : Int) - 1]) deep = r3 at *
     generalize tokT s (skp s r.at_) = T at *
     generalize tokE s (skp s r.at_) = e at *
     generalize skp s r.at_ = p at *
     refine run_loop_at spec_l2Datum.l0.eq_1 ?_
     rcases hcd with hcd | hcd
     ·simp (maxSteps := 1000000) (disch := omega) [ip, wr, hb', h1, h2, hx, hr, hcd, g2, hc2]
      refine run_env ih ?_
      simp
     ·by_cases hdt2 : T = dotT
      ·subst hdt2
       have hpz : ps = [] := List.length_eq_zero_iff.1 hcd
       subst hpz
       simp (maxSteps := 1000000) (disch := omega) [ip, wr, hb', h1, h2, hx, g2, hc2]
       refine run_env ih ?_
       simp
      ·simp (maxSteps := 1000000) (disch := omega) [ip, wr, hb', h1, h2, hx, hr, hdt2, g2, hc2]
       refine run_env ih ?_
       simp
end
end Go.Proofs.YtjcjodcpiickaaaGreatDoor.RA
