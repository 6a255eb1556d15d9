/- What the program's reader makes of a text. -/
import Derived.Test.YtjcjodcpiickaaaGreatDoorRAReadA
namespace Go.Proofs.YtjcjodcpiickaaaGreatDoor.RA
open Go Go.VS Go.Lib
set_option maxRecDepth 10000
set_option maxHeartbeats 8000000
set_option linter.unusedSimpArgs false
set_option linter.unusedVariables false
theorem run_ret {e : Env} {Q : VX → Env → Prop} (h : Q .ret e) : ∀ ks : List Fr, Run G A .ret e ks Q
 | [] => run_ret_nil.2 h
 | _ :: ks => run_ret_cons.2 (run_ret h ks)
/-- What comes back: a number and a reader; or one that is bad at that place. -/
def Out (r : RD) (x : Int) (n p : Nat) (t : ByteArray) (cs : List KDatum) (b : Bool) : Prop :=
 (r.bad < 0 ∧ x = lastR r ∧ n = r.at_ ∧ p = r.last ∧ cs = r.cells ∧ b = false) ∨ (0 ≤ r.bad ∧ p = r.bad.toNat ∧ b = true)
theorem datR_stuck (s : ByteArray) (k : Nat) {r : RD} (deep : Nat) (h : 0 ≤ r.bad) : (datR s k r deep).bad = r.bad := by
 cases k with
 | zero => unfold datR; rfl
 | succ k =>
  unfold datR
  simp only
  rw [if_pos (.inl h), failR_bad (by exact h)]
theorem putI_ok {cs : List KDatum} {bad : Bool} {x : KDatum} (h : cs.length < 1000) : putI cs bad x = (cs ++ [x], bad, (cs.length : Int)) := by unfold putI; rw [if_neg (by omega)]
theorem putI_full {cs : List KDatum} {bad : Bool} {x : KDatum} (h : 1000 ≤ cs.length) : putI cs bad x = (cs, true, 0) := by unfold putI; rw [if_pos h]
theorem putR_full {r : RD} (hb : r.bad < 0) {x : KDatum} (h : 1000 ≤ r.cells.length) : (putR r x).bad = r.last := by
 unfold putR
 rw [if_neg (by omega), if_pos h]
 unfold failR
 rw [if_pos hb]
theorem goK_bad (ps : List Int) (cs : List KDatum) (e : Int) : (goK ps cs true e).2.1 = true := by
 cases ps with
 | nil => rfl
 | cons p ps => unfold goK; rw [if_pos rfl]
theorem goK_lst : ∀ (n : Nat) (ps : List Int) (r : RD), ps.length = n → r.bad < 0 → ((lstR r ps).bad < 0 ∧ goK ps.reverse r.cells false (lastR r) = ((lstR r ps).cells, false, lastR (lstR r ps))) ∨ ((lstR r ps).bad = r.last ∧ (goK ps.reverse r.cells false (lastR r)).2.1 = true)
 | 0, ps, r, hn, hb => by
  obtain rfl := List.length_eq_zero_iff.1 hn
  exact .inl ⟨hb, rfl⟩
 | n + 1, ps, r, hn, hb => by
  obtain ⟨ps', p, rfl⟩ : ∃ ps' p, ps = ps' ++ [p] := by
   have hne : ps ≠ [] := fun h => by rw [h] at hn; cases hn
   exact ⟨ps.dropLast, ps.getLast hne, (List.dropLast_concat_getLast hne).symm⟩
  rw [List.length_append, List.length_singleton] at hn
  rw [lstR_snoc, List.reverse_append, List.reverse_singleton, List.singleton_append]
  unfold goK
  rw [if_neg (by simp)]
  by_cases hc : r.cells.length < 1000
  ·rw [putI_ok hc]
   have e := putR_ok hb (x := ⟨5, 0, ⟨#[]⟩, p, lastR r⟩) hc
   have ih := goK_lst n ps' (pairR r p) (by omega) (by unfold pairR; rw [e]; exact hb)
   have e2 : lastR (pairR r p) = (r.cells.length : Int) := by unfold pairR; rw [e]; simp [lastR]
   have e3 : (pairR r p).cells = r.cells ++ [⟨5, 0, ⟨#[]⟩, p, lastR r⟩] := by unfold pairR; rw [e]
   have e4 : (pairR r p).last = r.last := by unfold pairR; rw [e]
   rw [e2, e3, e4] at ih
   exact ih
  ·rw [putI_full (by omega)]
   refine .inr ⟨?_, goK_bad _ _ _⟩
   have e : (pairR r p).bad = r.last := putR_full hb (by omega)
   rw [lstR_bad (by rw [e]; omega), e]
theorem out_list {r : RD} (hb : r.bad < 0) (ps : List Int) (t : ByteArray) : Out (lstR r ps) (goK ps.reverse r.cells false (lastR r)).2.2 r.at_ r.last t (goK ps.reverse r.cells false (lastR r)).1 (goK ps.reverse r.cells false (lastR r)).2.1 := by
 have ha := lstR_at r ps
 rcases goK_lst ps.length ps r rfl hb with ⟨h1, h2⟩ | ⟨h1, h2⟩
 ·rw [h2]
  exact .inl ⟨h1, rfl, ha.1.symm, ha.2.symm, rfl, rfl⟩
 ·rw [h2]
  exact .inr ⟨by rw [h1]; omega, by rw [h1]; rfl, rfl⟩
theorem out_stuck {r : RD} {p : Nat} (h : r.bad = p) (n : Nat) (t : ByteArray) (cs : List KDatum) (x : Int) : Out r x n p t cs true := .inr ⟨by rw [h]; omega, by rw [h]; rfl, rfl⟩
theorem out_fail {r : RD} (hb : r.bad < 0) (p n : Nat) (t : ByteArray) (cs : List KDatum) (x : Int) : Out (failR r p) x n p t cs true := by
 refine out_stuck ?_ n t cs x
 unfold failR
 rw [if_pos hb]
theorem out_put {r : RD} (hb : r.bad < 0) (x : KDatum) (t : ByteArray) : Out (putR r x) (putI r.cells false x).2.2 r.at_ r.last t (putI r.cells false x).1 (putI r.cells false x).2.1 := by
 by_cases hc : r.cells.length < 1000
 ·rw [putI_ok hc, putR_ok hb hc]
  exact .inl ⟨hb, by simp [lastR], rfl, rfl, rfl, rfl⟩
 ·rw [putI_full (by omega)]
  exact out_stuck (putR_full hb (by omega)) _ _ _ _
/-- A list behind a cell that ends it. -/
theorem out_put_list {r : RD} (hb : r.bad < 0) (x : KDatum) (ps : List Int) (t : ByteArray) :
  Out (lstR (putR r x) ps) (goK ps.reverse (putI r.cells false x).1 (putI r.cells false x).2.1 (putI r.cells false x).2.2).2.2 r.at_ r.last t (goK ps.reverse (putI r.cells false x).1 (putI r.cells false x).2.1 (putI r.cells false x).2.2).1 (goK ps.reverse (putI r.cells false x).1 (putI r.cells false x).2.1 (putI r.cells false x).2.2).2.1 := by
 by_cases hc : r.cells.length < 1000
 ·rw [putI_ok hc, putR_ok hb hc]
  have := out_list (r := ⟨r.at_, r.last, r.bad, r.cells ++ [x]⟩) hb ps t
  have e : lastR (⟨r.at_, r.last, r.bad, r.cells ++ [x]⟩ : RD) = (r.cells.length : Int) := by simp [lastR]
  rw [e] at this
  exact this
 ·rw [putI_full (by omega)]
  have e := putR_full (x := x) hb (by omega)
  rw [lstR_bad (by rw [e]; omega), goK_bad]
  exact out_stuck e _ _ _ _
theorem ifollow {s : ByteArray} (hs : (s.size : Int) ≤ 1000000000) {r : RD} (hf : Fine s r) (pl : Nat) (t0 : ByteArray) (cs : List KDatum) (deep : Nat) (hd : deep ≤ 24) {x : Int} {n' p' : Nat} {t' : ByteArray} {cs' : List KDatum} {b' : Bool}
  (h : A 150 [.box (rdK s (tokE s (skp s r.at_)) (skp s r.at_) (tokT s (skp s r.at_)) cs false), .leaf (.int .i64 deep)] = some ([.leaf (.int .i64 x)], [.box (rdK s n' p' t' cs' b'), .gone])) :
  A 65 [.box (rdK s r.at_ pl t0 cs false), .leaf (.int .i64 deep)] = some ([.leaf (.int .i64 x)], [.box (rdK s n' p' t' cs' b'), .gone]) := by
 have h1 := iread (s := s) (by omega) hf.a pl t0 cs false
 refine run_impl_reader_following ?_
 simp (maxSteps := 1000000) (disch := omega) [ip, wr, impl_reader_following.b, h1, h]
theorem tokT_size (s : ByteArray) (p : Nat) : (tokT s p).size ≤ s.size := by
 unfold tokT
 rw [ByteArray.size_extract]
 omega
mutual
theorem idatum {s : ByteArray} (hs : (s.size : Int) ≤ 1000000000) : ∀ (k : Nat) (r : RD) (deep : Nat), Fine s r → r.bad < 0 → 2 * (s.size - r.at_) + 1 ≤ k → deep ≤ 24 →
  ∃ x n' p' t' cs' b', A 150 [.box (rdK s (tokE s (skp s r.at_)) (skp s r.at_) (tokT s (skp s r.at_)) r.cells false), .leaf (.int .i64 deep)] = some ([.leaf (.int .i64 x)], [.box (rdK s n' p' t' cs' b'), .gone]) ∧ Out (datR s k r deep) x n' p' t' cs' b'
 | 0, r, deep, hf, hb, hk, hd => by omega
 | k + 1, r, deep, hf, hb, hk, hd => by
  have hp := skp_le hf.a
  have hq := skp_ge s r.at_
  have he := tokE_le hp
  have hg := tokE_ge s (skp s r.at_)
  have hgo := go_fine hf (e := tokE s (skp s r.at_)) (p := skp s r.at_) he hp
  have hts := tokT_size s (skp s r.at_)
  unfold datR
  simp only
  by_cases hne : tokE s (skp s r.at_) = skp s r.at_
  ·rw [if_pos (.inr hne)]
   have ht : tokT s (skp s r.at_) = ⟨#[]⟩ := by
    unfold tokT
    rw [hne]
    apply ByteArray.ext
    rw [ByteArray.data_extract]
    simp
    omega
   obtain ⟨y, h1, h2⟩ := iatom ⟨#[]⟩ (by decide)
   have h3 : atomD ⟨#[]⟩ = none := by
    cases ha : atomD ⟨#[]⟩ with
    | none => rfl
    | some c => exact absurd (atom_ok ha).2 fun e => (atom_ok ha).1.ne e
   rw [h3] at h1
   rw [ht]
   refine ⟨0, tokE s (skp s r.at_), skp s r.at_, ⟨#[]⟩, r.cells, true, run_impl_reader_datum ?_, out_fail (by exact hb) _ _ _ _ _⟩
   generalize tokE s (skp s r.at_) = e at *
   generalize skp s r.at_ = p at *
   simp (maxSteps := 1000000) (disch := omega) [ip, wr, impl_reader_datum.b, h1]
  ·rw [if_neg (by intro h; rcases h with h | h; omega; exact hne h)]
   by_cases hq1 : tokT s (skp s r.at_) = quoT
   ·by_cases h24 : 24 ≤ deep
    ·rw [if_pos ⟨.inr hq1, h24⟩, hq1]
     refine ⟨0, tokE s (skp s r.at_), skp s r.at_, quoT, r.cells, true, run_impl_reader_datum ?_, out_fail (by exact hb) _ _ _ _ _⟩
     generalize tokE s (skp s r.at_) = e at *
     generalize skp s r.at_ = p at *
     have h24' : (24 : Int) ≤ deep := by omega
     simp (maxSteps := 1000000) (disch := omega) [ip, wr, impl_reader_datum.b, h24']
    ·rw [if_neg (fun h => h24 h.2), if_pos hq1, hq1]
     have h24' : ¬ (24 : Int) ≤ deep := by omega
     have g1 := iputQ s (tokE s (skp s r.at_)) (skp s r.at_) quoT r.cells false
     by_cases hc : r.cells.length < 1000
     ·rw [putI_ok hc] at g1
      have ep := putR_ok (r := r.go (tokE s (skp s r.at_)) (skp s r.at_)) (by exact hb) (x := quoteD) hc
      have hput := putR_fine hgo quoteD
      have hpt := putR_at (r.go (tokE s (skp s r.at_)) (skp s r.at_)) quoteD
      obtain ⟨x, n', p', t', cs', b', g2, g3⟩ := idatum hs k (putR (r.go (tokE s (skp s r.at_)) (skp s r.at_)) quoteD) (deep + 1) hput (by rw [ep]; exact hb) (by rw [hpt.1]; simp only; omega) (by omega)
      have g2 := ifollow hs hput (skp s r.at_) quoT _ (deep + 1) (by omega) g2
      have el : lastR (putR (r.go (tokE s (skp s r.at_)) (skp s r.at_)) quoteD) = (r.cells.length : Int) := by rw [ep]; simp [lastR]
      rw [el]
      generalize datR s k (putR (r.go (tokE s (skp s r.at_)) (skp s r.at_)) quoteD) (deep + 1) = r2 at *
      rw [ep] at g2
      simp only [Int.natCast_add, Int.natCast_one] at g2
      simp only at g1
      rcases g3 with ⟨b2, rfl, rfl, rfl, rfl, rfl⟩ | ⟨b2, rfl, rfl⟩
      ·have g4 := iputN s r2.at_ r2.last t' r2.cells false
       have g5 := ilist s r2.at_ r2.last t' (putI r2.cells false nilD).1 (putI r2.cells false nilD).2.1 [(r.cells.length : Int), lastR r2] (putI r2.cells false nilD).2.2 (by simp)
       have g6 := out_put_list b2 nilD [(r.cells.length : Int), lastR r2] t'
       refine ⟨_, _, _, _, _, _, run_impl_reader_datum ?_, g6⟩
       generalize (putI r2.cells false nilD) = q at *
       obtain ⟨q1, q2, q3⟩ := q
       simp only [Kints, List.map_cons, List.map_nil] at g4 g5
       generalize goK _ _ _ _ = z at *
       generalize tokE s (skp s r.at_) = e at *
       generalize skp s r.at_ = p at *
       simp (maxSteps := 1000000) (disch := omega) [ip, wr, impl_reader_datum.b, h24', g1, g2, g4, g5]
      ·rw [putR_bad b2, lstR_bad b2]
       refine ⟨0, n', r2.bad.toNat, t', cs', true, run_impl_reader_datum ?_, .inr ⟨b2, rfl, rfl⟩⟩
       generalize r2.bad.toNat = p2 at *
       generalize tokE s (skp s r.at_) = e at *
       generalize skp s r.at_ = p at *
       simp (maxSteps := 1000000) (disch := omega) [ip, wr, impl_reader_datum.b, h24', g1, g2]
     ·rw [putI_full (by omega)] at g1
      simp only at g1
      have e1 : (putR (r.go (tokE s (skp s r.at_)) (skp s r.at_)) quoteD).bad = skp s r.at_ := putR_full (by exact hb) (by simp only; omega)
      have e2 : 0 ≤ (putR (r.go (tokE s (skp s r.at_)) (skp s r.at_)) quoteD).bad := by rw [e1]; omega
      have e3 := datR_stuck s k (deep + 1) e2
      have e4 : 0 ≤ (datR s k (putR (r.go (tokE s (skp s r.at_)) (skp s r.at_)) quoteD) (deep + 1)).bad := by rw [e3]; exact e2
      rw [putR_bad e4, lstR_bad e4]
      refine ⟨0, tokE s (skp s r.at_), skp s r.at_, quoT, r.cells, true, run_impl_reader_datum ?_, out_stuck (e3.trans e1) _ _ _ _⟩
      generalize tokE s (skp s r.at_) = e at *
      generalize skp s r.at_ = p at *
      simp (maxSteps := 1000000) (disch := omega) [ip, wr, impl_reader_datum.b, h24', g1]
   ·by_cases hq2 : tokT s (skp s r.at_) = lpT
    ·by_cases h24 : 24 ≤ deep
     ·rw [if_pos ⟨.inl hq2, h24⟩, hq2]
      refine ⟨0, tokE s (skp s r.at_), skp s r.at_, lpT, r.cells, true, run_impl_reader_datum ?_, out_fail (by exact hb) _ _ _ _ _⟩
      generalize tokE s (skp s r.at_) = e at *
      generalize skp s r.at_ = p at *
      have h24' : (24 : Int) ≤ deep := by omega
      simp (maxSteps := 1000000) (disch := omega) [ip, wr, impl_reader_datum.b, h24']
     ·rw [if_neg (fun h => h24 h.2), if_neg hq1, if_pos hq2, hq2]
      have h24' : ¬ (24 : Int) ≤ deep := by omega
      obtain ⟨rs, os, g1, x, n', p', t', cs', b', g2, g3, g4⟩ : ∃ rs os, A 213 [.box (rdK s (tokE s (skp s r.at_)) (skp s r.at_) lpT r.cells false), .leaf (.int .i64 ((deep : Int) + 1))] = some (rs, os) ∧ ∃ x n' p' t' cs' b', rs = [.leaf (.int .i64 x)] ∧ os = [.box (rdK s n' p' t' cs' b'), .gone] ∧ Out (lpR s k (r.go (tokE s (skp s r.at_)) (skp s r.at_)) [] deep) x n' p' t' cs' b' := by
       obtain ⟨X, hX⟩ : ∃ X : List CV → List CV → Prop, X = fun rs os => ∃ x n' p' t' cs' b', rs = [.leaf (.int .i64 x)] ∧ os = [.box (rdK s n' p' t' cs' b'), .gone] ∧ Out (lpR s k (r.go (tokE s (skp s r.at_)) (skp s r.at_)) [] deep) x n' p' t' cs' b' := ⟨_, rfl⟩
       have hR : ∃ rs os, A 213 [.box (rdK s (tokE s (skp s r.at_)) (skp s r.at_) lpT r.cells false), .leaf (.int .i64 ((deep : Int) + 1))] = some (rs, os) ∧ X rs os := by
        have hin := fun ks => iinner hs k (r.go (tokE s (skp s r.at_)) (skp s r.at_)) [] deep (skp s r.at_) lpT X ks hgo hb (by simp only; omega) (by omega) (by simp only [List.length_nil]; omega) (fun x n' p' t' cs' b' h => by rw [hX]; exact ⟨x, n', p', t', cs', b', rfl, rfl, h⟩)
        clear hX
        refine runE_impl_reader_inner ?_
        simp only at hin
        generalize tokE s (skp s r.at_) = e at *
        generalize skp s r.at_ = p at *
        simp (maxSteps := 1000000) (disch := omega) [ip, wr, impl_reader_inner.b]
        refine hin _ (fun n pl' t cs ps' hx => ?_)
        simp (maxSteps := 1000000) (disch := omega) [ip, wr, ]
        exact hx
       obtain ⟨rs, os, h1, h2⟩ := hR
       rw [hX] at h2
       exact ⟨rs, os, h1, h2⟩
      subst g2
      subst g3
      refine ⟨x, n', p', t', cs', b', run_impl_reader_datum ?_, g4⟩
      generalize tokE s (skp s r.at_) = e at *
      generalize skp s r.at_ = p at *
      simp (maxSteps := 1000000) (disch := omega) [ip, wr, impl_reader_datum.b, h24', g1]
    ·rw [if_neg (by intro h; rcases h.1 with h | h; exact hq2 h; exact hq1 h), if_neg hq1, if_neg hq2]
     obtain ⟨y, h1, h2⟩ := iatom (tokT s (skp s r.at_)) (by omega)
     unfold atomR
     cases ha : atomD (tokT s (skp s r.at_)) with
     | none =>
      rw [ha] at h1
      refine ⟨0, tokE s (skp s r.at_), skp s r.at_, tokT s (skp s r.at_), r.cells, true, run_impl_reader_datum ?_, out_fail (by exact hb) _ _ _ _ _⟩
      generalize tokT s (skp s r.at_) = T at *
      generalize tokE s (skp s r.at_) = e at *
      generalize skp s r.at_ = p at *
      simp (maxSteps := 1000000) (disch := omega) [ip, wr, impl_reader_datum.b, hq1, hq2, h1]
     | some c =>
      rw [ha] at h1
      obtain rfl := h2 c ha
      have g1 := iput s (tokE s (skp s r.at_)) (skp s r.at_) (tokT s (skp s r.at_)) r.cells false y
      refine ⟨_, _, _, _, _, _, run_impl_reader_datum ?_, out_put (r := r.go (tokE s (skp s r.at_)) (skp s r.at_)) (by exact hb) y (tokT s (skp s r.at_))⟩
      simp only
      generalize putI r.cells false y = q at *
      obtain ⟨q1, q2, q3⟩ := q
      generalize tokT s (skp s r.at_) = T at *
      generalize tokE s (skp s r.at_) = e at *
      generalize skp s r.at_ = p at *
      simp (maxSteps := 1000000) (disch := omega) [ip, wr, impl_reader_datum.b, hq1, hq2, h1, g1]
theorem iinner {s : ByteArray} (hs : (s.size : Int) ≤ 1000000000) : ∀ (k : Nat) (r : RD) (ps : List Int) (deep pl : Nat) (t0 : ByteArray) (X : List CV → List CV → Prop) (ks : List Fr), Fine s r → r.bad < 0 → 2 * (s.size - r.at_) + 2 ≤ k → deep < 24 → (ps.length : Int) ≤ r.at_ →
  (∀ x n' p' t' cs' b', Out (lpR s k r ps deep) x n' p' t' cs' b' → X [.leaf (.int .i64 x)] [.box (rdK s n' p' t' cs' b'), .gone]) →
  (∀ (n pl' : Nat) (t : ByteArray) (cs : List KDatum) (ps' : List Int), X [.leaf (.int .i64 0)] [.box (rdK s n pl' t cs true), .gone] → Run G A (.exit 0) [(0, .v (.box (rdK s n pl' t cs true))), (1, .v (.leaf (.int .i64 ((deep : Int) + 1)))), (5, .v (.leaf (Kints true ps'))), (13, .v (.leaf (.bool false)))] ks (QE false [.M, .V] [.tmp 4] X)) →
  Run G A (.loop impl_reader_inner.l0) [(0, .v (.box (rdK s r.at_ pl t0 r.cells false))), (1, .v (.leaf (.int .i64 ((deep : Int) + 1)))), (5, .v (.leaf (Kints true ps)))] ks (QE false [.M, .V] [.tmp 4] X)
 | 0, r, ps, deep, pl, t0, X, ks, hf, hb, hk, hd, hl, hX, hE => by omega
 | k + 1, r, ps, deep, pl, t0, X, ks, hf, hb, hk, hd, hl, hX, hE => by
  have hp := skp_le hf.a
  have hq := skp_ge s r.at_
  have he := tokE_le hp
  have hg := tokE_ge s (skp s r.at_)
  have hgo := go_fine hf (e := tokE s (skp s r.at_)) (p := skp s r.at_) he hp
  have hrd := iread (s := s) (by omega) hf.a pl t0 r.cells false
  have hfa := hf.a
  unfold lpR at hX
  rw [if_neg (by omega)] at hX
  simp only at hX
  by_cases h1 : tokT s (skp s r.at_) = rpT
  ·rw [if_pos h1] at hX
   rw [h1] at hrd
   have g1 := iputN s (tokE s (skp s r.at_)) (skp s r.at_) rpT r.cells false
   have g2 := ilist s (tokE s (skp s r.at_)) (skp s r.at_) rpT (putI r.cells false nilD).1 (putI r.cells false nilD).2.1 ps (putI r.cells false nilD).2.2 (by omega)
   have g3 := hX _ _ _ _ _ _ (out_put_list (r := r.go (tokE s (skp s r.at_)) (skp s r.at_)) (by exact hb) nilD ps rpT)
   simp only at g3
   generalize putI r.cells false nilD = q at *
   obtain ⟨q1, q2, q3⟩ := q
   generalize goK _ _ _ _ = z at *
   generalize tokE s (skp s r.at_) = e at *
   generalize skp s r.at_ = p at *
   refine run_loop_at impl_reader_inner.l0.eq_1 ?_
   simp (maxSteps := 1000000) (disch := omega) [ip, wr, hrd, g1, g2]
   refine run_ret ?_ _
   simp (maxSteps := 1000000) (disch := omega) [ip, wr, ]
   exact g3
  ·rw [if_neg h1] at hX
   by_cases h2 : tokT s (skp s r.at_) = dotT ∧ ps ≠ []
   ·rw [if_pos h2] at hX
    obtain ⟨h2, h2'⟩ := h2
    rw [h2] at hrd
    have hpl : 0 < (ps.length : Int) := by have := List.length_pos_iff.mpr h2'; omega
    have hne : tokE s (skp s r.at_) ≠ skp s r.at_ := fun e => by
     have h3 := h2
     unfold tokT at h3
     rw [e] at h3
     have h4 := congrArg ByteArray.size h3
     simp at h4
    obtain ⟨x, n', p', t', cs', b', g2, g3⟩ := idatum hs k (r.go (tokE s (skp s r.at_)) (skp s r.at_)) (deep + 1) hgo hb (by simp only; omega) (by omega)
    have g2 := ifollow hs hgo (skp s r.at_) dotT _ (deep + 1) (by omega) g2
    have hfin := datR_fine s k (r.go (tokE s (skp s r.at_)) (skp s r.at_)) (deep + 1) hgo (by simp only; omega)
    simp only [Int.natCast_add, Int.natCast_one] at g2
    generalize datR s k (r.go (tokE s (skp s r.at_)) (skp s r.at_)) (deep + 1) = r2 at *
    rcases g3 with ⟨b2, rfl, rfl, rfl, rfl, rfl⟩ | ⟨b2, rfl, rfl⟩
    ·have hrd2 := iread (s := s) (by omega) hfin.1.a r2.last t' r2.cells false
     by_cases h3 : tokT s (skp s r2.at_) = rpT
     ·rw [if_pos h3] at hX
      rw [h3] at hrd2
      have g5 := ilist s (tokE s (skp s r2.at_)) (skp s r2.at_) rpT r2.cells false ps (lastR r2) (by omega)
      have g6 := hX _ _ _ _ _ _ (out_list (r := (r2.skip s).go (tokE s (skp s r2.at_)) (skp s r2.at_)) (by exact b2) ps rpT)
      simp only at g6
      rw [show lastR ((r2.skip s).go (tokE s (skp s r2.at_)) (skp s r2.at_)) = lastR r2 from rfl] at g6
      generalize lastR r2 = lr at *
      generalize goK _ _ _ _ = z at *
      generalize tokE s (skp s r2.at_) = e2 at *
      generalize skp s r2.at_ = p2 at *
      generalize tokE s (skp s r.at_) = e at *
      generalize skp s r.at_ = p at *
      refine run_loop_at impl_reader_inner.l0.eq_1 ?_
      simp (maxSteps := 1000000) (disch := omega) [ip, wr, hrd, g2, hpl, hrd2, g5]
      refine run_ret ?_ _
      simp (maxSteps := 1000000) (disch := omega) [ip, wr, ]
      exact g6
     ·rw [if_neg h3] at hX
      have g5 := ilist s (tokE s (skp s r2.at_)) (skp s r2.at_) (tokT s (skp s r2.at_)) r2.cells true ps (lastR r2) (by omega)
      rw [goK_bad] at g5
      have g6 := hX (goK ps.reverse r2.cells true (lastR r2)).2.2 _ _ _ _ _ (out_fail (r := r2.skip s) (by exact b2) (skp s r2.at_) (tokE s (skp s r2.at_)) (tokT s (skp s r2.at_)) (goK ps.reverse r2.cells true (lastR r2)).1 _)
      generalize lastR r2 = lr at *
      generalize goK _ _ _ _ = z at *
      generalize tokT s (skp s r2.at_) = T2 at *
      generalize tokE s (skp s r2.at_) = e2 at *
      generalize skp s r2.at_ = p2 at *
      generalize tokE s (skp s r.at_) = e at *
      generalize skp s r.at_ = p at *
      refine run_loop_at impl_reader_inner.l0.eq_1 ?_
      simp (maxSteps := 1000000) (disch := omega) [ip, wr, hrd, g2, hpl, hrd2, h3, g5]
      refine run_ret ?_ _
      simp (maxSteps := 1000000) (disch := omega) [ip, wr, ]
      exact g6
    ·have g6 : X [.leaf (.int .i64 0)] [.box (rdK s n' r2.bad.toNat t' cs' true), .gone] := by
      refine hX _ _ _ _ _ _ (.inr ?_)
      split
      ·rw [lstR_bad (by exact b2)]
       exact ⟨b2, rfl, rfl⟩
      ·rw [failR_bad (by exact b2)]
       exact ⟨b2, rfl, rfl⟩
     generalize r2.bad.toNat = p2 at *
     generalize tokE s (skp s r.at_) = e at *
     generalize skp s r.at_ = p at *
     refine run_loop_at impl_reader_inner.l0.eq_1 ?_
     simp (maxSteps := 1000000) (disch := omega) [ip, wr, hrd, g2, hpl]
     refine run_ret ?_ _
     simp (maxSteps := 1000000) (disch := omega) [ip, wr, ]
     exact g6
   ·rw [if_neg h2, datR_skip s k r _ (by omega)] at hX
    obtain ⟨x, n', p', t', cs', b', g2, g3⟩ := idatum hs k r (deep + 1) hf hb (by omega) (by omega)
    have hfin := datR_fine s k r (deep + 1) hf (by omega)
    simp only [Int.natCast_add, Int.natCast_one] at g2
    have hcd : ¬ tokT s (skp s r.at_) = dotT ∨ ps.length = 0 := by
     by_cases h3 : tokT s (skp s r.at_) = dotT
     ·refine .inr ?_
      have : ps = [] := Classical.byContradiction fun h => h2 ⟨h3, h⟩
      rw [this]; rfl
     ·exact .inl h3
    generalize datR s k r (deep + 1) = r2 at *
    rcases g3 with ⟨b2, rfl, rfl, rfl, rfl, rfl⟩ | ⟨b2, rfl, rfl⟩
    ·have hmv := hfin.2 b2
     have hra := hfin.1.a
     have ih := iinner hs k r2 (ps ++ [lastR r2]) deep r2.last t' X ks hfin.1 b2 (by omega) hd (by simp only [List.length_append, List.length_singleton]; omega) hX hE
     generalize lastR r2 = lr at *
     generalize tokT s (skp s r.at_) = T at *
     generalize tokE s (skp s r.at_) = e at *
     generalize skp s r.at_ = p at *
     refine run_loop_at impl_reader_inner.l0.eq_1 ?_
     rcases hcd with hcd | hcd
     ·simp (maxSteps := 1000000) (disch := omega) [ip, wr, hrd, h1, hcd, g2]
      refine run_env ih ?_
      simp
     ·by_cases hdt : T = dotT
      ·subst hdt
       have hpz : ps = [] := List.length_eq_zero_iff.1 hcd
       subst hpz
       simp (maxSteps := 1000000) (disch := omega) [ip, wr, hrd, g2]
       refine run_env ih ?_
       simp
      ·simp (maxSteps := 1000000) (disch := omega) [ip, wr, hrd, h1, hdt, g2]
       refine run_env ih ?_
       simp
    ·have g6 : X [.leaf (.int .i64 0)] [.box (rdK s n' r2.bad.toNat t' cs' true), .gone] := by
      refine hX _ _ _ _ _ _ (.inr ?_)
      cases k with
      | zero => omega
      | succ k =>
       unfold lpR
       rw [if_pos b2]
       exact ⟨b2, rfl, rfl⟩
     have hE := hE n' r2.bad.toNat t' cs' (ps ++ [x]) g6
     generalize r2.bad.toNat = p2 at *
     generalize tokT s (skp s r.at_) = T at *
     generalize tokE s (skp s r.at_) = e at *
     generalize skp s r.at_ = p at *
     refine run_loop_at impl_reader_inner.l0.eq_1 ?_
     rcases hcd with hcd | hcd
     ·simp (maxSteps := 1000000) (disch := omega) [ip, wr, hrd, h1, hcd, g2]
      refine run_loop_at impl_reader_inner.l0.eq_1 ?_
      simp (maxSteps := 1000000) (disch := omega) [ip, wr, ]
      refine run_env hE ?_
      simp
     ·by_cases hdt : T = dotT
      ·subst hdt
       have hpz : ps = [] := List.length_eq_zero_iff.1 hcd
       subst hpz
       simp (maxSteps := 1000000) (disch := omega) [ip, wr, hrd, g2]
       refine run_loop_at impl_reader_inner.l0.eq_1 ?_
       simp (maxSteps := 1000000) (disch := omega) [ip, wr, ]
       refine run_env hE ?_
       simp
      ·simp (maxSteps := 1000000) (disch := omega) [ip, wr, hrd, h1, hdt, g2]
       refine run_loop_at impl_reader_inner.l0.eq_1 ?_
       simp (maxSteps := 1000000) (disch := omega) [ip, wr, ]
       refine run_env hE ?_
       simp
end
end Go.Proofs.YtjcjodcpiickaaaGreatDoor.RA
