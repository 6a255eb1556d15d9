/- What the reference's reader makes of a text. -/
import Derived.Test.YtjcjodcpiickaaaGreatDoorRAReadA
namespace Go.Proofs.YtjcjodcpiickaaaGreatDoor.RA
open Go Go.VS Go.Lib
set_option maxRecDepth 10000
set_option maxHeartbeats 8000000
set_option linter.unusedSimpArgs false
set_option linter.unusedVariables false
abbrev sp6 (s : ByteArray) (a l : Nat) (b : Int) (cs : List KDatum) (ts : List Int) : List L := [.str s, .int .i64 a, .int .i64 l, .int .i64 b, .sl true 5 (cs.map (KDatum.row true)), .sl true 1 (ts.map fun n : Int => [L.int .i64 n])]
abbrev sp0 : List L := [.str ⟨#[]⟩, .int .i64 0, .int .i64 0, .int .i64 0, .sl true 5 [], .sl true 1 []]
theorem sBlank (b : UInt8) : A 151 [.leaf (.int .u8 b.toNat)] = some ([.leaf (.bool (blnk b))], [.gone]) := by
 refine run_spec_l2Blank ?_
 unfold blnk
 by_cases h9 : b.toNat = 9
 ·simp (maxSteps := 1000000) (disch := omega) [ip, wr, spec_l2Blank.b, h9]
 ·by_cases h10 : b.toNat = 10
  ·simp (maxSteps := 1000000) (disch := omega) [ip, wr, spec_l2Blank.b, h10]
  ·by_cases h32 : b.toNat = 32
   ·simp (maxSteps := 1000000) (disch := omega) [ip, wr, spec_l2Blank.b, h32]
   ·simp (maxSteps := 1000000) (disch := omega) [ip, wr, spec_l2Blank.b, h9, h10, h32]
    omega
theorem sskip_in (s : ByteArray) (hs : (s.size : Int) ≤ 140737488351232) (l : Nat) (bd : Int) (cs : List KDatum) (ts : List Int) (ks : List Fr) (Q : VX → Env → Prop) : ∀ (k p : Nat), s.size - p ≤ k → p ≤ s.size → (∀ q : Nat, p ≤ q → q ≤ s.size → skp s q = skc s p → Run G A (.exit 2) [(1, .v (.box (sp6 s q l bd cs ts))), (2, .v (.box sp0)), (39, .v (.leaf (.bool false)))] ks Q) → Run G A (.loop spec_l2Skip.l0) [(1, .v (.box (sp6 s p l bd cs ts))), (2, .v (.box sp0))] ks Q
 | k, p, hk, hp, hq => by
  by_cases h : p < s.size
  ·obtain ⟨b, hb⟩ := byte_some h
   have h1 : (p : Int) < s.size := by omega
   by_cases h10 : b.toNat = 10
   ·have hq := hq p (Nat.le_refl _) hp (skc_nl hb h10)
    refine run_loop_at spec_l2Skip.l0.eq_1 ?_
    simp (maxSteps := 1000000) (disch := omega) [ip, wr, h1, hb, h10]
    exact hq
   ·obtain ⟨k, rfl⟩ : ∃ k', k = k' + 1 := ⟨k - 1, by omega⟩
    have ih := sskip_in s hs l bd cs ts ks Q k (p + 1) (by omega) (by omega) fun q h1 h2 h3 => hq q (by omega) h2 (h3.trans (skc_in hb h10).symm)
    refine run_loop_at spec_l2Skip.l0.eq_1 ?_
    simp (maxSteps := 1000000) (disch := omega) [ip, wr, h1, hb, h10]
    exact ih
  ·obtain rfl : p = s.size := by omega
   have hq := hq s.size (Nat.le_refl _) hp (by rw [skp_end (Nat.le_refl _), skc_end (Nat.le_refl _)])
   refine run_loop_at spec_l2Skip.l0.eq_1 ?_
   simp (maxSteps := 1000000) (disch := omega) [ip, wr, ]
   exact hq
theorem sskip {s : ByteArray} (hs : (s.size : Int) ≤ 140737488351232) {n : Nat} (hn : n ≤ s.size) (l : Nat) (bd : Int) (cs : List KDatum) (ts : List Int) : A 66 [.agg (sp6 s n l bd cs ts)] = some ([.agg (sp6 s (skp s n) l bd cs ts)], [.gone]) := by
 have out : ∀ (k p : Nat) (x : Env), x = [] ∨ x = [(39, .v (.leaf (.bool false)))] ∨ x = [(14, .v (.leaf (.bool true)))] → s.size - p ≤ k → p ≤ s.size → Run G A (.loop spec_l2Skip.l1) ((1, .v (.box (sp6 s p l bd cs ts))) :: (2, .v (.box sp0)) :: x) [Fr.blk 0, Fr.seq (.seq (.region [uo (.load 44 (.t 1) 6 true), uo (.store (.t 2) (.t 44) 6)] [2]) .ret)] (QF true [.O] [.cell 2 6 true] ([.agg (sp6 s (skp s p) l bd cs ts)], [.gone])) := by
  intro k
  induction k with
  | zero =>
   intro p x hx hk hp
   obtain rfl : p = s.size := by omega
   rw [skp_end (Nat.le_refl _)]
   refine run_loop_at spec_l2Skip.l1.eq_1 ?_
   rcases hx with rfl | rfl | rfl <;> simp (maxSteps := 1000000) (disch := omega) [ip, wr, ]
  | succ k ih =>
   intro p x hx hk hp
   by_cases h : p < s.size
   ·obtain ⟨b, hb⟩ := byte_some h
    have h1 : (p : Int) < s.size := by omega
    have hB := sBlank b
    by_cases hbl : blnk b = true
    ·rw [skp_blank hb hbl]
     rw [hbl] at hB
     refine run_loop_at spec_l2Skip.l1.eq_1 ?_
     rcases hx with rfl | rfl | rfl
     all_goals
      simp (maxSteps := 1000000) (disch := omega) [ip, wr, h1, hb, hB]
      first | exact ih (p + 1) _ (.inl rfl) (by omega) (by omega) | exact ih (p + 1) _ (.inr (.inr rfl)) (by omega) (by omega)
    ·have hbl' := hbl
     rw [Bool.not_eq_true] at hbl'
     rw [hbl'] at hB
     have h10 : ¬ b.toNat = 10 := fun h => hbl (by unfold blnk; simp [h])
     by_cases h59 : b.toNat = 59
     ·rw [skp_rem hb hbl h59, skc_in hb h10]
      have hB2 : A 151 [.leaf (.int .u8 59)] = some ([.leaf (.bool false)], [.gone]) := by
       rw [h59] at hB
       exact hB
      refine run_loop_at spec_l2Skip.l1.eq_1 ?_
      rcases hx with rfl | rfl | rfl
      all_goals
       simp (maxSteps := 1000000) (disch := omega) [ip, wr, h1, hb, hB2, h59]
       refine run_loop_at spec_l2Skip.l0.eq_1 ?_
       simp (maxSteps := 1000000) (disch := omega) [ip, wr, h1, hb, h59]
       refine sskip_in s hs l bd cs ts _ _ (s.size - (p + 1)) (p + 1) (Nat.le_refl _) (by omega) fun q g1 g2 g3 => ?_
       rw [← g3]
       simp (maxSteps := 1000000) (disch := omega) [ip, wr, ]
       exact ih q _ (.inr (.inl rfl)) (by omega) g2
     ·rw [skp_tok hb hbl h59]
      refine run_loop_at spec_l2Skip.l1.eq_1 ?_
      rcases hx with rfl | rfl | rfl <;> simp (maxSteps := 1000000) (disch := omega) [ip, wr, h1, hb, hB, h59]
   ·obtain rfl : p = s.size := by omega
    rw [skp_end (Nat.le_refl _)]
    refine run_loop_at spec_l2Skip.l1.eq_1 ?_
    rcases hx with rfl | rfl | rfl <;> simp (maxSteps := 1000000) (disch := omega) [ip, wr, ]
 refine run_spec_l2Skip ?_
 simp (maxSteps := 1000000) (disch := omega) [ip, wr, spec_l2Skip.b]
 exact out s.size n [] (.inl rfl) (by omega) hn
theorem stok_loop (s : ByteArray) (hs : (s.size : Int) ≤ 140737488351232) (ks : List Fr) (Q : VX → Env → Prop) : ∀ (k p : Nat) (x : Env), x = [] ∨ x = [(13, .v (.leaf (.bool false)))] → s.size - p ≤ k → p ≤ s.size → Run G A (.exit 0) [(0, .v (.leaf (.str s))), (1, .v (.leaf (.int .i64 (runE s p)))), (37, .v (.leaf (.bool false)))] ks Q → Run G A (.loop spec_l2Token.l0) ((0, .v (.leaf (.str s))) :: (1, .v (.leaf (.int .i64 p))) :: x) ks Q
 | k, p, x, hx, hk, hp, hq => by
  rcases hx with rfl | rfl
  all_goals
   by_cases h : p < s.size
   ·obtain ⟨b, hb⟩ := byte_some h
    have h1 : (p : Int) < s.size := by omega
    have hr := l2Sign b
    by_cases hrb : runB b = true
    ·obtain ⟨k, rfl⟩ : ∃ k', k = k' + 1 := ⟨k - 1, by omega⟩
     rw [run_in hb hrb] at hq
     have ih := stok_loop s hs ks Q k (p + 1) [] (.inl rfl) (by omega) (by omega) hq
     refine run_loop_at spec_l2Token.l0.eq_1 ?_
     unfold runB at hrb
     cases hsg : sign b <;> rw [hsg] at hr hrb
     ·by_cases h35 : b.toNat = 35
      ·have h2 : A 173 [.leaf (.int .u8 35)] = some ([.leaf (.bool false)], [.gone]) := by rw [h35] at hr; exact hr
       simp (maxSteps := 1000000) (disch := omega) [ip, wr, h1, hb, h2, h35]
       exact ih
      ·have h46 : b.toNat = 46 := by simpa [h35] using hrb
       have h2 : A 173 [.leaf (.int .u8 46)] = some ([.leaf (.bool false)], [.gone]) := by rw [h46] at hr; exact hr
       simp (maxSteps := 1000000) (disch := omega) [ip, wr, h1, hb, h2, h46]
       exact ih
     ·simp (maxSteps := 1000000) (disch := omega) [ip, wr, h1, hb, hr]
      exact ih
    ·rw [run_out hb hrb] at hq
     rw [Bool.not_eq_true] at hrb
     unfold runB at hrb
     simp only [Bool.or_eq_false_iff, decide_eq_false_iff_not] at hrb
     obtain ⟨hsg, h35, h46⟩ := hrb
     rw [hsg] at hr
     refine run_loop_at spec_l2Token.l0.eq_1 ?_
     have h46i : ¬ (b.toNat : Int) = 46 := by omega
     simp (maxSteps := 1000000) (disch := omega) [ip, wr, h1, hb, hr, h35, h46, h46i]
     exact hq
   ·obtain rfl : p = s.size := by omega
    rw [run_end (Nat.le_refl _)] at hq
    refine run_loop_at spec_l2Token.l0.eq_1 ?_
    simp (maxSteps := 1000000) (disch := omega) [ip, wr, ]
    exact hq
theorem stok {s : ByteArray} (hs : (s.size : Int) ≤ 140737488351232) {p : Nat} (hp : p ≤ s.size) : A 152 [.leaf (.str s), .leaf (.int .i64 p)] = some ([.leaf (.int .i64 (tokE s p))], [.gone, .gone]) := by
 refine run_spec_l2Token ?_
 by_cases h : p < s.size
 ·obtain ⟨b, hb⟩ := byte_some h
  have h1 : ¬ (s.size : Int) ≤ p := by omega
  have hi := l2In b ⟨#[40, 41, 39]⟩ (by decide)
  have e : decide (b ∈ (⟨#[40, 41, 39]⟩ : ByteArray).data.toList) = loneB b := rfl
  rw [e] at hi
  by_cases hl : loneB b = true
  ·rw [hl] at hi
   rw [tok_lone hb hl]
   simp (maxSteps := 1000000) (disch := omega) [ip, wr, spec_l2Token.b, h1, hb, hi]
  ·rw [tok_run hb hl]
   rw [Bool.not_eq_true] at hl
   rw [hl] at hi
   simp (maxSteps := 1000000) (disch := omega) [ip, wr, spec_l2Token.b, h1, hb, hi]
   refine stok_loop s hs _ _ s.size p _ (.inr rfl) (by omega) hp ?_
   simp (maxSteps := 1000000) (disch := omega) [ip, wr, ]
 ·obtain rfl : p = s.size := by omega
  rw [tok_end (Nat.le_refl _)]
  simp (maxSteps := 1000000) (disch := omega) [ip, wr, spec_l2Token.b]
theorem sfail (s : ByteArray) (r : RD) (ts : List Int) (p : Nat) : A 153 [.agg (sp6 s r.at_ r.last r.bad r.cells ts), .leaf (.int .i64 p)] = some ([.agg (sp6 s (failR r p).at_ (failR r p).last (failR r p).bad (failR r p).cells ts)], [.gone, .gone]) := by
 refine run_spec_l2Fail ?_
 unfold failR
 by_cases h : r.bad < 0
 ·rw [if_pos h]
  simp (maxSteps := 1000000) (disch := omega) [ip, wr, spec_l2Fail.b, h]
 ·rw [if_neg h]
  simp (maxSteps := 1000000) (disch := omega) [ip, wr, spec_l2Fail.b, h]
theorem sput (s : ByteArray) (r : RD) (ts : List Int) (x : KDatum) : A 154 [.agg (sp6 s r.at_ r.last r.bad r.cells ts), .agg (KDatum.row false x)] = some ([.agg (sp6 s (putR r x).at_ (putR r x).last (putR r x).bad (putR r x).cells ts)], [.gone, .gone]) := by
 have hf := sfail s r ts r.last
 refine run_spec_l2Put ?_
 unfold putR
 by_cases h : 0 ≤ r.bad
 ·rw [if_pos h]
  simp (maxSteps := 1000000) (disch := omega) [ip, wr, spec_l2Put.b, h]
 ·rw [if_neg h]
  by_cases hc : 1000 ≤ r.cells.length
  ·have hc' : (1000 : Int) ≤ r.cells.length := by omega
   rw [if_pos hc]
   generalize failR r r.last = q at *
   simp (maxSteps := 1000000) (disch := omega) [ip, wr, spec_l2Put.b, h, hc', hf]
  ·have hc' : ¬ (1000 : Int) ≤ r.cells.length := by omega
   rw [if_neg hc]
   simp (maxSteps := 1000000) (disch := omega) [ip, wr, spec_l2Put.b, h, hc']
   simpa using KDatum.freeRR (r.cells ++ [x])
theorem sputQ (s : ByteArray) (r : RD) (ts : List Int) : A 154 [.agg (sp6 s r.at_ r.last r.bad r.cells ts), .agg [.int .i64 3, .int .i64 0, .str ⟨#[113, 117, 111, 116, 101]⟩, .int .i64 0, .int .i64 0]] = some ([.agg (sp6 s (putR r quoteD).at_ (putR r quoteD).last (putR r quoteD).bad (putR r quoteD).cells ts)], [.gone, .gone]) := sput s r ts quoteD
theorem sputN (s : ByteArray) (r : RD) (ts : List Int) : A 154 [.agg (sp6 s r.at_ r.last r.bad r.cells ts), .agg [.int .i64 4, .int .i64 0, .str ⟨#[]⟩, .int .i64 0, .int .i64 0]] = some ([.agg (sp6 s (putR r nilD).at_ (putR r nilD).last (putR r nilD).bad (putR r nilD).cells ts)], [.gone, .gone]) := sput s r ts nilD
theorem sputP (s : ByteArray) (r : RD) (ts : List Int) (p : Int) : A 154 [.agg (sp6 s r.at_ r.last r.bad r.cells ts), .agg [.int .i64 5, .int .i64 0, .str ⟨#[]⟩, .int .i64 p, .int .i64 ((r.cells.length : Int) - 1)]] = some ([.agg (sp6 s (pairR r p).at_ (pairR r p).last (pairR r p).bad (pairR r p).cells ts)], [.gone, .gone]) := sput s r ts ⟨5, 0, ⟨#[]⟩, p, lastR r⟩
theorem lstR_append (r : RD) (a b : List Int) : lstR r (a ++ b) = lstR (lstR r b) a := by unfold lstR; rw [List.foldr_append]
theorem putR_len {r : RD} (h : r.cells.length ≤ 1000) (x : KDatum) : (putR r x).cells.length ≤ 1000 := by
 unfold putR
 split
 ·exact h
 ·split
  ·unfold failR; split <;> exact h
  ·simp only [List.length_append, List.length_singleton]; omega
theorem slist (s : ByteArray) (r : RD) (ts : List Int) (ps : List Int) (hc0 : r.cells.length ≤ 1000) (hp : (ps.length : Int) ≤ 1000000000) : A 155 [.agg (sp6 s r.at_ r.last r.bad r.cells ts), .leaf (Kints false ps)] = some ([.agg (sp6 s (lstR r ps).at_ (lstR r ps).last (lstR r ps).bad (lstR r ps).cells ts)], [.gone, .gone]) := by
 have key : ∀ (n : Nat) (r' : RD), n ≤ ps.length → lstR r ps = lstR r' (ps.take n) → r'.cells.length ≤ 1000 → Run G A (.loop spec_l2List.l0) [(1, .v (.leaf (Kints false ps))), (2, .v (.box (sp6 s r'.at_ r'.last r'.bad r'.cells ts))), (4, .v (.box sp0)), (5, .v (.leaf (.int .i64 ((n : Int) - 1))))] [Fr.blk 0, Fr.seq (.seq (.region [uo (.load 30 (.t 2) 6 true), uo (.store (.t 4) (.t 30) 6)] [4]) .ret)] (QF true [.O, .V] [.cell 4 6 true] ([.agg (sp6 s (lstR r ps).at_ (lstR r ps).last (lstR r ps).bad (lstR r ps).cells ts)], [.gone, .gone])) := by
  intro n
  induction n with
  | zero =>
   intro r' hn he hc
   rw [he]
   refine run_loop_at spec_l2List.l0.eq_1 ?_
   simp (maxSteps := 1000000) (disch := omega) [ip, wr, lstR]
  | succ n ih =>
   intro r' hn he hc
   by_cases hb : r'.bad < 0
   ·have hx : ps[n]? = some ps[n] := List.getElem?_eq_getElem (by omega)
    have g1 := sputP s r' ts ps[n]
    have he' : lstR r ps = lstR (pairR r' ps[n]) (ps.take n) := by
     rw [he, List.take_add_one, hx, lstR_append]
     rfl
    have ih := ih (pairR r' ps[n]) (by omega) he' (putR_len hc _)
    have hcl : (r'.cells.length : Int) ≤ 1000 := by omega
    generalize hy : ps[n] = y at *
    generalize pairR r' y = q at *
    have hnl : n < ps.length := by omega
    refine run_loop_at spec_l2List.l0.eq_1 ?_
    simp (maxSteps := 1000000) (disch := omega) [ip, wr, hb, hx, hy, at_get hx, g1, hnl, hcl]
    exact ih
   ·rw [he, lstR_bad (by omega)]
    refine run_loop_at spec_l2List.l0.eq_1 ?_
    simp (maxSteps := 1000000) (disch := omega) [ip, wr, hb]
 refine run_spec_l2List ?_
 simp (maxSteps := 1000000) (disch := omega) [ip, wr, spec_l2List.b]
 exact key ps.length r (Nat.le_refl _) (by rw [List.take_length]) hc0
theorem satom {s : ByteArray} (r : RD) (ts : List Int) (t : ByteArray) (p : Nat) (h : (t.size : Int) ≤ 1000000000) : A 156 [.agg (sp6 s r.at_ r.last r.bad r.cells ts), .leaf (.str t), .leaf (.int .i64 p)] = some ([.agg (sp6 s (atomR r t p).at_ (atomR r t p).last (atomR r t p).bad (atomR r t p).cells ts)], [.gone, .gone, .gone]) := by
 have h1 := specReadDec t (by omega)
 have h2 := l2Sym t (by omega)
 have h3 := l1In (rd t).1 (-1000000) 1000000
 have hf := sfail s r ts p
 refine run_spec_l2Atom ?_
 unfold atomR atomD
 by_cases hn : (rd t).2 = true ∧ -1000000 ≤ (rd t).1 ∧ (rd t).1 ≤ 1000000
 ·have hp := sput s r ts ⟨1, (rd t).1, ⟨#[]⟩, 0, 0⟩
  rw [if_pos hn]
  rw [hn.1] at h1
  rw [decide_eq_true hn.2] at h3
  simp only
  generalize (rd t).1 = n at *
  generalize putR r _ = q at *
  simp (maxSteps := 1000000) (disch := omega) [ip, wr, spec_l2Atom.b, h1, h3, hp]
 ·rw [if_neg hn]
  by_cases e1 : t = ⟨#[35, 116]⟩
  ·have hp := sput s r ts ⟨2, 1, ⟨#[]⟩, 0, 0⟩
   rw [if_pos e1]
   subst e1
   simp only
   generalize putR r _ = q at *
   cases hr : (rd ⟨#[35, 116]⟩).2 <;> rw [hr] at h1 hn
   ·generalize (rd ⟨#[35, 116]⟩).1 = n at *
    simp (maxSteps := 1000000) (disch := omega) [ip, wr, spec_l2Atom.b, h1, hp]
   ·have hn' : ¬ (-1000000 ≤ (rd ⟨#[35, 116]⟩).1 ∧ (rd ⟨#[35, 116]⟩).1 ≤ 1000000) := fun h => hn ⟨rfl, h⟩
    rw [decide_eq_false hn'] at h3
    generalize (rd ⟨#[35, 116]⟩).1 = n at *
    simp (maxSteps := 1000000) (disch := omega) [ip, wr, spec_l2Atom.b, h1, h3, hp]
  ·rw [if_neg e1]
   by_cases e2 : t = ⟨#[35, 102]⟩
   ·have hp := sput s r ts ⟨2, 0, ⟨#[]⟩, 0, 0⟩
    rw [if_pos e2]
    subst e2
    simp only
    generalize putR r _ = q at *
    cases hr : (rd ⟨#[35, 102]⟩).2 <;> rw [hr] at h1 hn
    ·generalize (rd ⟨#[35, 102]⟩).1 = n at *
     simp (maxSteps := 1000000) (disch := omega) [ip, wr, spec_l2Atom.b, h1, hp]
    ·have hn' : ¬ (-1000000 ≤ (rd ⟨#[35, 102]⟩).1 ∧ (rd ⟨#[35, 102]⟩).1 ≤ 1000000) := fun h => hn ⟨rfl, h⟩
     rw [decide_eq_false hn'] at h3
     generalize (rd ⟨#[35, 102]⟩).1 = n at *
     simp (maxSteps := 1000000) (disch := omega) [ip, wr, spec_l2Atom.b, h1, h3, hp]
   ·rw [if_neg e2]
    have hp := sput s r ts ⟨3, 0, t, 0, 0⟩
    generalize failR r p = q2 at *
    cases hr : (rd t).2 <;> rw [hr] at h1 hn
    ·cases hsy : sym t <;> rw [hsy] at h2
     ·rw [if_neg (by simp)]
      simp only
      generalize (rd t).1 = n at *
      simp (maxSteps := 1000000) (disch := omega) [ip, wr, spec_l2Atom.b, h1, h2, e1, e2, hf]
     ·rw [if_pos rfl]
      simp only
      generalize putR r ⟨3, 0, t, 0, 0⟩ = q at *
      generalize (rd t).1 = n at *
      simp (maxSteps := 1000000) (disch := omega) [ip, wr, spec_l2Atom.b, h1, h2, e1, e2, hp]
    ·have hn' : ¬ (-1000000 ≤ (rd t).1 ∧ (rd t).1 ≤ 1000000) := fun h => hn ⟨rfl, h⟩
     rw [decide_eq_false hn'] at h3
     cases hsy : sym t <;> rw [hsy] at h2
     ·rw [if_neg (by simp)]
      simp only
      generalize (rd t).1 = n at *
      simp (maxSteps := 1000000) (disch := omega) [ip, wr, spec_l2Atom.b, h1, h2, h3, e1, e2, hf]
     ·rw [if_pos rfl]
      simp only
      generalize putR r ⟨3, 0, t, 0, 0⟩ = q at *
      generalize (rd t).1 = n at *
      simp (maxSteps := 1000000) (disch := omega) [ip, wr, spec_l2Atom.b, h1, h2, h3, e1, e2, hp]
end Go.Proofs.YtjcjodcpiickaaaGreatDoor.RA
