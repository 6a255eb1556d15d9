/- Readers: what stands between tokens, tokens, cells; the program's and the reference's. -/
import Derived.Test.YtjcjodcpiickaaaGreatDoorRANameA
import Derived.Test.YtjcjodcpiickaaaGreatDoorRAFam
import Derived.Test.YtjcjodcpiickaaaGreatDoorEngRoundQ
namespace Go.Proofs.YtjcjodcpiickaaaGreatDoor.RA
open Go Go.VS Go.Lib
set_option maxRecDepth 10000
set_option maxHeartbeats 8000000
set_option linter.unusedSimpArgs false
set_option linter.unusedVariables false
theorem skp_end {s : ByteArray} {p : Nat} (h : s.size ≤ p) : skp s p = p := by unfold skp; rw [drop_none h]; rfl
theorem skc_end {s : ByteArray} {p : Nat} (h : s.size ≤ p) : skc s p = p := by unfold skc; rw [drop_none h]; rfl
theorem skp_blank {s : ByteArray} {p : Nat} {b : UInt8} (h : s.data[p]? = some b) (hb : blnk b = true) : skp s p = skp s (p + 1) := by
 unfold skp; rw [drop_some h]; simp only [skL, if_pos hb]; omega
theorem skp_rem {s : ByteArray} {p : Nat} {b : UInt8} (h : s.data[p]? = some b) (hb : ¬ blnk b = true) (h5 : b.toNat = 59) : skp s p = skc s p := by
 unfold skp skc; rw [drop_some h]; simp only [skL, if_neg hb, if_pos h5]
 rw [decide_eq_false (by omega)]; rfl
theorem skp_tok {s : ByteArray} {p : Nat} {b : UInt8} (h : s.data[p]? = some b) (hb : ¬ blnk b = true) (h5 : ¬ b.toNat = 59) : skp s p = p := by
 unfold skp; rw [drop_some h]; simp only [skL, if_neg hb, if_neg h5]; omega
theorem skc_nl {s : ByteArray} {p : Nat} {b : UInt8} (h : s.data[p]? = some b) (h5 : b.toNat = 10) : skp s p = skc s p := by
 unfold skp skc; rw [drop_some h]; simp only [skL]
 rw [if_pos (by simp [blnk, h5]), decide_eq_true h5]; rfl
theorem skc_in {s : ByteArray} {p : Nat} {b : UInt8} (h : s.data[p]? = some b) (h5 : ¬ b.toNat = 10) : skc s p = skc s (p + 1) := by
 unfold skc; rw [drop_some h]; simp only [skL]
 rw [decide_eq_false h5]; simp only [Bool.not_false]; omega
theorem run_end {s : ByteArray} {p : Nat} (h : s.size ≤ p) : runE s p = p := by unfold runE; rw [drop_none h]; rfl
theorem run_in {s : ByteArray} {p : Nat} {b : UInt8} (h : s.data[p]? = some b) (hb : runB b = true) : runE s p = runE s (p + 1) := by
 unfold runE; rw [drop_some h]; simp only [rnL, if_pos hb]; omega
theorem run_out {s : ByteArray} {p : Nat} {b : UInt8} (h : s.data[p]? = some b) (hb : ¬ runB b = true) : runE s p = p := by
 unfold runE; rw [drop_some h]; simp only [rnL, if_neg hb]; omega
theorem tok_end {s : ByteArray} {p : Nat} (h : s.size ≤ p) : tokE s p = p := by unfold tokE; rw [drop_none h]; rfl
theorem tok_lone {s : ByteArray} {p : Nat} {b : UInt8} (h : s.data[p]? = some b) (hb : loneB b = true) : tokE s p = p + 1 := by
 unfold tokE; rw [drop_some h]; simp only [tokL, if_pos hb]
theorem tok_run {s : ByteArray} {p : Nat} {b : UInt8} (h : s.data[p]? = some b) (hb : ¬ loneB b = true) : tokE s p = runE s p := by
 unfold tokE runE; rw [drop_some h]; simp only [tokL, if_neg hb]
theorem byte_lt {s : ByteArray} {p : Nat} {b : UInt8} (h : s.data[p]? = some b) : p < s.size := (Array.getElem?_eq_some_iff.1 h).1
abbrev rdK (s : ByteArray) (n p : Nat) (t : ByteArray) (cs : List KDatum) (bad : Bool) : List L := [.str s, .int .i64 n, .int .i64 p, .str t, .sl true 5 (cs.map (KDatum.row true)), .bool bad]
abbrev spK (s : ByteArray) (r : RD) (tops : List Int) : List L := [.str s, .int .i64 r.at_, .int .i64 r.last, .int .i64 r.bad, .sl true 5 (r.cells.map (KDatum.row true)), .sl true 1 (tops.map fun n : Int => [L.int .i64 n])]
theorem iskip_in (s : ByteArray) (hs : (s.size : Int) ≤ 140737488351232) (pl : Nat) (t : ByteArray) (cs : List KDatum) (bad : Bool) (ks : List Fr) (Q : VX → Env → Prop) : ∀ (k p : Nat), s.size - p ≤ k → p ≤ s.size → (∀ q : Nat, p ≤ q → q ≤ s.size → skp s q = skc s p → Run G A (.exit 3) [(0, .v (.box (rdK s q pl t cs bad))), (55, .v (.leaf (.bool false)))] ks Q) → Run G A (.loop impl_reader_skip.l0) [(0, .v (.box (rdK s p pl t cs bad)))] ks Q
 | k, p, hk, hp, hq => by
  by_cases h : p < s.size
  ·obtain ⟨b, hb⟩ := byte_some h
   have h1 : (p : Int) < s.size := by omega
   by_cases h10 : b.toNat = 10
   ·have hq := hq p (Nat.le_refl _) hp (skc_nl hb h10)
    refine run_loop_at impl_reader_skip.l0.eq_1 ?_
    simp (maxSteps := 1000000) (disch := omega) [ip, wr, h1, hb, h10]
    exact hq
   ·obtain ⟨k, rfl⟩ : ∃ k', k = k' + 1 := ⟨k - 1, by omega⟩
    have ih := iskip_in s hs pl t cs bad ks Q k (p + 1) (by omega) (by omega) fun q h1 h2 h3 => hq q (by omega) h2 (h3.trans (skc_in hb h10).symm)
    refine run_loop_at impl_reader_skip.l0.eq_1 ?_
    simp (maxSteps := 1000000) (disch := omega) [ip, wr, h1, hb, h10]
    exact ih
  ·obtain rfl : p = s.size := by omega
   have hq := hq s.size (Nat.le_refl _) hp (by rw [skp_end (Nat.le_refl _), skc_end (Nat.le_refl _)])
   refine run_loop_at impl_reader_skip.l0.eq_1 ?_
   simp (maxSteps := 1000000) (disch := omega) [ip, wr, ]
   exact hq
theorem iskip_out (s : ByteArray) (hs : (s.size : Int) ≤ 140737488351232) (pl : Nat) (t : ByteArray) (cs : List KDatum) (bad : Bool) : ∀ (k p : Nat) (x : Env), x = [] ∨ x = [(55, .v (.leaf (.bool false)))] → s.size - p ≤ k → p ≤ s.size → Run G A (.loop impl_reader_skip.l1) ((0, .v (.box (rdK s p pl t cs bad))) :: x) [Fr.blk 0] (QF false [.M] [] ([], [.box (rdK s (skp s p) pl t cs bad)]))
 | k, p, x, hx, hk, hp => by
  rcases hx with rfl | rfl
  all_goals
   by_cases h : p < s.size
   ·obtain ⟨b, hb⟩ := byte_some h
    have h1 : (p : Int) < s.size := by omega
    by_cases hbl : blnk b = true
    ·obtain ⟨k, rfl⟩ : ∃ k', k = k' + 1 := ⟨k - 1, by omega⟩
     have ih := iskip_out s hs pl t cs bad k (p + 1) [] (.inl rfl) (by omega) (by omega)
     rw [skp_blank hb hbl]
     unfold blnk at hbl
     simp only [Bool.or_eq_true, decide_eq_true_eq] at hbl
     refine run_loop_at impl_reader_skip.l1.eq_1 ?_
     by_cases h9 : b.toNat = 9
     ·simp (maxSteps := 1000000) (disch := omega) [ip, wr, h1, hb, h9]
      exact ih
     ·by_cases h10 : b.toNat = 10
      ·simp (maxSteps := 1000000) (disch := omega) [ip, wr, h1, hb, h10]
       exact ih
      ·have h32 : b.toNat = 32 := by omega
       simp (maxSteps := 1000000) (disch := omega) [ip, wr, h1, hb, h32]
       exact ih
    ·have hbl' := hbl
     unfold blnk at hbl'
     simp only [Bool.or_eq_true, decide_eq_true_eq, not_or] at hbl'
     obtain ⟨h9, h10, h32⟩ := hbl'
     by_cases h59 : b.toNat = 59
     ·obtain ⟨k, rfl⟩ : ∃ k', k = k' + 1 := ⟨k - 1, by omega⟩
      rw [skp_rem hb hbl h59, skc_in hb h10]
      refine run_loop_at impl_reader_skip.l1.eq_1 ?_
      simp (maxSteps := 1000000) (disch := omega) [ip, wr, h1, hb, h59]
      refine run_loop_at impl_reader_skip.l0.eq_1 ?_
      simp (maxSteps := 1000000) (disch := omega) [ip, wr, h1, hb, h59]
      refine iskip_in s hs pl t cs bad _ _ (s.size - (p + 1)) (p + 1) (Nat.le_refl _) (by omega) fun q g1 g2 g3 => ?_
      rw [← g3]
      simp (maxSteps := 1000000) (disch := omega) [ip, wr, ]
      exact iskip_out s hs pl t cs bad k q _ (.inr rfl) (by omega) g2
     ·rw [skp_tok hb hbl h59]
      refine run_loop_at impl_reader_skip.l1.eq_1 ?_
      simp (maxSteps := 1000000) (disch := omega) [ip, wr, h1, hb, h9, h10, h32, h59]
   ·obtain rfl : p = s.size := by omega
    rw [skp_end (Nat.le_refl _)]
    refine run_loop_at impl_reader_skip.l1.eq_1 ?_
    simp (maxSteps := 1000000) (disch := omega) [ip, wr, ]
theorem iskip {s : ByteArray} (hs : (s.size : Int) ≤ 140737488351232) {n : Nat} (hn : n ≤ s.size) (pl : Nat) (t : ByteArray) (cs : List KDatum) (bad : Bool) : A 148 [.box (rdK s n pl t cs bad)] = some ([], [.box (rdK s (skp s n) pl t cs bad)]) := by
 refine run_impl_reader_skip ?_
 simp (maxSteps := 1000000) (disch := omega) [ip, wr, impl_reader_skip.b]
 exact iskip_out s hs pl t cs bad s.size n [] (.inl rfl) (by omega) hn
theorem isRunByte (b : UInt8) : A 212 [.leaf (.int .u8 b.toNat)] = some ([.leaf (.bool (runB b))], [.gone]) := by
 have h := isSymByte b
 refine run_impl_isRunByte ?_
 unfold runB
 cases hs : sign b <;> rw [hs] at h
 ·have e : ∀ n : Nat, ((b.toNat : Int) = n) = (b.toNat = n) := fun n => by rw [Int.natCast_inj]
  by_cases h35 : (b.toNat : Int) = 35
  ·have h35' : b.toNat = 35 := by omega
   rw [decide_eq_true h35']
   have h2 : A 221 [.leaf (.int .u8 35)] = some ([.leaf (.bool false)], [.gone]) := by
    rw [h35'] at h
    exact h
   simp (maxSteps := 1000000) (disch := omega) [ip, wr, impl_isRunByte.b, h2, h35']
  ·have h35' : ¬ b.toNat = 35 := by omega
   rw [decide_eq_false h35']
   by_cases h46 : (b.toNat : Int) = 46
   ·have h46' : b.toNat = 46 := by omega
    rw [decide_eq_true h46']
    have h2 : A 221 [.leaf (.int .u8 46)] = some ([.leaf (.bool false)], [.gone]) := by
     rw [h46'] at h
     exact h
    simp (maxSteps := 1000000) (disch := omega) [ip, wr, impl_isRunByte.b, h2, h46']
   ·have h46' : ¬ b.toNat = 46 := by omega
    rw [decide_eq_false h46']
    simp (maxSteps := 1000000) (disch := omega) [ip, wr, impl_isRunByte.b, h, h35, h46]
 ·simp (maxSteps := 1000000) (disch := omega) [ip, wr, impl_isRunByte.b, h]
theorem iread_loop (s : ByteArray) (hs : (s.size : Int) ≤ 140737488351232) (pl m : Nat) (t : ByteArray) (cs : List KDatum) (bad : Bool) (ks : List Fr) (Q : VX → Env → Prop) : ∀ (k p : Nat) (x : Env), x = [] ∨ x = [(50, .v (.leaf (.bool false)))] → s.size - p ≤ k → p ≤ s.size → Run G A (.exit 1) [(0, .v (.box (rdK s (runE s p) pl t cs bad))), (2, .v (.leaf (.int .i64 m))), (34, .v (.leaf (.bool false)))] ks Q → Run G A (.loop impl_reader_read.l0) ((0, .v (.box (rdK s p pl t cs bad))) :: (2, .v (.leaf (.int .i64 m))) :: x) ks Q
 | k, p, x, hx, hk, hp, hq => by
  rcases hx with rfl | rfl
  all_goals
   by_cases h : p < s.size
   ·obtain ⟨b, hb⟩ := byte_some h
    have h1 : (p : Int) < s.size := by omega
    have hr := isRunByte b
    by_cases hrb : runB b = true
    ·obtain ⟨k, rfl⟩ : ∃ k', k = k' + 1 := ⟨k - 1, by omega⟩
     rw [run_in hb hrb] at hq
     have ih := iread_loop s hs pl m t cs bad ks Q k (p + 1) [] (.inl rfl) (by omega) (by omega) hq
     rw [hrb] at hr
     refine run_loop_at impl_reader_read.l0.eq_1 ?_
     simp (maxSteps := 1000000) (disch := omega) [ip, wr, h1, hb, hr]
     exact ih
    ·rw [run_out hb hrb] at hq
     rw [Bool.not_eq_true] at hrb
     rw [hrb] at hr
     refine run_loop_at impl_reader_read.l0.eq_1 ?_
     simp (maxSteps := 1000000) (disch := omega) [ip, wr, h1, hb, hr]
     exact hq
   ·obtain rfl : p = s.size := by omega
    rw [run_end (Nat.le_refl _)] at hq
    refine run_loop_at impl_reader_read.l0.eq_1 ?_
    simp (maxSteps := 1000000) (disch := omega) [ip, wr, ]
    exact hq
theorem idx_lone (b : UInt8) : (0 ≤ Lib.indexByte [40, 41, 39] b) ↔ loneB b = true := by
 have h := contains_iff_indexByte [40, 41, 39] b
 rw [List.contains_eq_mem] at h
 unfold loneB
 rw [decide_eq_true_iff]
 exact (decide_eq_decide.mp h).symm
theorem indexLone (b : UInt8) : A 211 [.leaf (.str ⟨#[40, 41, 39]⟩), .leaf (.int .u8 b.toNat)] = some ([.leaf (.int .i64 (Lib.indexByte [40, 41, 39] b))], [.gone, .gone]) :=
 P_strings_IndexByte (by simp [prim_strings_IndexByte, runIndexByte])
theorem iread {s : ByteArray} (hs : (s.size : Int) ≤ 140737488351232) {n : Nat} (hn : n ≤ s.size) (pl : Nat) (t : ByteArray) (cs : List KDatum) (bad : Bool) : A 149 [.box (rdK s n pl t cs bad)] = some ([], [.box (rdK s (tokE s (skp s n)) (skp s n) (tokT s (skp s n)) cs bad)]) := by
 have h0 := iskip hs hn pl t cs bad
 have hp := skp_le hn
 refine run_impl_reader_read ?_
 generalize skp s n = p at *
 by_cases h : p < s.size
 ·obtain ⟨b, hb⟩ := byte_some h
  have h1 : ¬ (p : Int) = s.size := by omega
  have hi := indexLone b
  by_cases hl : loneB b = true
  ·have hx := (idx_lone b).2 hl
   unfold tokT
   rw [tok_lone hb hl]
   simp (maxSteps := 1000000) (disch := omega) [ip, wr, impl_reader_read.b, h0, h1, hb, hi, hx]
  ·have hx : ¬ 0 ≤ Lib.indexByte [40, 41, 39] b := fun h => hl ((idx_lone b).1 h)
   unfold tokT
   rw [tok_run hb hl]
   have hr : p ≤ runE s p ∧ runE s p ≤ s.size := by
    rw [← tok_run hb hl]
    exact ⟨tokE_ge s p, tokE_le hp⟩
   simp (maxSteps := 1000000) (disch := omega) [ip, wr, impl_reader_read.b, h0, h1, hb, hi, hx]
   refine iread_loop s hs p p t cs bad _ _ s.size p _ (.inr rfl) (by omega) hp ?_
   have r1 := hr.1
   have r2 := hr.2
   generalize runE s p = q at *
   simp (maxSteps := 1000000) (disch := omega) [ip, wr, r1, r2]
 ·obtain rfl : p = s.size := by omega
  unfold tokT
  rw [tok_end (Nat.le_refl _)]
  simp (maxSteps := 1000000) (disch := omega) [ip, wr, impl_reader_read.b, h0]
theorem iover {s : ByteArray} (hs : (s.size : Int) ≤ 140737488351232) {n : Nat} (hn : n ≤ s.size) (pl : Nat) (t : ByteArray) (cs : List KDatum) (bad : Bool) : A 64 [.box (rdK s n pl t cs bad)] = some ([.leaf (.bool (decide (skp s n = s.size)))], [.box (rdK s (skp s n) pl t cs bad)]) := by
 have h0 := iskip hs hn pl t cs bad
 refine run_impl_reader_isOver ?_
 simp (maxSteps := 1000000) (disch := omega) [ip, wr, impl_reader_isOver.b, h0]
 omega
/-- The program's reader as the reference tells it. -/
def putI (cs : List KDatum) (bad : Bool) (x : KDatum) : List KDatum × Bool × Int := if 1000 ≤ cs.length then (cs, true, 0) else (cs ++ [x], bad, cs.length)
theorem iput (s : ByteArray) (n pl : Nat) (t : ByteArray) (cs : List KDatum) (bad : Bool) (x : KDatum) : A 214 [.box (rdK s n pl t cs bad), .agg (KDatum.row false x)] = some ([.leaf (.int .i64 (putI cs bad x).2.2)], [.box (rdK s n pl t (putI cs bad x).1 (putI cs bad x).2.1), .gone]) := by
 refine run_impl_reader_put ?_
 unfold putI
 by_cases h : 1000 ≤ cs.length
 ·have h1 : (1000 : Int) ≤ cs.length := by omega
  rw [if_pos h]
  simp (maxSteps := 1000000) (disch := omega) [ip, wr, impl_reader_put.b, h1]
 ·have h1 : ¬ (1000 : Int) ≤ cs.length := by omega
  rw [if_neg h]
  simp (maxSteps := 1000000) (disch := omega) [ip, wr, impl_reader_put.b, h1]
theorem iputQ (s : ByteArray) (n pl : Nat) (t : ByteArray) (cs : List KDatum) (bad : Bool) : A 214 [.box (rdK s n pl t cs bad), .agg [.int .i64 3, .int .i64 0, .str ⟨#[113, 117, 111, 116, 101]⟩, .int .i64 0, .int .i64 0]] = some ([.leaf (.int .i64 (putI cs bad quoteD).2.2)], [.box (rdK s n pl t (putI cs bad quoteD).1 (putI cs bad quoteD).2.1), .gone]) := iput s n pl t cs bad quoteD
theorem iputN (s : ByteArray) (n pl : Nat) (t : ByteArray) (cs : List KDatum) (bad : Bool) : A 214 [.box (rdK s n pl t cs bad), .agg [.int .i64 4, .int .i64 0, .str ⟨#[]⟩, .int .i64 0, .int .i64 0]] = some ([.leaf (.int .i64 (putI cs bad nilD).2.2)], [.box (rdK s n pl t (putI cs bad nilD).1 (putI cs bad nilD).2.1), .gone]) := iput s n pl t cs bad nilD
def goK : List Int → List KDatum → Bool → Int → List KDatum × Bool × Int
 | [], cs, bad, e => (cs, bad, e)
 | p :: ps, cs, bad, e => if bad = true then (cs, true, 0) else goK ps (putI cs bad ⟨5, 0, ⟨#[]⟩, p, e⟩).1 (putI cs bad ⟨5, 0, ⟨#[]⟩, p, e⟩).2.1 (putI cs bad ⟨5, 0, ⟨#[]⟩, p, e⟩).2.2
theorem goK_goL : ∀ (ps : List Int) (cs : List KDatum) (bad : Bool) (e : Int), goL ps (cs.map (KDatum.row true)) bad e = ((goK ps cs bad e).1.map (KDatum.row true), (goK ps cs bad e).2.1, (goK ps cs bad e).2.2)
 | [], cs, bad, e => rfl
 | p :: ps, cs, bad, e => by
  unfold goL goK putI
  rw [List.length_map]
  by_cases hb : bad = true
  ·rw [if_pos hb, if_pos hb]
  ·rw [if_neg hb, if_neg hb]
   by_cases h : 1000 ≤ cs.length
   ·rw [if_pos h, if_pos h]
    exact goK_goL ps cs true 0
   ·rw [if_neg h, if_neg h]
    have := goK_goL ps (cs ++ [⟨5, 0, ⟨#[]⟩, p, e⟩]) bad cs.length
    rw [List.map_append] at this
    exact this
theorem ilist (s : ByteArray) (n pl : Nat) (t : ByteArray) (cs : List KDatum) (bad : Bool) (zs : List Int) (e : Int) (hz : zs.length ≤ 1000000000) : A 215 [.box (rdK s n pl t cs bad), .leaf (Kints false zs), .leaf (.int .i64 e)] = some ([.leaf (.int .i64 (goK zs.reverse cs bad e).2.2)], [.box (rdK s n pl t (goK zs.reverse cs bad e).1 (goK zs.reverse cs bad e).2.1), .gone, .gone]) := by
 refine P_impl_reader_list ?_
 have hf : freeRR (cs.map (KDatum.row true)) = true := KDatum.freeRR cs
 simp only [prim_impl_reader_list, runList, intsOf_map]
 rw [if_pos ⟨hf, hz⟩, goK_goL]
theorem iatom (t : ByteArray) (h : (t.size : Int) ≤ 1000000000) : ∃ x, A 216 [.leaf (.str t)] = some ([.agg (KDatum.row true x), .leaf (.bool (atomD t).isSome)], [.gone]) ∧ ∀ y, atomD t = some y → x = y := by
 have h1 := implReadDec t (by omega)
 have h2 := symOk t (by omega)
 have h3 := inRange (rd t).1 (-1000000) 1000000
 unfold atomD
 by_cases hn : (rd t).2 = true
 ·rw [hn] at h1
  by_cases hr : -1000000 ≤ (rd t).1 ∧ (rd t).1 ≤ 1000000
  ·rw [decide_eq_true hr] at h3
   rw [if_pos ⟨hn, hr⟩]
   refine ⟨⟨1, (rd t).1, ⟨#[]⟩, 0, 0⟩, run_impl_atom ?_, fun y hy => Option.some.inj hy⟩
   generalize (rd t).1 = n at *
   simp (maxSteps := 1000000) (disch := omega) [ip, wr, impl_atom.b, h1, h3]
  ·rw [decide_eq_false hr] at h3
   rw [if_neg (fun h => hr h.2)]
   have e1 : ¬ t = ⟨#[35, 116]⟩ := by
    rintro rfl
    have : (rd ⟨#[35, 116]⟩).2 = false := rd_no fun b t h => by simp only [List.cons.injEq] at h; obtain ⟨rfl, _⟩ := h; decide
    rw [this] at hn; cases hn
   have e2 : ¬ t = ⟨#[35, 102]⟩ := by
    rintro rfl
    have : (rd ⟨#[35, 102]⟩).2 = false := rd_no fun b t h => by simp only [List.cons.injEq] at h; obtain ⟨rfl, _⟩ := h; decide
    rw [this] at hn; cases hn
   have e3 : ¬ sym t = true := by unfold sym; simp [hn]
   rw [if_neg e1, if_neg e2, if_neg e3]
   refine ⟨⟨1, (rd t).1, ⟨#[]⟩, 0, 0⟩, run_impl_atom ?_, fun y hy => by cases hy⟩
   generalize (rd t).1 = n at *
   simp (maxSteps := 1000000) (disch := omega) [ip, wr, impl_atom.b, h1, h3]
 ·rw [if_neg (fun h => hn h.1)]
  rw [Bool.not_eq_true] at hn
  rw [hn] at h1
  by_cases e1 : t = ⟨#[35, 116]⟩
  ·rw [if_pos e1]
   refine ⟨⟨2, 1, ⟨#[]⟩, 0, 0⟩, run_impl_atom ?_, fun y hy => Option.some.inj hy⟩
   subst e1
   generalize (rd _).1 = n at *
   simp (maxSteps := 1000000) (disch := omega) [ip, wr, impl_atom.b, h1]
  ·rw [if_neg e1]
   by_cases e2 : t = ⟨#[35, 102]⟩
   ·rw [if_pos e2]
    refine ⟨⟨2, 0, ⟨#[]⟩, 0, 0⟩, run_impl_atom ?_, fun y hy => Option.some.inj hy⟩
    subst e2
    generalize (rd _).1 = n at *
    simp (maxSteps := 1000000) (disch := omega) [ip, wr, impl_atom.b, h1]
   ·rw [if_neg e2]
    refine ⟨⟨3, 0, t, 0, 0⟩, ?_, fun y hy => ?_⟩
    ·have hs : (if sym t = true then some (⟨3, 0, t, 0, 0⟩ : KDatum) else none).isSome = sym t := by cases sym t <;> rfl
     rw [hs]
     refine run_impl_atom ?_
     generalize (rd t).1 = n at *
     generalize sym t = q at *
     simp (maxSteps := 1000000) (disch := omega) [ip, wr, impl_atom.b, h1, h2, e1, e2]
    ·split at hy
     ·exact Option.some.inj hy
     ·cases hy
end Go.Proofs.YtjcjodcpiickaaaGreatDoor.RA
