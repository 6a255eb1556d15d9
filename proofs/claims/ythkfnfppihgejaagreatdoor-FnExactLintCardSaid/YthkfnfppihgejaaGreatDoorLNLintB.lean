/- What is odd in a source: the program's and the reference's tell the same. -/
import Derived.Test.YthkfnfppihgejaaGreatDoorLNLintA
namespace Go.Proofs.YthkfnfppihgejaaGreatDoor.LN
open Go Go.VS Go.Lib
set_option maxRecDepth 10000
set_option maxHeartbeats 8000000
set_option linter.unusedSimpArgs false
set_option linter.unusedVariables false
theorem less_le (l o : List ByteArray) : (lessB l o).length ≤ l.length := by
 have := less_length o l []
 simpa [lessB] using this
/-- What is odd in a source. -/
noncomputable def lintR (D E U S given : List ByteArray) : List KNote := noteL 1 (lessB (lessB U D) given) ++ (noteL 2 (lessB (lessB D E) U) ++ noteL 3 (lessB S D))
noncomputable def lintB (s : KSrc) (given : List ByteArray) : List KNote := if srcB s = true then lintR (s.defs.map KDef.name) s.exports (usedB (progsOf s)) (setsAll (progsOf s)) given else []
theorem noteL_length (k : Int) (l : List ByteArray) : (noteL k l).length = l.length := by simp [noteL]
structure Few (s : KSrc) : Prop where
 d : (s.defs.map KDef.name).length ≤ 30
 e : s.exports.length ≤ 30
 u : (usedB (progsOf s)).length ≤ 24000
 s : (setsAll (progsOf s)).length ≤ 24000
theorem few_of {s : KSrc} (h : srcB s = true) (hw : (KSrc.w s : Int) ≤ 1048576) : Few s := by
 obtain ⟨ok, w, n⟩ := progsOk_of h hw
 have h1 := fold_len freeP (progsOf s) [] fun p hp => freeP_len (ok p hp)
 have h2 := fold_len setsB (progsOf s) [] fun p hp => setsB_len (ok p hp)
 unfold srcB fewB at h
 simp only [Bool.and_eq_true, decide_eq_true_eq] at h
 simp only [List.length_nil] at h1 h2
 refine ⟨by rw [List.length_map]; omega, by omega, ?_, ?_⟩
 ·unfold usedB; omega
 ·unfold setsAll; omega
theorem lintR_length (D E U S given : List ByteArray) : (lintR D E U S given).length ≤ U.length + D.length + S.length := by
 unfold lintR
 simp only [List.length_append, noteL_length]
 have h1 := less_le (lessB U D) given
 have h2 := less_le U D
 have h3 := less_le (lessB D E) U
 have h4 := less_le D E
 have h5 := less_le S D
 omega
theorem lintB_length (s : KSrc) (given : List ByteArray) (hw : (KSrc.w s : Int) ≤ 1048576) : (lintB s given).length ≤ 50000 := by
 unfold lintB
 split
 ·rename_i h
  obtain ⟨d, e, u, s'⟩ := few_of h hw
  have := lintR_length (s.defs.map KDef.name) s.exports (usedB (progsOf s)) (setsAll (progsOf s)) given
  omega
 ·simp
theorem implLint (s : KSrc) (given : List ByteArray) (hw : (KSrc.w s : Int) ≤ 1048576) (hg : (given.length : Int) ≤ 1048576) : A 9 [.agg (KSrc.row false s), .leaf (Kstrs false given)] = some ([.leaf (KNote.sl true (lintB s given))], [.gone, .gone]) := by
 have hP := implSrcOk s hw
 refine run_impl_Lint ?_
 unfold lintB
 cases hk : srcB s with
 | false =>
  rw [hk] at hP
  simp (maxSteps := 1000000) (disch := omega) [ip, wr, impl_Lint.b, hP]
 | true =>
  rw [hk] at hP
  obtain ⟨fd, fe, fu, fs⟩ := few_of hk hw
  obtain ⟨ok, w, n⟩ := progsOk_of hk hw
  have hU := implFreeNames s hk hw
  have hPr := implProgs s hw
  have hw2 := hw
  simp only [KSrc.w] at hw2
  have hD := implDefNames s.defs (by omega)
  rw [if_pos rfl]
  have key : ∀ (D E U S : List ByteArray), D.length ≤ 30 → E.length ≤ 30 → U.length ≤ 24000 → S.length ≤ 24000 →
    A 33 [.leaf (Kstrs false U), .leaf (Kstrs false D)] = some ([.leaf (Kstrs true (lessB U D))], [.gone, .gone]) ∧
    A 33 [.leaf (Kstrs false (lessB U D)), .leaf (Kstrs false given)] = some ([.leaf (Kstrs true (lessB (lessB U D) given))], [.gone, .gone]) ∧
    A 33 [.leaf (Kstrs false D), .leaf (Kstrs false E)] = some ([.leaf (Kstrs true (lessB D E))], [.gone, .gone]) ∧
    A 33 [.leaf (Kstrs false (lessB D E)), .leaf (Kstrs false U)] = some ([.leaf (Kstrs true (lessB (lessB D E) U))], [.gone, .gone]) ∧
    A 33 [.leaf (Kstrs false S), .leaf (Kstrs false D)] = some ([.leaf (Kstrs true (lessB S D))], [.gone, .gone]) ∧
    A 35 [.leaf (.int .i64 1), .leaf (Kstrs false (lessB (lessB U D) given))] = some ([.leaf (KNote.sl true (noteL 1 (lessB (lessB U D) given)))], [.gone, .gone]) ∧
    A 35 [.leaf (.int .i64 2), .leaf (Kstrs false (lessB (lessB D E) U))] = some ([.leaf (KNote.sl true (noteL 2 (lessB (lessB D E) U)))], [.gone, .gone]) ∧
    A 35 [.leaf (.int .i64 3), .leaf (Kstrs false (lessB S D))] = some ([.leaf (KNote.sl true (noteL 3 (lessB S D)))], [.gone, .gone]) ∧
    A 34 [.leaf (.sl false 1 [[KNote.sl false (noteL 1 (lessB (lessB U D) given))], [KNote.sl false (noteL 2 (lessB (lessB D E) U))], [KNote.sl false (noteL 3 (lessB S D))]])] = some ([.leaf (KNote.sl true (lintR D E U S given))], [.gone]) := by
   intro D E U S d e u s
   have h1 := less_le (lessB U D) given
   have h2 := less_le U D
   have h3 := less_le (lessB D E) U
   have h4 := less_le D E
   have h5 := less_le S D
   refine ⟨implLess U D (by omega) (by omega), implLess (lessB U D) given (by omega) hg, implLess D E (by omega) (by omega), implLess (lessB D E) U (by omega) (by omega), implLess S D (by omega) (by omega), implNotesOf 1 _ (by omega), implNotesOf 2 _ (by omega), implNotesOf 3 _ (by omega), ?_⟩
   have hC := nConcat [noteL 1 (lessB (lessB U D) given), noteL 2 (lessB (lessB D E) U), noteL 3 (lessB S D)] (by simp) (by simp [noteL_length]; omega)
   simpa [lintR] using hC
  generalize usedB (progsOf s) = U at *
  have hSl : ∀ j, ((progsOf s).take j).length ≤ 60 := fun j => by rw [List.length_take]; omega
  generalize hps : progsOf s = ps at *
  obtain ⟨name, imports, exports, types, defs, convs⟩ := s
  simp only at hD fd fe hU hPr hP ⊢
  generalize defs.map KDef.name = D at *
  obtain ⟨k1, k2, k3, k4, k5, k6, k7, k8, k9⟩ := key D exports U (setsAll ps) fd fe fu fs
  have hRl := lintR_length D exports U (setsAll ps) given
  generalize lintR D exports U (setsAll ps) given = R at *
  generalize hS : setsAll ps = S at *
  simp (maxSteps := 1000000) (disch := omega) [ip, wr, impl_Lint.b, hP, hD, hU, hPr]
  refine at_fold (fun e j (o : List ByteArray) => (e.put 21 (.v (.leaf (.int .i64 j)))).put 7 (.v (.leaf (Kstrs true o)))) impl_Lint.l0.eq_1 (fun o p => (setsB p).foldl put1 o) ps [] (by simp) ?_ (fun j p hp hj ih => ?_)
  ·have e : ps.foldl (fun o p => (setsB p).foldl put1 o) [] = S := hS
   rw [e]
   generalize lessB (lessB U D) given = L1 at *
   generalize lessB U D = L2 at *
   generalize lessB (lessB D exports) U = L3 at *
   generalize lessB D exports = L4 at *
   generalize lessB S D = L5 at *
   generalize noteL 1 L1 = N1 at *
   generalize noteL 2 L3 = N2 at *
   generalize noteL 3 L5 = N3 at *
   simp (maxSteps := 1000000) (disch := omega) [ip, wr, k1, k2, k3, k4, k5, k6, k7, k8, k9]
  ·have hm := List.mem_of_getElem? hp
   have hT := implSets p (w p hm)
   have hl := setsB_len (ok p hm)
   have ho := fold_len setsB (ps.take j) [] fun q hq => setsB_len (ok q (List.mem_of_mem_take hq))
   rw [List.length_take] at ho
   simp only [List.length_nil] at ho
   generalize (ps.take j).foldl (fun o p => (setsB p).foldl put1 o) [] = o at *
   have hA := implAddOnce o (setsB p) (by omega)
   generalize (setsB p).foldl put1 o = o2 at *
   generalize setsB p = f at *
   obtain ⟨nodes, root⟩ := p
   simp (maxSteps := 1000000) (disch := omega) [ip, wr, hp, at_get hp, hT, hA]
   refine run_env ih ?_
   simp
theorem specFreeP {p : KProg} (hk : progB p = true) (hw : (KProg.w p : Int) ≤ 1048576) : A 22 [.agg (KProg.row false p), .leaf (.int .i64 p.root), .leaf (Kstrs false []), .leaf (Kstrs true [])] = some ([.leaf (Kstrs true (freeP p))], [.gone, .gone, .gone, .gone]) := by
 obtain ⟨hok, hroot, hpos⟩ := progB_ok hk
 have hlen := progB_len hk
 have hs := size_le hk (k := p.root.toNat) (by omega)
 simp only [KProg.w] at hw
 have h := l5Free p.nodes p.root (argsLt_of hk) (nodeB_of hk) hlen (by omega) p.nodes.length p.root.toNat [] [] (by omega) (by omega) (by simp; omega) (by simp; omega)
 rw [show ((p.root.toNat : Nat) : Int) = p.root by omega] at h
 exact h
theorem lessB_filter (o : List ByteArray) : ∀ (l s : List ByteArray), l.foldl (lessStep o) s = s ++ l.filter fun x => !decide (x ∈ o)
 | [], s => by simp
 | x :: l, s => by
  rw [List.foldl_cons, lessB_filter o l]
  unfold lessStep
  by_cases h : x ∈ o
  ·simp [h]
  ·simp [h]
theorem lessB_eq (l o : List ByteArray) : lessB l o = l.filter fun x => !decide (x ∈ o) := by
 unfold lessB
 rw [lessB_filter, List.nil_append]
def note2 (k : Int) (P Q : List ByteArray) (o : List KNote) (x : ByteArray) : List KNote := if x ∈ P ∨ x ∈ Q then o else o ++ [⟨k, x⟩]
def note1 (k : Int) (P : List ByteArray) (o : List KNote) (x : ByteArray) : List KNote := if x ∈ P then o else o ++ [⟨k, x⟩]
theorem note2_fold (k : Int) (P Q : List ByteArray) : ∀ (l : List ByteArray) (o : List KNote), l.foldl (note2 k P Q) o = o ++ noteL k (lessB (lessB l P) Q)
 | [], o => by simp [lessB, noteL]
 | x :: l, o => by
  have ih := note2_fold k P Q l
  have e : note2 k P Q o x = if x ∈ P ∨ x ∈ Q then o else o ++ [⟨k, x⟩] := rfl
  rw [List.foldl_cons, ih, e]
  simp only [lessB_eq, noteL]
  by_cases h : x ∈ P
  ·simp [h]
  ·by_cases h2 : x ∈ Q
   ·simp [h, h2]
   ·simp [h, h2]
theorem note1_fold (k : Int) (P : List ByteArray) : ∀ (l : List ByteArray) (o : List KNote), l.foldl (note1 k P) o = o ++ noteL k (lessB l P)
 | [], o => by simp [lessB, noteL]
 | x :: l, o => by
  have ih := note1_fold k P l
  have e : note1 k P o x = if x ∈ P then o else o ++ [⟨k, x⟩] := rfl
  rw [List.foldl_cons, ih, e]
  simp only [lessB_eq, noteL]
  by_cases h : x ∈ P
  ·simp [h]
  ·simp [h]
theorem note2_len (k : Int) (P Q : List ByteArray) (l : List ByteArray) (o : List KNote) : (l.foldl (note2 k P Q) o).length ≤ o.length + l.length := by
 rw [note2_fold, List.length_append, noteL_length]
 have h1 := less_le (lessB l P) Q
 have h2 := less_le l P
 omega
theorem note1_len (k : Int) (P : List ByteArray) (l : List ByteArray) (o : List KNote) : (l.foldl (note1 k P) o).length ≤ o.length + l.length := by
 rw [note1_fold, List.length_append, noteL_length]
 have h1 := less_le l P
 omega
theorem pair_fold (g h : KProg → List ByteArray) : ∀ (ps : List KProg) (a b : List ByteArray), ps.foldl (fun (st : List ByteArray × List ByteArray) p => ((g p).foldl put1 st.1, (h p).foldl put1 st.2)) (a, b) = (ps.foldl (fun o p => (g p).foldl put1 o) a, ps.foldl (fun o p => (h p).foldl put1 o) b)
 | [], a, b => rfl
 | p :: ps, a, b => by simp only [List.foldl_cons, pair_fold g h ps]
theorem specLint (s : KSrc) (given : List ByteArray) (hw : (KSrc.w s : Int) ≤ 1048576) (hg : (given.length : Int) ≤ 1048576) : A 6 [.agg (KSrc.row false s), .leaf (Kstrs false given)] = some ([.leaf (KNote.sl true (lintB s given))], [.gone, .gone]) := by
 have hP := specSrcOk s hw
 refine run_spec_Lint ?_
 unfold lintB
 cases hk : srcB s with
 | false =>
  rw [hk] at hP
  simp (maxSteps := 1000000) (disch := omega) [ip, wr, spec_Lint.b, hP]
 | true =>
  rw [hk] at hP
  obtain ⟨fd, fe, fu, fs⟩ := few_of hk hw
  obtain ⟨ok, w, n⟩ := progsOk_of hk hw
  have hAl := specAll s hw
  have hw2 := hw
  simp only [KSrc.w] at hw2
  have hD := specDefNames s.defs (by omega)
  rw [if_pos rfl]
  generalize hps : progsOf s = ps at *
  obtain ⟨name, imports, exports, types, defs, convs⟩ := s
  simp only at hD fd fe hAl hP ⊢
  generalize defs.map KDef.name = D at *
  simp (maxSteps := 1000000) (disch := omega) [ip, wr, spec_Lint.b, hP, hD, hAl]
  refine at_fold (fun e j (st : List ByteArray × List ByteArray) => ((e.put 10 (.v (.leaf (.int .i64 j)))).put 7 (.v (.leaf (Kstrs true st.1)))).put 8 (.v (.leaf (Kstrs true st.2)))) spec_Lint.l2.eq_1 (fun (st : List ByteArray × List ByteArray) p => ((freeP p).foldl put1 st.1, (setsB p).foldl put1 st.2)) ps ([], []) (by simp) ?_ (fun j p hp hj ih => ?_)
  ·rw [pair_fold]
   have eU : ps.foldl (fun o p => (freeP p).foldl put1 o) [] = usedB ps := rfl
   have eS : ps.foldl (fun o p => (setsB p).foldl put1 o) [] = setsAll ps := rfl
   rw [eU, eS]
   simp only
   generalize usedB ps = U at *
   generalize setsAll ps = S at *
   simp (maxSteps := 1000000) (disch := omega) [ip, wr, ]
   refine at_fold (fun e j (o : List KNote) => (e.put 15 (.v (.leaf (.int .i64 j)))).put 5 (.v (.leaf (KNote.sl true o)))) spec_Lint.l3.eq_1 (note2 1 D given) U [] (by simp) ?_ (fun j x hx hj ih => ?_)
   ·rw [note2_fold, List.nil_append]
    have hl1 := noteL_length 1 (lessB (lessB U D) given)
    have hl2 := less_le (lessB U D) given
    have hl3 := less_le U D
    generalize hN1 : noteL 1 (lessB (lessB U D) given) = N1 at *
    simp (maxSteps := 1000000) (disch := omega) [ip, wr, ]
    refine at_fold (fun e j (o : List KNote) => (e.put 16 (.v (.leaf (.int .i64 j)))).put 5 (.v (.leaf (KNote.sl true o)))) spec_Lint.l4.eq_1 (note2 2 exports U) D N1 (by simp) ?_ (fun j x hx hj ih => ?_)
    ·rw [note2_fold]
     have hm1 := noteL_length 2 (lessB (lessB D exports) U)
     have hm2 := less_le (lessB D exports) U
     have hm3 := less_le D exports
     have hml : (N1 ++ noteL 2 (lessB (lessB D exports) U)).length ≤ 24000 + 30 := by rw [List.length_append]; omega
     generalize hN2 : N1 ++ noteL 2 (lessB (lessB D exports) U) = N2 at *
     simp (maxSteps := 1000000) (disch := omega) [ip, wr, ]
     refine at_fold (fun e j (o : List KNote) => (e.put 17 (.v (.leaf (.int .i64 j)))).put 5 (.v (.leaf (KNote.sl true o)))) spec_Lint.l5.eq_1 (note1 3 D) S N2 (by simp) ?_ (fun j x hx hj ih => ?_)
     ·rw [note1_fold]
      have e : N2 ++ noteL 3 (lessB S D) = lintR D exports U S given := by rw [← hN2, ← hN1]; simp [lintR]
      rw [e]
      generalize lintR D exports U S given = R at *
      simp (maxSteps := 1000000) (disch := omega) [ip, wr, ]
     ·have hol := note1_len 3 D (S.take j) N2
      rw [List.length_take] at hol
      have en : ∀ o, note1 3 D o x = if x ∈ D then o else o ++ [⟨3, x⟩] := fun _ => rfl
      rw [en] at ih
      generalize (S.take j).foldl (note1 3 D) N2 = o at *
      have c1 := l3In x D (by omega)
      by_cases hm : x ∈ D
      ·rw [decide_eq_true hm] at c1
       rw [if_pos hm] at ih
       simp (maxSteps := 1000000) (disch := omega) [ip, wr, hx, at_get hx, c1]
       refine run_env ih ?_
       simp
      ·rw [decide_eq_false hm] at c1
       rw [if_neg hm] at ih
       simp (maxSteps := 1000000) (disch := omega) [ip, wr, hx, at_get hx, c1]
       refine run_env ih ?_
       simp
    ·have hol := note2_len 2 exports U (D.take j) N1
     rw [List.length_take] at hol
     have en : ∀ o, note2 2 exports U o x = if x ∈ exports ∨ x ∈ U then o else o ++ [⟨2, x⟩] := fun _ => rfl
     rw [en] at ih
     generalize (D.take j).foldl (note2 2 exports U) N1 = o at *
     have c1 := l3In x exports (by omega)
     have c2 := l3In x U (by omega)
     by_cases hm : x ∈ exports
     ·rw [decide_eq_true hm] at c1
      rw [if_pos (.inl hm)] at ih
      simp (maxSteps := 1000000) (disch := omega) [ip, wr, hx, at_get hx, c1]
      refine run_env ih ?_
      simp
     ·rw [decide_eq_false hm] at c1
      by_cases hm2 : x ∈ U
      ·rw [decide_eq_true hm2] at c2
       rw [if_pos (.inr hm2)] at ih
       simp (maxSteps := 1000000) (disch := omega) [ip, wr, hx, at_get hx, c1, c2]
       refine run_env ih ?_
       simp
      ·rw [decide_eq_false hm2] at c2
       rw [if_neg (fun h => h.elim hm hm2)] at ih
       simp (maxSteps := 1000000) (disch := omega) [ip, wr, hx, at_get hx, c1, c2]
       refine run_env ih ?_
       simp
   ·have hol := note2_len 1 D given (U.take j) []
    rw [List.length_take] at hol
    simp only [List.length_nil] at hol
    have en : ∀ o, note2 1 D given o x = if x ∈ D ∨ x ∈ given then o else o ++ [⟨1, x⟩] := fun _ => rfl
    rw [en] at ih
    generalize (U.take j).foldl (note2 1 D given) [] = o at *
    have c1 := l3In x D (by omega)
    have c2 := l3In x given (by omega)
    by_cases hm : x ∈ D
    ·rw [decide_eq_true hm] at c1
     rw [if_pos (.inl hm)] at ih
     simp (maxSteps := 1000000) (disch := omega) [ip, wr, hx, at_get hx, c1]
     refine run_env ih ?_
     simp
    ·rw [decide_eq_false hm] at c1
     by_cases hm2 : x ∈ given
     ·rw [decide_eq_true hm2] at c2
      rw [if_pos (.inr hm2)] at ih
      simp (maxSteps := 1000000) (disch := omega) [ip, wr, hx, at_get hx, c1, c2]
      refine run_env ih ?_
      simp
     ·rw [decide_eq_false hm2] at c2
      rw [if_neg (fun h => h.elim hm hm2)] at ih
      simp (maxSteps := 1000000) (disch := omega) [ip, wr, hx, at_get hx, c1, c2]
      refine run_env ih ?_
      simp
  ·have hm := List.mem_of_getElem? hp
   have hkp := ok p hm
   have hF := specFreeP hkp (w p hm)
   have hT := specSets p (w p hm)
   have hfl := freeP_len hkp
   have hsl := setsB_len hkp
   rw [pair_fold] at ih ⊢
   have hu := fold_len freeP (ps.take j) [] fun q hq => freeP_len (ok q (List.mem_of_mem_take hq))
   have ho := fold_len setsB (ps.take j) [] fun q hq => setsB_len (ok q (List.mem_of_mem_take hq))
   rw [List.length_take] at hu ho
   simp only [List.length_nil] at hu ho
   generalize (ps.take j).foldl (fun o p => (freeP p).foldl put1 o) [] = u at *
   generalize (ps.take j).foldl (fun o p => (setsB p).foldl put1 o) [] = v at *
   simp only at ih ⊢
   generalize hfp : freeP p = f at *
   generalize hsp : setsB p = g at *
   obtain ⟨nodes, root⟩ := p
   simp only [Kstrs, List.map_nil] at hF
   simp (maxSteps := 1000000) (disch := omega) [ip, wr, hp, at_get hp, hF, hT]
   refine at_fold (fun e j (o : List ByteArray) => (e.put 12 (.v (.leaf (.int .i64 j)))).put 7 (.v (.leaf (Kstrs true o)))) spec_Lint.l0.eq_1 put1 f u (by simp) ?_ (fun i x hx hi ih2 => ?_)
   ·have hul := put1s_length f u
    generalize f.foldl put1 u = u2 at *
    simp (maxSteps := 1000000) (disch := omega) [ip, wr, hp, at_get hp, hT]
    refine at_fold (fun e j (o : List ByteArray) => (e.put 14 (.v (.leaf (.int .i64 j)))).put 8 (.v (.leaf (Kstrs true o)))) spec_Lint.l1.eq_1 put1 g v (by simp) ?_ (fun i x hx hi ih2 => ?_)
    ·generalize g.foldl put1 v = v2 at *
     simp (maxSteps := 1000000) (disch := omega) [ip, wr, ]
     refine run_env ih ?_
     simp
    ·have hvl := put1s_length (g.take i) v
     rw [List.length_take] at hvl
     generalize (g.take i).foldl put1 v = o at *
     have c1 := l3In x o (by omega)
     have en : put1 o x = if x ∈ o then o else o ++ [x] := rfl
     rw [en] at ih2
     by_cases hmx : x ∈ o
     ·rw [decide_eq_true hmx] at c1
      rw [if_pos hmx] at ih2
      simp (maxSteps := 1000000) (disch := omega) [ip, wr, hx, at_get hx, c1]
      refine run_env ih2 ?_
      simp
     ·rw [decide_eq_false hmx] at c1
      rw [if_neg hmx] at ih2
      simp (maxSteps := 1000000) (disch := omega) [ip, wr, hx, at_get hx, c1]
      refine run_env ih2 ?_
      simp
   ·have hul := put1s_length (f.take i) u
    rw [List.length_take] at hul
    generalize (f.take i).foldl put1 u = o at *
    have c1 := l3In x o (by omega)
    have en : put1 o x = if x ∈ o then o else o ++ [x] := rfl
    rw [en] at ih2
    by_cases hmx : x ∈ o
    ·rw [decide_eq_true hmx] at c1
     rw [if_pos hmx] at ih2
     simp (maxSteps := 1000000) (disch := omega) [ip, wr, hx, at_get hx, c1]
     refine run_env ih2 ?_
     simp
    ·rw [decide_eq_false hmx] at c1
     rw [if_neg hmx] at ih2
     simp (maxSteps := 1000000) (disch := omega) [ip, wr, hx, at_get hx, c1]
     refine run_env ih2 ?_
     simp
end Go.Proofs.YthkfnfppihgejaaGreatDoor.LN
