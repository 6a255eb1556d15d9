/- What a source needs, and what needs it: the program's and the reference's tell the same. -/
import Derived.Test.YticecjjfbjnaaaaNENeedA
namespace Go.Proofs.Yticecjjfbjnaaaa.NE
open Go Go.VS Go.Lib
set_option maxRecDepth 10000
set_option maxHeartbeats 8000000
set_option linter.unusedSimpArgs false
set_option linter.unusedVariables false
theorem srcAt1 (x : KSrc) (name : ByteArray) : A 38 [.agg (KSrc.row false x), .box [.str name]] = some ([.leaf (.bool (decide (x.name = name)))], [.gone, .box [.str name]]) := by
  refine run_impl_srcAt_1 ?_
  by_cases h : x.name = name
  · simp (maxSteps := 1000000) (disch := omega) [if_pos, if_neg, wrap_i64, wrap_u8, impl_srcAt_1.b, h]
  · simp (maxSteps := 1000000) (disch := omega) [if_pos, if_neg, wrap_i64, wrap_u8, impl_srcAt_1.b, h]
theorem srcIndex (l : List KSrc) (name : ByteArray) (hl : (l.length : Int) ≤ 1048576) : A 37 [.leaf (KSrc.sl false l), .leaf (.clo 38 [.string name])] = some ([.leaf (.int .i64 (atB l name))], [.gone, .leaf (.clo 38 [.string name])]) := by
  refine run_slices_IndexFunc_impl_Src_impl_Src ?_
  simp (maxSteps := 1000000) (disch := omega) [if_pos, if_neg, wrap_i64, wrap_u8, slices_IndexFunc_impl_Src_impl_Src.b]
  refine at_find 8 slices_IndexFunc_impl_Src_impl_Src.l0.eq_1 (fun s : KSrc => decide (s.name = name)) l (by simp) (fun g _ => ?_) (fun i x hx hi hp ih => ?_) (fun i x hx hi hp g => ?_)
  · simp (maxSteps := 1000000) (disch := omega) [if_pos, if_neg, wrap_i64, wrap_u8, atB, g]
  · have h1 := srcAt1 x name
    rw [hp] at h1
    simp (maxSteps := 1000000) (disch := omega) [if_pos, if_neg, wrap_i64, wrap_u8, hx, at_get hx, h1]
    refine run_env ih ?_
    simp
  · have h1 := srcAt1 x name
    rw [hp] at h1
    simp (maxSteps := 1000000) (disch := omega) [if_pos, if_neg, wrap_i64, wrap_u8, hx, at_get hx, h1, atB, g]
theorem implSrcAt (l : List KSrc) (name : ByteArray) (hl : (l.length : Int) ≤ 1048576) : A 21 [.leaf (KSrc.sl false l), .leaf (.str name)] = some ([.leaf (.int .i64 (atB l name))], [.gone, .gone]) := by
  have h1 := srcIndex l name hl
  refine run_impl_srcAt ?_
  simp (maxSteps := 1000000) (disch := omega) [if_pos, if_neg, wrap_i64, wrap_u8, impl_srcAt.b, h1]
theorem sDelete (xs : List ByteArray) (name : ByteArray) (h : xs.length ≤ 1000000000) : A 23 [.leaf (Kstrs true xs), .leaf (.clo 24 [.string name])] = some ([.leaf (Kstrs true (delS name xs))], [.gone, .gone]) := P_slices_DeleteFunc_string_string (runDelS_at _ name xs h)
theorem sSort (xs : List ByteArray) (h : xs.length ≤ 1000000000) : A 25 [.leaf (Kstrs true xs)] = some ([], [.leaf (Kstrs true (sortS xs))]) := P_slices_Sort_string_string (runSortS_at xs h)
theorem implNeeds (l : List KSrc) (name : ByteArray) (hl : (l.length : Int) ≤ 1048576) (hu : (KSrc.us l : Int) ≤ 1048576) : A 8 [.leaf (KSrc.sl false l), .leaf (.str name)] = some ([.leaf (Kstrs true (needsB l name))], [.gone, .gone]) := by
  rw [← needs_same]
  have hA := fun x => implSrcAt l x hl
  have hin := atB_in l name
  have hU := uN_len l
  have h1 := hA name
  refine run_impl_Needs ?_
  unfold needsI
  by_cases h : atB l name < 0
  · rw [if_pos h]
    simp (maxSteps := 1000000) (disch := omega) [if_pos, if_neg, wrap_i64, wrap_u8, impl_Needs.b, h1, h]
  · rw [if_neg h]
    have hlt : (atB l name).toNat < l.length := by omega
    have hx : l[(atB l name).toNat]? = some l[(atB l name).toNat] := List.getElem?_eq_getElem hlt
    generalize l[(atB l name).toNat] = s at hx
    have hs := imp_len hx
    simp only [KSrc.w] at hs
    have h2 := implAddOnceL [] s.imports (by simp; omega)
    rw [put1_addL] at h2
    rw [gN_some h hx]
    have hr0 := addL_nil_le s.imports
    have h0 : 0 ≤ atB l name := by omega
    generalize addL [] s.imports = r0 at *
    generalize atB l name = p at *
    have st := CInv.start (gN l) (uN l) r0
    generalize closeN (gN l) (r0.length + (uN l).length) r0 0 = R at *
    simp only [Kstrs, List.map_nil] at h2
    simp (maxSteps := 1000000) (disch := omega) [if_pos, if_neg, wrap_i64, wrap_u8, impl_Needs.b, h1, h, h0, hx, at_get hx, h2]
    refine at_while (σ := List ByteArray × Nat) (fun e s => (e.put 6 (.v (.leaf (Kstrs true s.1)))).put 7 (.v (.leaf (.int .i64 s.2)))) impl_Needs.l0.eq_1 (fun s => r0.length + (uN l).length - s.2) (fun s => CInv (gN l) (uN l) r0 R s.1 s.2) (r0, 0) (by simp) st ?_
    rintro ⟨row, i⟩ hi ih
    simp only at hi ih ⊢
    have hlen := hi.len
    by_cases hil : i < row.length
    · obtain ⟨st1, u, hu1⟩ := hi.step (gN_in l) hil
      have hxi : row[i]? = some row[i] := List.getElem?_eq_getElem hil
      generalize row[i] = y at hxi st1 hu1
      have k1 := hA y
      have kin := atB_in l y
      have ih := ih (addL row (gN l y), i + 1) (by simp only; omega) st1
      have hil' : (i : Int) < row.length := by omega
      simp only at ih
      by_cases hk : atB l y < 0
      · rw [gN_none hk] at ih
        have e : addL row [] = row := rfl
        rw [e] at ih
        have hk' : ¬ 0 ≤ atB l y := by omega
        generalize atB l y = q at *
        simp (maxSteps := 1000000) (disch := omega) [if_pos, if_neg, wrap_i64, wrap_u8, hil', hxi, at_get hxi, k1, hk, hk']
        refine run_env ih ?_
        simp
      · have hlt2 : (atB l y).toNat < l.length := by omega
        have hx2 : l[(atB l y).toNat]? = some l[(atB l y).toNat] := List.getElem?_eq_getElem hlt2
        generalize l[(atB l y).toNat] = s2 at hx2
        have hs2 := imp_len hx2
        simp only [KSrc.w] at hs2
        have h3 := implAddOnceL row s2.imports (by omega)
        rw [put1_addL] at h3
        rw [gN_some hk hx2] at ih
        have hk' : 0 ≤ atB l y := by omega
        generalize addL row s2.imports = row2 at *
        generalize atB l y = q at *
        simp (maxSteps := 1000000) (disch := omega) [if_pos, if_neg, wrap_i64, wrap_u8, hil', hxi, at_get hxi, k1, hk, hk', hx2, at_get hx2, h3]
        refine run_env ih ?_
        simp
    · have e := hi.done hil
      subst e
      have hil' : ¬ (i : Int) < row.length := by omega
      have d1 := sDelete row name (by omega)
      have d3 := delS_le name row
      have d2 := sSort (delS name row) (by omega)
      generalize delS name row = dr at *
      simp (maxSteps := 1000000) (disch := omega) [if_pos, if_neg, wrap_i64, wrap_u8, hil', d1, d2]
theorem l12At (l : List KSrc) (name : ByteArray) (hl : (l.length : Int) ≤ 1048576) : A 17 [.leaf (KSrc.sl false l), .leaf (.str name)] = some ([.leaf (.int .i64 (atB l name))], [.gone, .gone]) := by
  refine run_spec_l12At ?_
  simp (maxSteps := 1000000) (disch := omega) [if_pos, if_neg, wrap_i64, wrap_u8, spec_l12At.b]
  refine at_find 5 spec_l12At.l0.eq_1 (fun s : KSrc => decide (s.name = name)) l (by simp) (fun g _ => ?_) (fun i x hx hi hp ih => ?_) (fun i x hx hi hp g => ?_)
  · simp (maxSteps := 1000000) (disch := omega) [if_pos, if_neg, wrap_i64, wrap_u8, atB, g]
  · simp only [decide_eq_false_iff_not] at hp
    simp (maxSteps := 1000000) (disch := omega) [if_pos, if_neg, wrap_i64, wrap_u8, hx, at_get hx, hp]
    refine run_env ih ?_
    simp
  · simp only [decide_eq_true_eq] at hp
    simp (maxSteps := 1000000) (disch := omega) [if_pos, if_neg, wrap_i64, wrap_u8, hx, at_get hx, hp, atB, g]
theorem l12Put (l : List ByteArray) (s : ByteArray) (hl : (l.length : Int) ≤ 100000000) : A 18 [.leaf (Kstrs true l), .leaf (.str s)] = some ([.leaf (Kstrs true (putS l s))], [.gone, .gone]) := by
  have h1 := l3In s l (by omega)
  refine run_spec_l12Put ?_
  unfold putS
  by_cases hm : s ∈ l
  · rw [decide_eq_true hm] at h1
    rw [if_pos hm]
    simp (maxSteps := 1000000) (disch := omega) [if_pos, if_neg, wrap_i64, wrap_u8, spec_l12Put.b, h1]
  · rw [decide_eq_false hm] at h1
    rw [if_neg hm]
    simp (maxSteps := 1000000) (disch := omega) [if_pos, if_neg, wrap_i64, wrap_u8, spec_l12Put.b, h1]
    refine at_fold (fun e j (st : List ByteArray × Bool) => ((e.put 7 (.v (.leaf (.int .i64 j)))).put 5 (.v (.leaf (Kstrs true st.1)))).put 6 (.v (.leaf (.bool st.2)))) spec_l12Put.l0.eq_1 (putStep s) l ([], false) (by simp) ?_ (fun j x hx hj ih => ?_)
    · have k := putStep_fold s l [] false
      have kl := putStep_len s l [] false
      generalize l.foldl (putStep s) ([], false) = st at *
      obtain ⟨r, b⟩ := st
      simp only [List.nil_append, List.length_nil] at k kl ⊢
      cases b with
      | true =>
        have k := k.1 rfl
        simp only [if_false, Bool.false_eq_true] at k
        subst k
        simp (maxSteps := 1000000) (disch := omega) [if_pos, if_neg, wrap_i64, wrap_u8, ]
      | false =>
        have k := (k.2 rfl).2
        rw [← k]
        simp (maxSteps := 1000000) (disch := omega) [if_pos, if_neg, wrap_i64, wrap_u8, ]
    · have kl := putStep_len s (l.take j) [] false
      rw [List.length_take] at kl
      generalize (l.take j).foldl (putStep s) ([], false) = st at *
      obtain ⟨r, b⟩ := st
      rw [putStep_at] at ih
      simp only [List.length_nil] at kl ih ⊢
      cases b with
      | true =>
        simp only [Bool.true_eq_false, false_and, if_false] at ih
        simp (maxSteps := 1000000) (disch := omega) [if_pos, if_neg, wrap_i64, wrap_u8, hx, at_get hx]
        refine run_env ih ?_
        simp
      | false =>
        cases hs : sLt s x with
        | true =>
          rw [hs] at ih
          simp only [and_self, if_true] at ih
          unfold sLt at hs
          simp (maxSteps := 1000000) (disch := omega) [if_pos, if_neg, wrap_i64, wrap_u8, hx, at_get hx, hs]
          refine run_env ih ?_
          simp
        | false =>
          rw [hs] at ih
          simp only [Bool.false_eq_true, and_false, if_false] at ih
          unfold sLt at hs
          simp (maxSteps := 1000000) (disch := omega) [if_pos, if_neg, wrap_i64, wrap_u8, hx, at_get hx, hs]
          refine run_env ih ?_
          simp
theorem filter_fold (name : ByteArray) : ∀ (l s : List ByteArray), l.foldl (fun s x => if x = name then s else s ++ [x]) s = s ++ l.filter fun x => !decide (x = name)
  | [], s => by simp
  | x :: l, s => by
    rw [List.foldl_cons, filter_fold name l]
    by_cases h : x = name
    · simp [h]
    · simp [h]
theorem addL_len : ∀ (m l : List ByteArray), (addL l m).length ≤ l.length + m.length
  | [], l => by simp [addL]
  | x :: m, l => by
    have := addL_len m (addS l x)
    have h : (addS l x).length ≤ l.length + 1 := by unfold addS; split <;> simp
    unfold addL at *
    simp only [List.foldl_cons, List.length_cons]
    omega
theorem specNeeds (l : List KSrc) (name : ByteArray) (hl : (l.length : Int) ≤ 1048576) (hu : (KSrc.us l : Int) ≤ 1048576) : A 6 [.leaf (KSrc.sl false l), .leaf (.str name)] = some ([.leaf (Kstrs true (needsB l name))], [.gone, .gone]) := by
  have hA := fun x => l12At l x hl
  have hin := atB_in l name
  have hU := uN_len l
  have h1 := hA name
  refine run_spec_Needs ?_
  unfold needsB
  by_cases h : atB l name < 0
  · rw [if_pos h]
    simp (maxSteps := 1000000) (disch := omega) [if_pos, if_neg, wrap_i64, wrap_u8, spec_Needs.b, h1, h]
  · rw [if_neg h]
    have hlt : (atB l name).toNat < l.length := by omega
    have hx : l[(atB l name).toNat]? = some l[(atB l name).toNat] := List.getElem?_eq_getElem hlt
    generalize l[(atB l name).toNat] = s at hx
    have hs := imp_len hx
    simp only [KSrc.w] at hs
    rw [gN_some h hx]
    have h0 : 0 ≤ atB l name := by omega
    have him : (s.imports.length : Int) ≤ 1048576 := by omega
    generalize atB l name = p at *
    have st := CInv.start (gN l) (uN l) s.imports
    have hRl := (close_all (r0 := s.imports) (gN_in l) (n := s.imports.length + (uN l).length) (Nat.le_refl _)).2.1
    generalize closeN (gN l) (s.imports.length + (uN l).length) s.imports 0 = R at *
    simp (maxSteps := 1000000) (disch := omega) [if_pos, if_neg, wrap_i64, wrap_u8, spec_Needs.b, h1, h, h0, hx, at_get hx]
    refine at_while (σ := List ByteArray × Nat) (fun e st => ((e.put 5 (.v (.leaf (Kstrs true ((st.1.take st.2).foldl putS []))))).put 7 (.v (.leaf (Kstrs true st.1)))).put 8 (.v (.leaf (.int .i64 st.2)))) spec_Needs.l1.eq_1 (fun st => s.imports.length + (uN l).length - st.2) (fun st => CInv (gN l) (uN l) s.imports R st.1 st.2) (s.imports, 0) (by simp) st ?_
    rintro ⟨row, i⟩ hi ih
    simp only at hi ih ⊢
    have hlen := hi.len
    have hol := putSs_length (row.take i) []
    rw [List.length_take] at hol
    simp only [List.length_nil] at hol
    by_cases hil : i < row.length
    · obtain ⟨st1, u, hu1⟩ := hi.step (gN_in l) hil
      have hxi : row[i]? = some row[i] := List.getElem?_eq_getElem hil
      have htk : row.take (i + 1) = row.take i ++ [row[i]] := by rw [List.take_add_one, hxi]; rfl
      generalize row[i] = y at hxi st1 hu1 htk
      have k1 := hA y
      have kin := atB_in l y
      have kp := l12Put ((row.take i).foldl putS []) y (by omega)
      have ih := ih (addL row (gN l y), i + 1) (by simp only; omega) st1
      have hil' : (i : Int) < row.length := by omega
      have e2 : (addL row (gN l y)).take (i + 1) = row.take i ++ [y] := by rw [hu1, List.take_append_of_le_length (by omega), htk]
      simp only at ih
      rw [e2, List.foldl_append] at ih
      simp only [List.foldl_cons, List.foldl_nil] at ih
      generalize (row.take i).foldl putS [] = O at *
      by_cases hk : atB l y < 0
      · rw [gN_none hk] at ih
        have e : addL row [] = row := rfl
        rw [e] at ih
        have hk' : ¬ 0 ≤ atB l y := by omega
        generalize atB l y = q at *
        generalize putS O y = O2 at *
        simp (maxSteps := 1000000) (disch := omega) [if_pos, if_neg, wrap_i64, wrap_u8, hil', hxi, at_get hxi, k1, kp, hk, hk']
        refine run_loop_at spec_Needs.l0.eq_1 ?_
        simp (maxSteps := 1000000) (disch := omega) [if_pos, if_neg, wrap_i64, wrap_u8, hk, hk']
        refine run_env ih ?_
        simp
      · have hlt2 : (atB l y).toNat < l.length := by omega
        have hx2 : l[(atB l y).toNat]? = some l[(atB l y).toNat] := List.getElem?_eq_getElem hlt2
        generalize l[(atB l y).toNat] = s2 at hx2
        have hs2 := imp_len hx2
        simp only [KSrc.w] at hs2
        rw [gN_some hk hx2] at ih
        have hk' : 0 ≤ atB l y := by omega
        generalize atB l y = q at *
        generalize putS O y = O2 at *
        simp (maxSteps := 1000000) (disch := omega) [if_pos, if_neg, wrap_i64, wrap_u8, hil', hxi, at_get hxi, k1, kp, hk, hk']
        refine at_fold (fun e j (r : List ByteArray) => (e.put 10 (.v (.leaf (.int .i64 j)))).put 7 (.v (.leaf (Kstrs true r)))) spec_Needs.l0.eq_1 addS s2.imports row (by simp) ?_ (fun j z hz hj ih2 => ?_)
        · have e3 : s2.imports.foldl addS row = addL row s2.imports := rfl
          rw [e3]
          simp (maxSteps := 1000000) (disch := omega) [if_pos, if_neg, wrap_i64, wrap_u8, hk, hk', hx2, at_get hx2]
          refine run_env ih ?_
          simp
        · have hal := addL_len (s2.imports.take j) row
          rw [List.length_take] at hal
          have e3 : (s2.imports.take j).foldl addS row = addL row (s2.imports.take j) := rfl
          rw [e3] at ih2 ⊢
          generalize addL row (s2.imports.take j) = r at *
          have k3 := l3In z r (by omega)
          unfold addS at ih2
          by_cases hm : z ∈ r
          · rw [decide_eq_true hm] at k3
            rw [if_pos hm] at ih2
            simp (maxSteps := 1000000) (disch := omega) [if_pos, if_neg, wrap_i64, wrap_u8, hk, hk', hx2, at_get hx2, hz, at_get hz, k3]
            refine run_env ih2 ?_
            simp
          · rw [decide_eq_false hm] at k3
            rw [if_neg hm] at ih2
            simp (maxSteps := 1000000) (disch := omega) [if_pos, if_neg, wrap_i64, wrap_u8, hk, hk', hx2, at_get hx2, hz, at_get hz, k3]
            refine run_env ih2 ?_
            simp
    · have e := hi.done hil
      subst e
      have hil' : ¬ (i : Int) < row.length := by omega
      have e2 : row.take i = row := List.take_of_length_le (by omega)
      rw [e2] at hol ⊢
      generalize row.foldl putS [] = O at *
      simp (maxSteps := 1000000) (disch := omega) [if_pos, if_neg, wrap_i64, wrap_u8, hil']
      refine at_fold (fun e j (r : List ByteArray) => (e.put 12 (.v (.leaf (.int .i64 j)))).put 11 (.v (.leaf (Kstrs true r)))) spec_Needs.l2.eq_1 (fun s x => if x = name then s else s ++ [x]) O [] (by simp) ?_ (fun j z hz hj ih2 => ?_)
      · rw [filter_fold]
        simp (maxSteps := 1000000) (disch := omega) [if_pos, if_neg, wrap_i64, wrap_u8, ]
      · have hfl : ((O.take j).foldl (fun s x => if x = name then s else s ++ [x]) []).length ≤ O.length := by
          rw [filter_fold]
          refine Nat.le_trans (List.length_filter_le _ _) ?_
          simp [List.length_take]
          omega
        generalize (O.take j).foldl (fun s x => if x = name then s else s ++ [x]) [] = r at *
        by_cases hm : z = name
        · rw [if_pos hm] at ih2
          simp (maxSteps := 1000000) (disch := omega) [if_pos, if_neg, wrap_i64, wrap_u8, hz, at_get hz, hm]
          refine run_env ih2 ?_
          simp
        · rw [if_neg hm] at ih2
          simp (maxSteps := 1000000) (disch := omega) [if_pos, if_neg, wrap_i64, wrap_u8, hz, at_get hz, hm]
          refine run_env ih2 ?_
          simp
theorem needed_fold {γ : Type} (p : γ → Bool) (f : γ → ByteArray) (g : List ByteArray → ByteArray → List ByteArray) : ∀ (l : List γ) (s : List ByteArray), l.foldl (fun s x => if p x = true then g s (f x) else s) s = ((l.filter p).map f).foldl g s
  | [], s => rfl
  | x :: l, s => by
    rw [List.foldl_cons, needed_fold p f g l]
    by_cases h : p x = true
    · simp [h]
    · simp [h]
end Go.Proofs.Yticecjjfbjnaaaa.NE
