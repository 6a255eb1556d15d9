/- ReadDec of the program and of the reference, as the printed functions have them: what they tell. -/
import Derived.Test.YtgfejfeafppagaaDoorZFnExactProgOkPFnExactProgOkDec
namespace Go.Proofs.YtgfejfeafppagaaDoor.PFnExactProgOk
open Go.RowKit Go.Lib Go.Proofs.YtgfejfeafppagaaDoor.Aux Go.Proofs.YtgfejfeafppagaaDoorW.PrintWords Go.Proofs.YtgfejfeafppagaaDoorW.PrintLast Go.Proofs.YtgfejfeafppagaaDoorW.PrintMore

theorem data_toList (s : ByteArray) : s.toList = s.data.toList := ByteArray.toList_eq s
theorem bt_nth (s : ByteArray) (i : Nat) (h : i < s.size) : bt s (i : Nat) = ((s.data.toList[i]'(by rw [Array.length_toList]; exact h)).toNat : Int) := by
  unfold bt
  rw [dif_pos (by simpa using h)]
  simp
  rfl
theorem take_succ' (s : ByteArray) (i : Nat) (h : i < s.size) : s.data.toList.take (i + 1) = s.data.toList.take i ++ [s.data.toList[i]'(by rw [Array.length_toList]; exact h)] := by
  rw [List.take_succ_eq_append_getElem]

/-- The value and the count behind so many bytes. -/
def rdAt (s : ByteArray) (i : Nat) : Nat × Nat := (s.data.toList.take i).foldl rdStep (0, 0)
theorem rdAt_count (s : ByteArray) (i : Nat) : (rdAt s i).2 ≤ i := by
  have := rd_count (s.data.toList.take i) (0, 0)
  have h2 : (s.data.toList.take i).length ≤ i := List.length_take_le _ _
  unfold rdAt
  simp at this
  omega
theorem rdAt_lt (s : ByteArray) (i : Nat) (h : i ≤ 11) : (rdAt s i).1 < 100000000000 := by
  have h1 := rd_lt (s.data.toList.take i) (0, 0) (by decide)
  have h2 := rdAt_count s i
  unfold rdAt at h2 ⊢
  exact Nat.lt_of_lt_of_le h1 (Nat.pow_le_pow_right (by decide) (Nat.le_trans h2 h))

/-- The end of the reference's reading. -/
def rdEnd (s : ByteArray) (x : Nat × Nat) : Int × Bool :=
  if (x.2 : Int) > 9 then (0, false) else if (s.size : Int) > 10 then (0, false) else
    if itoa (if s.data.toList.head? = some 45 then -(x.1 : Int) else x.1) = s.data.toList then ((if s.data.toList.head? = some 45 then -(x.1 : Int) else (x.1 : Int)), true) else (0, false)

theorem spec_end (s : ByteArray) (x : Nat × Nat) (hx : x.1 < 100000000000) (b : Bool) (hb : b = true ↔ s.data.toList.head? = some 45) : Ev (fun k => spec_ReadDec.j2 k s x.1 x.2 b) (rdEnd s x) := by
  unfold rdEnd
  cases b with
  | true =>
    have hh := hb.mp rfl
    rw [if_pos hh]
    have hw : wrap64 (-(x.1 : Int)) = -(x.1 : Int) := w64 (by omega) (by omega)
    refine Ev.step (f := fun k => if (x.2 : Int) > 9 then some (0, false) else if (s.size : Int) > 10 then some (0, false) else (spec_Dec.f k (-(x.1 : Int))).bind fun t => if t.toList = s.toList then some (-(x.1 : Int), true) else some (0, false)) (fun k => ?_) ?_
    · simp only [spec_ReadDec.j2, if_true, hw]
    · by_cases h1 : (x.2 : Int) > 9
      · rw [if_pos h1]; exact ev_if_pos h1 (Ev.now _)
      · rw [if_neg h1]
        refine ev_if_neg h1 ?_
        by_cases h2 : (s.size : Int) > 10
        · rw [if_pos h2]; exact ev_if_pos h2 (Ev.now _)
        · rw [if_neg h2]
          refine ev_if_neg h2 (Ev.bind (spec_dec_is _ (by omega) (by omega)) ?_)
          rw [str_toList, data_toList]
          by_cases h3 : itoa (-(x.1 : Int)) = s.data.toList
          · simp only [if_pos h3]; exact Ev.now _
          · simp only [if_neg h3]; exact Ev.now _
  | false =>
    have hh : ¬ s.data.toList.head? = some 45 := fun h => by have := hb.mpr h; cases this
    rw [if_neg hh]
    refine Ev.step (f := fun k => if (x.2 : Int) > 9 then some (0, false) else if (s.size : Int) > 10 then some (0, false) else (spec_Dec.f k (x.1 : Int)).bind fun t => if t.toList = s.toList then some ((x.1 : Int), true) else some (0, false)) (fun k => ?_) ?_
    · simp only [spec_ReadDec.j2, Bool.false_eq_true, if_false]
    · by_cases h1 : (x.2 : Int) > 9
      · rw [if_pos h1]; exact ev_if_pos h1 (Ev.now _)
      · rw [if_neg h1]
        refine ev_if_neg h1 ?_
        by_cases h2 : (s.size : Int) > 10
        · rw [if_pos h2]; exact ev_if_pos h2 (Ev.now _)
        · rw [if_neg h2]
          refine ev_if_neg h2 (Ev.bind (spec_dec_is _ (by omega) (by omega)) ?_)
          rw [str_toList, data_toList]
          by_cases h3 : itoa (x.1 : Int) = s.data.toList
          · simp only [if_pos h3]; exact Ev.now _
          · simp only [if_neg h3]; exact Ev.now _

theorem spec_stop (s : ByteArray) (x : Nat × Nat) (hx : x.1 < 100000000000) (i : Int) : Ev (fun k => spec_ReadDec.j1 k s x.1 x.2 i false) (rdEnd s x) := by
  by_cases h0 : (s.size : Int) > 0
  · have he := spec_end s x hx (bt s 0 == 45) (by
      have hs : 0 < s.size := by omega
      rw [show (0 : Int) = ((0 : Nat) : Int) from rfl, bt_nth s 0 hs]
      have hl : s.data.toList.head? = some (s.data.toList[0]'(by rw [Array.length_toList]; exact hs)) := by
        rw [List.head?_eq_getElem?, List.getElem?_eq_getElem]
      rw [hl]
      simp only [beq_iff_eq, Option.some.injEq]
      constructor
      · intro h; apply UInt8.toNat_inj.mp; exact_mod_cast h
      · intro h; rw [h]; rfl)
    refine Ev.step (fun k => ?_) he
    simp only [spec_ReadDec.j1, Bool.false_eq_true, if_false]
    rw [if_pos h0, if_pos (by omega)]
  · have he := spec_end s x hx false (by
      have hs : s.data.toList = [] := by
        apply List.eq_nil_of_length_eq_zero
        rw [Array.length_toList]
        have : s.size = s.data.size := rfl
        omega
      rw [hs]
      simp)
    refine Ev.step (fun k => ?_) he
    simp only [spec_ReadDec.j1, Bool.false_eq_true, if_false]
    rw [if_neg h0]

theorem spec_loop (s : ByteArray) (hs : s.size ≤ 140737488351232) (d : Nat) : ∀ i : Nat, i + d = 11 → i ≤ s.size → Ev (fun k => spec_ReadDec.l0 k s (rdAt s i).1 (rdAt s i).2 i) (rdEnd s (rdAt s (min s.size 11))) := by
  induction d with
  | zero =>
    intro i hi his
    obtain rfl : i = 11 := by omega
    rw [Nat.min_eq_right his]
    refine Ev.step (fun k => ?_) (spec_stop s (rdAt s 11) (rdAt_lt s 11 (by omega)) 11)
    simp only [spec_ReadDec.l0]
    by_cases h : ((11 : Nat) : Int) < s.size
    · rw [if_pos h, decide_eq_false (by omega)]; rfl
    · rw [if_neg h]; rfl
  | succ d ih =>
    intro i hi his
    have hlt := rdAt_lt s i (by omega)
    have hct := rdAt_count s i
    by_cases h : i < s.size
    · have hr := ih (i + 1) (by omega) (by omega)
      have hb0 := bt0 s i
      have hb1 := bt1 s i
      have hbn := bt_nth s i h
      have hstep : rdAt s (i + 1) = rdStep (rdAt s i) (s.data.toList[i]'(by rw [Array.length_toList]; exact h)) := by
        unfold rdAt
        rw [take_succ' s i h, rd_append]
      generalize hbb : s.data.toList[i]'(by rw [Array.length_toList]; exact h) = b at hbn hstep
      have hj : ∀ r, Ev (fun k => if (bt s i) ≥ 48 then (if (bt s i) ≤ 57 then (spec_ReadDec.l0 k s (wrap64 ((wrap64 (((rdAt s i).1 : Int) * 10)) + (((bt s i) - 48) % 256))) (wrap64 (((rdAt s i).2 : Int) + 1)) (wrap64 ((i : Int) + 1))) else (spec_ReadDec.l0 k s (rdAt s i).1 (rdAt s i).2 (wrap64 ((i : Int) + 1)))) else (spec_ReadDec.l0 k s (rdAt s i).1 (rdAt s i).2 (wrap64 ((i : Int) + 1)))) r → Ev (fun k => spec_ReadDec.l0 k s (rdAt s i).1 (rdAt s i).2 i) r := by
        intro r hh
        refine Ev.step (f := fun k => spec_ReadDec.j1 k s (rdAt s i).1 (rdAt s i).2 i true) (fun k => ?_) (Ev.step (fun k => ?_) hh)
        · simp only [spec_ReadDec.l0]
          rw [if_pos (by omega), decide_eq_true (by omega)]
        · simp only [spec_ReadDec.j1, if_true]
          rw [if_pos (by omega), if_pos (by omega)]
      refine hj _ ?_
      have e1 : wrap64 ((i : Int) + 1) = ((i + 1 : Nat) : Int) := by rw [w64 (by omega) (by omega)]; rfl
      rw [e1]
      by_cases hd : 48 ≤ b.toNat ∧ b.toNat ≤ 57
      · refine ev_if_pos (by omega) (ev_if_pos (by omega) ?_)
        have e2 : rdAt s (i + 1) = ((rdAt s i).1 * 10 + (b.toNat - 48), (rdAt s i).2 + 1) := by rw [hstep]; unfold rdStep; rw [if_pos hd]
        rw [e2] at hr
        refine Ev.congr (fun k => ?_) hr
        rw [w64 (n := ((rdAt s i).1 : Int) * 10) (by omega) (by omega), w64 (n := ((rdAt s i).2 : Int) + 1) (by omega) (by omega), w64 (by omega) (by omega)]
        congr 1
        · show _ = (((rdAt s i).1 * 10 + (b.toNat - 48) : Nat) : Int)
          omega
      · have e2 : rdAt s (i + 1) = rdAt s i := by rw [hstep]; unfold rdStep; rw [if_neg hd]
        rw [e2] at hr
        by_cases h48 : (bt s i) ≥ 48
        · exact ev_if_pos h48 (ev_if_neg (by omega) hr)
        · exact ev_if_neg h48 hr
    · obtain rfl : i = s.size := by omega
      rw [Nat.min_eq_left (by omega)]
      refine Ev.step (fun k => ?_) (spec_stop s (rdAt s s.size) hlt s.size)
      simp only [spec_ReadDec.l0]
      rw [if_neg (by omega)]

theorem rdEnd_is (s : ByteArray) : IsRD s.data.toList (rdEnd s (rdAt s (min s.size 11))) := by
  have hsz : s.data.toList.length = s.size := Array.length_toList
  have hc := rdAt_lt s (min s.size 11) (by omega)
  have hp := rd_lt (s.data.toList.take (min s.size 11)) (0, 0) (by decide)
  have hrd : (s.data.toList.take (min s.size 11)).foldl rdStep (0, 0) = rdAt s (min s.size 11) := rfl
  rw [hrd] at hp
  by_cases hex : ∃ n : Int, -1000000000 < n ∧ n < 1000000000 ∧ itoa n = s.data.toList
  · obtain ⟨n, h0, h1, h2⟩ := hex
    refine .inl ⟨n, h0, h1, h2, ?_⟩
    have hl := (itoa_len n h0 h1).1
    rw [h2, hsz] at hl
    have hm : min s.size 11 = s.size := by omega
    have e : rdAt s (min s.size 11) = (n.natAbs, (decDigits n.natAbs).length) := by
      rw [hm]
      unfold rdAt
      rw [List.take_of_length_le (by omega), ← h2, rd_itoa]
    have hd : (decDigits n.natAbs).length ≤ 9 := (decDigits_len 8 _).mpr (by omega)
    rw [e]
    unfold rdEnd
    rw [if_neg (by show ¬ (((decDigits n.natAbs).length : Int) > 9); omega), if_neg (by omega)]
    have hsgn : (if s.data.toList.head? = some 45 then -((n.natAbs : Nat) : Int) else ((n.natAbs : Nat) : Int)) = n := by
      by_cases hn : n < 0
      · obtain ⟨t, ht⟩ := (itoa_head n).mpr hn
        rw [← h2, ht]
        simp
        omega
      · have : ¬ s.data.toList.head? = some 45 := by
          intro hh
          apply hn
          apply (itoa_head n).mp
          rw [h2]
          cases hlst : s.data.toList with
          | nil => rw [hlst] at hh; cases hh
          | cons b t => rw [hlst] at hh; simp at hh; exact ⟨t, by rw [hh]⟩
        rw [if_neg this]
        omega
    show (if itoa (if s.data.toList.head? = some 45 then -((n.natAbs : Nat) : Int) else ((n.natAbs : Nat) : Int)) = s.data.toList then ((if s.data.toList.head? = some 45 then -((n.natAbs : Nat) : Int) else ((n.natAbs : Nat) : Int)), true) else (0, false)) = (n, true)
    rw [hsgn, if_pos h2]
  · refine .inr ⟨fun n h0 h1 h2 => hex ⟨n, h0, h1, h2⟩, ?_⟩
    unfold rdEnd
    by_cases c1 : ((rdAt s (min s.size 11)).2 : Int) > 9
    · rw [if_pos c1]
    · rw [if_neg c1]
      by_cases c2 : (s.size : Int) > 10
      · rw [if_pos c2]
      · rw [if_neg c2]
        have hb : (rdAt s (min s.size 11)).1 < 1000000000 := Nat.lt_of_lt_of_le hp (Nat.pow_le_pow_right (by decide) (show (rdAt s (min s.size 11)).2 ≤ 9 by omega))
        rw [if_neg]
        intro hh
        refine hex ⟨_, ?_, ?_, hh⟩
        · split <;> omega
        · split <;> omega

/-- ReadDec of the reference. -/
theorem spec_readDec_is (s : ByteArray) (hs : s.size ≤ 140737488351232) : ∃ r, Ev (fun k => spec_ReadDec.f k s) r ∧ IsRD s.data.toList r :=
  ⟨_, spec_loop s hs 11 0 (by omega) (by omega), rdEnd_is s⟩

theorem trim_is (s : ByteArray) : ∃ d : ByteArray, strings_TrimPrefix.f s (⟨#[45]⟩ : ByteArray) = some d ∧ d.size = (if s.data.toList.head? = some 45 then s.size - 1 else s.size) := by
  unfold strings_TrimPrefix.f stringslite_TrimPrefix.f stringslite_HasPrefix.f
  have h1 : ((⟨#[45]⟩ : ByteArray).size : Int) = 1 := rfl
  rw [h1]
  have hsz : s.data.toList.length = s.size := Array.length_toList
  by_cases h : (s.size : Int) ≥ 1
  · rw [if_pos h, if_pos (by omega), if_pos (by omega)]
    simp only [Option.bind_some]
    have e : ((s.extract 0 (1 : Int).toNat).toList == (⟨#[45]⟩ : ByteArray).toList) = decide (s.data.toList.head? = some 45) := by
      rw [ByteArray.toList_eq, ByteArray.toList_eq, beq_dec]
      congr 1
      simp only [ByteArray.data_extract, Array.toList_extract, List.extract_eq_take_drop, List.drop_zero]
      cases hl : s.data.toList with
      | nil => rw [hl] at hsz; simp at hsz; omega
      | cons b t => simp
    rw [e]
    by_cases hh : s.data.toList.head? = some 45
    · rw [decide_eq_true hh, if_pos hh]
      simp only [if_true]
      rw [if_pos (by omega), if_pos (by omega)]
      refine ⟨_, rfl, ?_⟩
      simp
    · rw [decide_eq_false hh, if_neg hh]
      exact ⟨_, rfl, rfl⟩
  · rw [if_neg h]
    simp only [Option.bind_some, Bool.false_eq_true, if_false]
    refine ⟨_, rfl, ?_⟩
    rw [if_neg]
    cases hl : s.data.toList with
    | nil => simp
    | cons b t => rw [hl] at hsz; simp at hsz; omega

/-- ReadDec of the program. -/
theorem impl_readDec_is (s : ByteArray) (hs : s.size ≤ 140737488351232) : ∃ r, impl_ReadDec.f s = some r ∧ IsRD s.data.toList r := by
  obtain ⟨d, hd, hdl⟩ := trim_is s
  have hsz : s.data.toList.length = s.size := Array.length_toList
  unfold impl_ReadDec.f impl_inRange.f
  rw [hd]
  simp only [Option.bind_some]
  -- what a numeral's length is
  have hnum : ∀ n : Int, -1000000000 < n → n < 1000000000 → itoa n = s.data.toList → 1 ≤ d.size ∧ d.size ≤ 9 ∧ s.size ≤ 10 := by
    intro n h0 h1 h2
    have hd9 : (decDigits n.natAbs).length ≤ 9 := (decDigits_len 8 _).mpr (by omega)
    have hd1 : 0 < (decDigits n.natAbs).length := List.length_pos_iff.mpr (decDigits_ne _)
    by_cases hn : n < 0
    · have e : itoa n = 45 :: decDigits n.natAbs := by unfold itoa; rw [if_pos hn]
      rw [e] at h2
      rw [← h2] at hdl hsz
      simp at hdl hsz
      omega
    · have e : itoa n = decDigits n.natAbs := by unfold itoa; rw [if_neg hn, show n.toNat = n.natAbs from by omega]
      have hhead : ¬ s.data.toList.head? = some 45 := by
        intro hh
        apply hn
        apply (itoa_head n).mp
        rw [h2]
        cases hlst : s.data.toList with
        | nil => rw [hlst] at hh; cases hh
        | cons b t => rw [hlst] at hh; simp at hh; exact ⟨t, by rw [hh]⟩
      rw [if_neg hhead] at hdl
      rw [e] at h2
      rw [← h2] at hsz
      omega
  by_cases hr : 1 ≤ d.size ∧ d.size ≤ 9
  · have hs11 : s.data.toList.length ≤ 18 := by
      rw [hsz]
      split at hdl <;> omega
    rw [if_pos (show (d.size : Int) ≥ 1 by omega), decide_eq_true (show (d.size : Int) ≤ 9 by omega)]
    simp only [Option.bind_some, if_true]
    rw [if_pos hs]
    rcases hA : atoiAll s.data.toList with v | _ | _
    rotate_left
    ·
      refine ⟨_, rfl, .inr ⟨fun n h0 h1 h2 => ?_, rfl⟩⟩
      rw [← h2, atoiAll_short _ (by have := (itoa_len n h0 h1).1; omega), atoi_itoa] at hA
      cases hA
    ·
      refine ⟨_, rfl, .inr ⟨fun n h0 h1 h2 => ?_, rfl⟩⟩
      rw [← h2, atoiAll_short _ (by have := (itoa_len n h0 h1).1; omega), atoi_itoa] at hA
      cases hA
    ·
      have hv := atoiAll_bounds hA
      have hdec : impl_Dec.f v = some (str (itoa v)) := by
        unfold impl_Dec.f strconv_Itoa.f
        rw [if_pos ⟨hv.1, hv.2⟩]
        rfl
      simp only [hdec, Option.bind_some]
      rw [str_toList, data_toList]
      by_cases hh : itoa v = s.data.toList
      · rw [if_pos hh]
        refine ⟨_, rfl, .inl ⟨v, ?_, ?_, hh, rfl⟩⟩
        all_goals
          have hlen : (decDigits v.natAbs).length ≤ 9 := by
            have hl2 := congrArg List.length hh
            rw [hsz] at hl2
            unfold itoa at hl2
            by_cases hn : v < 0
            · rw [if_pos hn] at hl2
              have : s.data.toList.head? = some 45 := by rw [← hh]; unfold itoa; rw [if_pos hn]; rfl
              rw [if_pos this] at hdl
              simp at hl2
              omega
            · rw [if_neg hn, show v.toNat = v.natAbs from by omega] at hl2
              have : ¬ s.data.toList.head? = some 45 := by
                intro h45
                apply hn
                apply (itoa_head v).mp
                rw [hh]
                cases hlst : s.data.toList with
                | nil => rw [hlst] at h45; cases h45
                | cons b t => rw [hlst] at h45; simp at h45; exact ⟨t, by rw [h45]⟩
              rw [if_neg this] at hdl
              omega
          have := (decDigits_len 8 v.natAbs).mp hlen
          omega
      · rw [if_neg hh]
        refine ⟨_, rfl, .inr ⟨fun n h0 h1 h2 => ?_, rfl⟩⟩
        have h3 := hA
        rw [← h2, atoiAll_short _ (by have := (itoa_len n h0 h1).1; omega), atoi_itoa] at h3
        simp only [NumEnd.ofOption, NumEnd.ok.injEq] at h3
        subst h3
        exact hh h2
  · have hb : (if (d.size : Int) ≥ 1 then some (decide ((d.size : Int) ≤ 9)) else some false) = some false := by
      by_cases h1 : (d.size : Int) ≥ 1
      · rw [if_pos h1, decide_eq_false (by omega)]
      · rw [if_neg h1]
    rw [hb]
    refine ⟨(0, false), rfl, .inr ⟨fun n h0 h1 h2 => ?_, rfl⟩⟩
    have := hnum n h0 h1 h2
    exact hr ⟨this.1, this.2.1⟩

/-- The two alike. -/
theorem readDec_same (s : ByteArray) (hs : s.size ≤ 140737488351232) : ∃ r, Ev (fun k => spec_ReadDec.f k s) r ∧ impl_ReadDec.f s = some r ∧ IsRD s.data.toList r := by
  obtain ⟨r, h1, h2⟩ := spec_readDec_is s hs
  obtain ⟨r', h3, h4⟩ := impl_readDec_is s hs
  obtain rfl := h2.same h4
  exact ⟨r, h1, h3, h2⟩

end Go.Proofs.YtgfejfeafppagaaDoor.PFnExactProgOk
