/- Numbers: ranges, Dec of the reference, ReadDec of both. -/
import Derived.Test.YtjcjodcpiickaaaGreatDoorEngM7
import Derived.Test.YtjcjodcpiickaaaGreatDoorEngPReadDec
import Derived.Test.YtjcjodcpiickaaaGreatDoorRATab
namespace Go.Proofs.YtjcjodcpiickaaaGreatDoor.RA
open Go Go.VS Go.Lib
set_option maxRecDepth 10000
set_option linter.unusedSimpArgs false
set_option linter.unusedVariables false
def within (lo hi n : Int) : Bool := decide (lo ≤ n ∧ n ≤ hi)
theorem and_of (a b : Prop) [Decidable a] [Decidable b] : (decide a && decide b) = decide (a ∧ b) := by simp
theorem inRange (n lo hi : Int) : A 99 [.leaf (.int .i64 n), .leaf (.int .i64 lo), .leaf (.int .i64 hi)] = some ([.leaf (.bool (decide (lo ≤ n ∧ n ≤ hi)))], [.gone, .gone, .gone]) := by
 refine run_impl_inRange ?_
 by_cases h : lo ≤ n
 ·simp [impl_inRange.b, h]
 ·simp [impl_inRange.b, h]
theorem inRange' (n lo hi : Int) : A 99 [.leaf (.int .i64 n), .leaf (.int .i64 lo), .leaf (.int .i64 hi)] = some ([.leaf (.bool (within lo hi n))], [.gone, .gone, .gone]) := inRange n lo hi
theorem l1In (n lo hi : Int) : A 85 [.leaf (.int .i64 n), .leaf (.int .i64 lo), .leaf (.int .i64 hi)] = some ([.leaf (.bool (decide (lo ≤ n ∧ n ≤ hi)))], [.gone, .gone, .gone]) := by
 refine run_spec_l1In ?_
 by_cases h : lo ≤ n
 ·simp [spec_l1In.b, h]
 ·simp [spec_l1In.b, h]
theorem l1In' (n lo hi : Int) : A 85 [.leaf (.int .i64 n), .leaf (.int .i64 lo), .leaf (.int .i64 hi)] = some ([.leaf (.bool (within lo hi n))], [.gone, .gone, .gone]) := l1In n lo hi
theorem dec_pos (ks : List Fr) (Q : VX → Env → Prop) : ∀ (d c : Nat) (l : List UInt8), c < 10 ^ d → c < 9223372036854775808 → l.length + d ≤ 100 →
  Run G A (.exit 0) [(0, .v (.leaf (.int .i64 0))), (3, .v (.leaf (.str (str (dd c l))))), (4, .v (.leaf (.bool false))), (11, .v (.leaf (.bool false)))] ks Q →
  Run G A (.loop spec_Dec.l0) [(0, .v (.leaf (.int .i64 c))), (3, .v (.leaf (.str (str l)))), (4, .v (.leaf (.bool false)))] ks Q := by
 intro d
 induction d with
 | zero =>
  intro c l h h1 hl hq
  obtain rfl : c = 0 := by simpa using h
  refine run_loop_at spec_Dec.l0.eq_1 ?_
  simpa [dd] using hq
 | succ d ih =>
  intro c l h h1 hl hq
  by_cases h0 : c = 0
  ·subst h0
   refine run_loop_at spec_Dec.l0.eq_1 ?_
   simpa [dd] using hq
  ·have ih := ih (c / 10) (UInt8.ofNat (48 + c % 10) :: l) (by rw [Nat.pow_succ] at h; omega) (by omega) (by simp; omega)
   rw [← dd_step c l h0] at ih
   have h2 : (c : Int).tmod 10 = ((c % 10 : Nat) : Int) := by rw [Int.tmod_eq_emod_of_nonneg (by omega)]; rfl
   have h3 : (c : Int).tdiv 10 = ((c / 10 : Nat) : Int) := by rw [Int.tdiv_eq_ediv_of_nonneg (by omega)]; rfl
   have h4 : (48 + ((c % 10 : Nat) : Int)).toNat = 48 + c % 10 := by omega
   have h5 : (⟨#[UInt8.ofNat (48 + c % 10)]⟩ : ByteArray) ++ str l = str (UInt8.ofNat (48 + c % 10) :: l) := str_append [_] l
   have h6 : ¬ ((c % 10 : Nat) : Int) < 0 := by omega
   have h7 : (str l).size = l.length := str_size l
   refine run_loop_at spec_Dec.l0.eq_1 ?_
   simp (maxSteps := 1000000) (disch := omega) [ip, wr, h2, h3, h4, h6, h7, h0]
   exact ih hq
theorem dec_neg (ks : List Fr) (Q : VX → Env → Prop) : ∀ (d c : Nat) (l : List UInt8), c < 10 ^ d → c ≤ 9223372036854775808 → l.length + d ≤ 100 →
  Run G A (.exit 0) [(0, .v (.leaf (.int .i64 0))), (3, .v (.leaf (.str (str (dd c l))))), (4, .v (.leaf (.bool true))), (11, .v (.leaf (.bool false)))] ks Q →
  Run G A (.loop spec_Dec.l0) [(0, .v (.leaf (.int .i64 (-(c : Int))))), (3, .v (.leaf (.str (str l)))), (4, .v (.leaf (.bool true)))] ks Q := by
 intro d
 induction d with
 | zero =>
  intro c l h h1 hl hq
  obtain rfl : c = 0 := by simpa using h
  refine run_loop_at spec_Dec.l0.eq_1 ?_
  simpa [dd] using hq
 | succ d ih =>
  intro c l h h1 hl hq
  by_cases h0 : c = 0
  ·subst h0
   refine run_loop_at spec_Dec.l0.eq_1 ?_
   simpa [dd] using hq
  ·have ih := ih (c / 10) (UInt8.ofNat (48 + c % 10) :: l) (by rw [Nat.pow_succ] at h; omega) (by omega) (by simp; omega)
   rw [← dd_step c l h0] at ih
   have h2 : (-(c : Int)).tmod 10 = -((c % 10 : Nat) : Int) := by rw [Int.neg_tmod, Int.tmod_eq_emod_of_nonneg (by omega)]; rfl
   have h3 : (-(c : Int)).tdiv 10 = -((c / 10 : Nat) : Int) := by rw [Int.neg_tdiv, Int.tdiv_eq_ediv_of_nonneg (by omega)]; rfl
   have h7 : (str l).size = l.length := str_size l
   refine run_loop_at spec_Dec.l0.eq_1 ?_
   by_cases hz : c % 10 = 0
   ·have h8 : ((c % 10 : Nat) : Int) = 0 := by omega
    rw [h8] at h2
    rw [hz] at ih
    have hc : (c : Int) % 10 = 0 := by omega
    simp (maxSteps := 1000000) (disch := omega) [ip, wr, h2, h3, h7, h0]
    exact ih hq
   ·have h4 : (48 + ((c % 10 : Nat) : Int)).toNat = 48 + c % 10 := by omega
    have h6 : -((c % 10 : Nat) : Int) < 0 := by omega
    generalize hm : c % 10 = m at *
    simp (maxSteps := 1000000) (disch := omega) [ip, wr, h2, h3, h7, h0, h4, h6]
    have e8 : UInt8.ofNat (48 + m) = 48 + UInt8.ofNat m := by simp
    have h5 : str (UInt8.ofNat (48 + m) :: l) = ⟨#[48 + UInt8.ofNat m]⟩ ++ str l := by rw [← e8]; exact (str_append [_] l).symm
    rw [h5] at ih
    exact ih hq
theorem dec (n : Int) (h0 : -9223372036854775808 ≤ n) (h1 : n ≤ 9223372036854775807) : A 220 [.leaf (.int .i64 n)] = some ([.leaf (.str (str (itoa n)))], [.gone]) := by
 refine run_spec_Dec ?_
 by_cases hz : n = 0
 ·subst hz
  have e : str (itoa 0) = ⟨#[48]⟩ := by
   have : decDigits 0 = [48] := by rw [decDigits_rec]; rfl
   simp [itoa, str, this]
  simp [spec_Dec.b, e]
 ·by_cases hn : n < 0
  ·obtain ⟨c, rfl⟩ : ∃ c : Nat, n = -(c : Int) := ⟨n.natAbs, by omega⟩
   have e : str (itoa (-(c : Int))) = ⟨#[45]⟩ ++ str (dd c []) := by
    unfold itoa dd
    rw [if_pos hn, if_neg (by omega), List.append_nil, show (-(c : Int)).natAbs = c from by omega]
    exact (str_append [45] _).symm
   have hl : (str (dd c [])).size ≤ 100 := by
    rw [str_size]
    unfold dd
    rw [if_neg (by omega), List.append_nil]
    have := (decDigits_len 19 c).mpr (by omega)
    omega
   have hc0 : 0 < c := by omega
   simp (maxSteps := 1000000) (disch := omega) [ip, wr, spec_Dec.b, hz, hn, hc0]
   refine dec_neg _ _ 20 c [] (by omega) (by omega) (by simp) ?_
   simp (maxSteps := 1000000) (disch := omega) [ip, wr, e]
  ·obtain ⟨c, rfl⟩ : ∃ c : Nat, n = (c : Int) := ⟨n.toNat, by omega⟩
   have e : str (itoa (c : Int)) = str (dd c []) := by
    unfold itoa dd
    rw [if_neg hn, if_neg (by omega), List.append_nil]
    rfl
   simp (maxSteps := 1000000) (disch := omega) [ip, wr, spec_Dec.b, hz, hn]
   refine dec_pos _ _ 20 c [] (by omega) (by omega) (by simp) ?_
   simp (maxSteps := 1000000) (disch := omega) [ip, wr, e]
theorem trim_size (s : ByteArray) : (trimMinus s).size = (if s.data.toList.head? = some 45 then s.size - 1 else s.size) := by
 unfold trimMinus
 have hsz : s.data.toList.length = s.size := Array.length_toList
 by_cases h : 1 ≤ s.size
 ·have e : (s.extract 0 1 = ⟨#[45]⟩) ↔ s.data.toList.head? = some 45 := by
   rw [← toList_injE, ByteArray.toList_eq, ByteArray.toList_eq]
   simp only [ByteArray.data_extract, Array.toList_extract, List.extract_eq_take_drop, List.drop_zero]
   cases hl : s.data.toList with
   | nil => rw [hl] at hsz; simp at hsz; omega
   | cons b t => simp
  by_cases hh : s.data.toList.head? = some 45
  ·rw [if_pos ⟨h, e.mpr hh⟩, if_pos hh]; simp
  ·rw [if_neg (fun x => hh (e.mp x.2)), if_neg hh]
 ·rw [if_neg (fun x => h x.1), if_neg]
  cases hl : s.data.toList with
  | nil => simp
  | cons b t => rw [hl] at hsz; simp at hsz; omega
theorem readDecR_rd (s : ByteArray) : readDecR s = some (rd s) := by
 have key : ∃ r, readDecR s = some r ∧ IsRD s.data.toList r := by
  have hdl := trim_size s
  have hsz : s.data.toList.length = s.size := Array.length_toList
  unfold readDecR
  generalize trimMinus s = d at hdl
  have hnum : ∀ n : Int, -1000000000 < n → n < 1000000000 → itoa n = s.data.toList → 1 ≤ d.size ∧ d.size ≤ 9 ∧ s.size ≤ 10 := by
   intro n h0 h1 h2
   have hd9 : (decDigits n.natAbs).length ≤ 9 := (decDigits_len 8 _).mpr (by omega)
   have hd1 : 0 < (decDigits n.natAbs).length := List.length_pos_iff.mpr (decDigits_ne _)
   by_cases hn : n < 0
   ·have e : itoa n = 45 :: decDigits n.natAbs := by unfold itoa; rw [if_pos hn]
    rw [e] at h2
    rw [← h2] at hdl hsz
    simp at hdl hsz
    omega
   ·have e : itoa n = decDigits n.natAbs := by unfold itoa; rw [if_neg hn, show n.toNat = n.natAbs from by omega]
    have hhead : ¬ s.data.toList.head? = some 45 := by
     intro hh
     apply hn
     apply (itoa_head n).mp
     rw [h2]
     cases hlst : s.data.toList with
     | nil => rw [hlst] at hh; cases hh
     | cons b t => rw [hlst] at hh; simp at hh; exact ⟨t, by rw [hh]⟩
    rw [if_neg hhead] at hdl
    rw [e] at h2
    rw [← h2] at hsz
    omega
  by_cases hr : 1 ≤ d.size ∧ d.size ≤ 9
  ·have hs11 : s.data.toList.length ≤ 18 := by
    rw [hsz]
    split at hdl <;> omega
   rw [if_pos hr]
   rcases hA : atoiAll s.data.toList with v | _ | _
   rotate_left
   ·refine ⟨_, rfl, .inr ⟨fun n h0 h1 h2 => ?_, rfl⟩⟩
    rw [← h2, atoiAll_short _ (by have := (itoa_len n h0 h1).1; omega), atoi_itoa] at hA
    cases hA
   ·refine ⟨_, rfl, .inr ⟨fun n h0 h1 h2 => ?_, rfl⟩⟩
    rw [← h2, atoiAll_short _ (by have := (itoa_len n h0 h1).1; omega), atoi_itoa] at hA
    cases hA
   ·have hv := atoiAll_bounds hA
    simp only
    rw [if_pos ⟨hv.1, by omega⟩]
    by_cases hh : itoa v = s.data.toList
    ·rw [if_pos (show (⟨(itoa v).toArray⟩ : ByteArray) = s from (str_eq _ _).mpr hh)]
     refine ⟨_, rfl, .inl ⟨v, ?_, ?_, hh, rfl⟩⟩
     all_goals
      have hlen : (decDigits v.natAbs).length ≤ 9 := by
       have hl2 := congrArg List.length hh
       rw [hsz] at hl2
       unfold itoa at hl2
       by_cases hn : v < 0
       ·rw [if_pos hn] at hl2
        have : s.data.toList.head? = some 45 := by rw [← hh]; unfold itoa; rw [if_pos hn]; rfl
        rw [if_pos this] at hdl
        simp at hl2
        omega
       ·rw [if_neg hn, show v.toNat = v.natAbs from by omega] at hl2
        have : ¬ s.data.toList.head? = some 45 := by
         intro h45
         apply hn
         apply (itoa_head v).mp
         rw [hh]
         cases hlst : s.data.toList with
         | nil => rw [hlst] at h45; cases h45
         | cons b t => rw [hlst] at h45; simp at h45; exact ⟨t, by rw [h45]⟩
        rw [if_neg this] at hdl
        omega
      have := (decDigits_len 8 v.natAbs).mp hlen
      omega
    ·rw [if_neg (show ¬ (⟨(itoa v).toArray⟩ : ByteArray) = s from fun x => hh ((str_eq _ _).mp x))]
     refine ⟨_, rfl, .inr ⟨fun n h0 h1 h2 => ?_, rfl⟩⟩
     have h3 := hA
     rw [← h2, atoiAll_short _ (by have := (itoa_len n h0 h1).1; omega), atoi_itoa] at h3
     simp only [NumEnd.ofOption, NumEnd.ok.injEq] at h3
     subst h3
     exact hh h2
  ·rw [if_neg hr]
   refine ⟨(0, false), rfl, .inr ⟨fun n h0 h1 h2 => ?_, rfl⟩⟩
   have := hnum n h0 h1 h2
   exact hr ⟨this.1, this.2.1⟩
 obtain ⟨r, h1, h2⟩ := key
 rw [h1, h2.same (rd_is s)]
theorem implReadDec (s : ByteArray) (h : (s.size : Int) ≤ 140737488351232) : A 222 [.leaf (.str s)] = some ([.leaf (.int .i64 (rd s).1), .leaf (.bool (rd s).2)], [.gone]) :=
 P_impl_ReadDec (by
  have h : s.size ≤ 140737488351232 := by omega
  simp only [prim_impl_ReadDec, runReadDec, if_pos h, readDecR_rd, Option.map_some])
theorem data_at (s : ByteArray) (i : Nat) (h : i < s.size) : s.data[i]? = some (s.data.toList[i]'(by rw [Array.length_toList]; exact h)) := by
 rw [Array.getElem?_eq_getElem h, Array.getElem_toList]
theorem readDec_loop (s : ByteArray) (hs : (s.size : Int) ≤ 140737488351232) (ks : List Fr) (Q : VX → Env → Prop) (m : Nat) (hm : m = min s.size 11)
  (hq : Run G A (.exit 0) [(0, .v (.leaf (.str s))), (4, .v (.leaf (.int .i64 (rdAt s m).1))), (5, .v (.leaf (.int .i64 (rdAt s m).2))), (6, .v (.leaf (.int .i64 m))), (14, .v (.leaf (.bool false)))] ks Q) :
  ∀ d i : Nat, i + d = 11 → i ≤ s.size → Run G A (.loop spec_ReadDec.l0) [(0, .v (.leaf (.str s))), (4, .v (.leaf (.int .i64 (rdAt s i).1))), (5, .v (.leaf (.int .i64 (rdAt s i).2))), (6, .v (.leaf (.int .i64 i)))] ks Q := by
 intro d
 induction d with
 | zero =>
  intro i hi his
  obtain rfl : i = 11 := by omega
  obtain rfl : m = 11 := by omega
  refine run_loop_at spec_ReadDec.l0.eq_1 ?_
  by_cases h : (11 : Int) < s.size
  ·simp (maxSteps := 1000000) (disch := omega) [ip, wr, h]; exact hq
  ·simp (maxSteps := 1000000) (disch := omega) [ip, wr, h]; exact hq
 | succ d ih =>
  intro i hi his
  have hlt := rdAt_lt s i (by omega)
  have hct := rdAt_count s i
  refine run_loop_at spec_ReadDec.l0.eq_1 ?_
  by_cases h : i < s.size
  ·have ih := ih (i + 1) (by omega) (by omega)
   have hb := data_at s i h
   have hstep : rdAt s (i + 1) = rdStep (rdAt s i) (s.data.toList[i]'(by rw [Array.length_toList]; exact h)) := by
    unfold rdAt
    rw [take_succ' s i h, rd_append]
   generalize hbb : s.data.toList[i]'(by rw [Array.length_toList]; exact h) = b at hb hstep
   have h11 : (i : Int) < 11 := by omega
   have hi : (i : Int) < s.size := by omega
   have hbt : b.toNat < 256 := UInt8.toNat_lt b
   rw [hstep] at ih
   by_cases h48 : 48 ≤ b.toNat
   ·by_cases h57 : b.toNat ≤ 57
    ·have g48 : (48 : Int) ≤ b.toNat := by omega
     have g57 : (b.toNat : Int) ≤ 57 := by omega
     have e2 : rdStep (rdAt s i) b = ((rdAt s i).1 * 10 + (b.toNat - 48), (rdAt s i).2 + 1) := by unfold rdStep; rw [if_pos ⟨h48, h57⟩]
     rw [e2] at ih
     generalize rdAt s i = x at *
     simp (maxSteps := 1000000) (disch := omega) [ip, wr, hb, h11, hi, h48, h57, g48, g57]
     refine run_env ih ?_
     simp
     omega
    ·have g48 : (48 : Int) ≤ b.toNat := by omega
     have g57 : ¬ (b.toNat : Int) ≤ 57 := by omega
     have e2 : rdStep (rdAt s i) b = rdAt s i := by unfold rdStep; rw [if_neg (fun x => h57 x.2)]
     rw [e2] at ih
     simp (maxSteps := 1000000) (disch := omega) [ip, wr, hb, h11, hi, h48, h57, g48, g57]
     refine run_env ih ?_
     simp
   ·have g48 : ¬ (48 : Int) ≤ b.toNat := by omega
    have e2 : rdStep (rdAt s i) b = rdAt s i := by unfold rdStep; rw [if_neg (fun x => h48 x.1)]
    rw [e2] at ih
    simp (maxSteps := 1000000) (disch := omega) [ip, wr, hb, h11, hi, h48, g48]
    refine run_env ih ?_
    simp
  ·obtain rfl : i = s.size := by omega
   obtain rfl : m = s.size := by omega
   simp (maxSteps := 1000000) (disch := omega) [ip, wr, ]
   exact hq
theorem specReadDec (s : ByteArray) (hs : (s.size : Int) ≤ 140737488351232) : A 174 [.leaf (.str s)] = some ([.leaf (.int .i64 (rd s).1), .leaf (.bool (rd s).2)], [.gone]) := by
 refine run_spec_ReadDec ?_
 simp (maxSteps := 1000000) (disch := omega) [ip, wr, spec_ReadDec.b]
 refine readDec_loop s hs _ _ _ rfl ?_ 11 0 (by omega) (by omega)
 have hx := rdAt_lt s (min s.size 11) (by omega)
 rw [← rdEnd_rd s]
 generalize rdAt s (min s.size 11) = x at *
 have hsz : s.data.toList.length = s.size := Array.length_toList
 have key : ∀ v : Int, (v = if s.data.toList.head? = some 45 then -(x.1 : Int) else x.1) → rdEnd s x = if (x.2 : Int) > 9 ∨ (s.size : Int) > 10 ∨ str (itoa v) ≠ s then (0, false) else (v, true) := by
  intro v hv
  unfold rdEnd
  rw [← hv]
  by_cases c1 : (x.2 : Int) > 9
  ·rw [if_pos c1, if_pos (.inl c1)]
  ·rw [if_neg c1]
   by_cases c2 : (s.size : Int) > 10
   ·rw [if_pos c2, if_pos (.inr (.inl c2))]
   ·rw [if_neg c2]
    by_cases c3 : itoa v = s.data.toList
    ·rw [if_pos c3, if_neg (fun hh => hh.elim c1 (fun h => h.elim c2 (fun h => h ((str_eq _ _).mpr c3))))]
    ·rw [if_neg c3, if_pos (.inr (.inr fun h => c3 ((str_eq _ _).mp h)))]
 by_cases h0 : 0 < s.size
 ·have hb := data_at s 0 h0
  have hl : s.data.toList.head? = some (s.data.toList[0]'(by rw [Array.length_toList]; exact h0)) := by
   rw [List.head?_eq_getElem?, List.getElem?_eq_getElem]
  generalize s.data.toList[0]'(by rw [Array.length_toList]; exact h0) = b at hb hl
  have hbt : b.toNat < 256 := UInt8.toNat_lt b
  by_cases h45 : b = 45
  ·subst h45
   have hk := key (-(x.1 : Int)) (by rw [if_pos hl])
   rw [hk]
   have hd := dec (-(x.1 : Int)) (by omega) (by omega)
   by_cases c1 : (x.2 : Int) > 9
   ·have c1' : (9 : Int) < x.2 := c1
    simp (maxSteps := 1000000) (disch := omega) [ip, wr, hb, c1, c1', h0]
   ·by_cases c2 : (s.size : Int) > 10
    ·have c2' : (10 : Int) < s.size := c2
     simp (maxSteps := 1000000) (disch := omega) [ip, wr, hb, c1, c2, c2', h0]
    ·by_cases c3 : str (itoa (-(x.1 : Int))) = s
     ·simp (maxSteps := 1000000) (disch := omega) [ip, wr, hb, c1, c2, c3, h0, hd]
     ·simp (maxSteps := 1000000) (disch := omega) [ip, wr, hb, c1, c2, c3, h0, hd]
  ·have hne : ¬ b.toNat = 45 := fun h => h45 (UInt8.toNat_inj.mp h)
   have hne2 : ¬ (b.toNat : Int) = 45 := by omega
   have hk := key (x.1 : Int) (by rw [if_neg (by rw [hl]; simpa using h45)])
   rw [hk]
   have hd := dec (x.1 : Int) (by omega) (by omega)
   by_cases c1 : (x.2 : Int) > 9
   ·have c1' : (9 : Int) < x.2 := c1
    simp (maxSteps := 1000000) (disch := omega) [ip, wr, hb, c1, c1', h0, hne, hne2]
   ·by_cases c2 : (s.size : Int) > 10
    ·have c2' : (10 : Int) < s.size := c2
     simp (maxSteps := 1000000) (disch := omega) [ip, wr, hb, c1, c2, c2', h0, hne, hne2]
    ·by_cases c3 : str (itoa (x.1 : Int)) = s
     ·simp (maxSteps := 1000000) (disch := omega) [ip, wr, hb, c1, c2, c3, h0, hd, hne, hne2]
     ·simp (maxSteps := 1000000) (disch := omega) [ip, wr, hb, c1, c2, c3, h0, hd, hne, hne2]
 ·have hnil : s.data.toList = [] := by
   apply List.eq_nil_of_length_eq_zero
   omega
  have hk := key (x.1 : Int) (by rw [if_neg (by rw [hnil]; simp)])
  rw [hk]
  have hd := dec (x.1 : Int) (by omega) (by omega)
  have c2 : ¬ (s.size : Int) > 10 := by omega
  by_cases c1 : (x.2 : Int) > 9
  ·have c1' : (9 : Int) < x.2 := c1
   simp (maxSteps := 1000000) (disch := omega) [ip, wr, c1, c1', h0, c2]
  ·by_cases c3 : str (itoa (x.1 : Int)) = s
   ·simp (maxSteps := 1000000) (disch := omega) [ip, wr, c1, c2, c3, h0, hd]
   ·simp (maxSteps := 1000000) (disch := omega) [ip, wr, c1, c2, c3, h0, hd]
end Go.Proofs.YtjcjodcpiickaaaGreatDoor.RA
