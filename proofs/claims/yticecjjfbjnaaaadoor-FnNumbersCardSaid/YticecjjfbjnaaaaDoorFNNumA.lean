/- Numbers: ranges, Dec of the reference, ReadDec of both. -/
import Derived.Test.YticecjjfbjnaaaaDoorEngM7
import Derived.Test.YticecjjfbjnaaaaDoorEngPReadDec
import Derived.Test.YticecjjfbjnaaaaDoorFNTab
namespace Go.Proofs.YticecjjfbjnaaaaDoor.FN
open Go Go.VS Go.Lib
set_option maxRecDepth 10000
set_option linter.unusedSimpArgs false
set_option linter.unusedVariables false
def within (lo hi n : Int) : Bool := decide (lo ≤ n ∧ n ≤ hi)
theorem and_of (a b : Prop) [Decidable a] [Decidable b] : (decide a && decide b) = decide (a ∧ b) := by simp
theorem inRange (n lo hi : Int) : A 19 [.leaf (.int .i64 n), .leaf (.int .i64 lo), .leaf (.int .i64 hi)] = some ([.leaf (.bool (decide (lo ≤ n ∧ n ≤ hi)))], [.gone, .gone, .gone]) := by
 refine run_impl_inRange ?_
 by_cases h : lo ≤ n
 ·simp [impl_inRange.b, h]
 ·simp [impl_inRange.b, h]
theorem inRange' (n lo hi : Int) : A 19 [.leaf (.int .i64 n), .leaf (.int .i64 lo), .leaf (.int .i64 hi)] = some ([.leaf (.bool (within lo hi n))], [.gone, .gone, .gone]) := inRange n lo hi
theorem l1In (n lo hi : Int) : A 38 [.leaf (.int .i64 n), .leaf (.int .i64 lo), .leaf (.int .i64 hi)] = some ([.leaf (.bool (decide (lo ≤ n ∧ n ≤ hi)))], [.gone, .gone, .gone]) := by
 refine run_spec_l1In ?_
 by_cases h : lo ≤ n
 ·simp [spec_l1In.b, h]
 ·simp [spec_l1In.b, h]
theorem l1In' (n lo hi : Int) : A 38 [.leaf (.int .i64 n), .leaf (.int .i64 lo), .leaf (.int .i64 hi)] = some ([.leaf (.bool (within lo hi n))], [.gone, .gone, .gone]) := l1In n lo hi
theorem trim_size (s : ByteArray) : (trimMinus s).size = (if s.data.toList.head? = some 45 then s.size - 1 else s.size) := by
 unfold trimMinus
 have hsz : s.data.toList.length = s.size := Array.length_toList
 by_cases h : 1 ≤ s.size
 ·have e : (s.extract 0 1 = ⟨#[45]⟩) ↔ s.data.toList.head? = some 45 := by
   rw [← toList_injE, ByteArray.toList_eq, ByteArray.toList_eq]
   simp only [ByteArray.data_extract, Array.toList_extract, List.extract_eq_take_drop, List.drop_zero]
   cases hl : s.data.toList with
   | nil => rw [hl] at hsz; simp at hsz; omega
   | cons b t => simp
  by_cases hh : s.data.toList.head? = some 45
  ·rw [if_pos ⟨h, e.mpr hh⟩, if_pos hh]; simp
  ·rw [if_neg (fun x => hh (e.mp x.2)), if_neg hh]
 ·rw [if_neg (fun x => h x.1), if_neg]
  cases hl : s.data.toList with
  | nil => simp
  | cons b t => rw [hl] at hsz; simp at hsz; omega
theorem readDecR_rd (s : ByteArray) : readDecR s = some (rd s) := by
 have key : ∃ r, readDecR s = some r ∧ IsRD s.data.toList r := by
  have hdl := trim_size s
  have hsz : s.data.toList.length = s.size := Array.length_toList
  unfold readDecR
  generalize trimMinus s = d at hdl
  have hnum : ∀ n : Int, -1000000000 < n → n < 1000000000 → itoa n = s.data.toList → 1 ≤ d.size ∧ d.size ≤ 9 ∧ s.size ≤ 10 := by
   intro n h0 h1 h2
   have hd9 : (decDigits n.natAbs).length ≤ 9 := (decDigits_len 8 _).mpr (by omega)
   have hd1 : 0 < (decDigits n.natAbs).length := List.length_pos_iff.mpr (decDigits_ne _)
   by_cases hn : n < 0
   ·have e : itoa n = 45 :: decDigits n.natAbs := by unfold itoa; rw [if_pos hn]
    rw [e] at h2
    rw [← h2] at hdl hsz
    simp at hdl hsz
    omega
   ·have e : itoa n = decDigits n.natAbs := by unfold itoa; rw [if_neg hn, show n.toNat = n.natAbs from by omega]
    have hhead : ¬ s.data.toList.head? = some 45 := by
     intro hh
     apply hn
     apply (itoa_head n).mp
     rw [h2]
     cases hlst : s.data.toList with
     | nil => rw [hlst] at hh; cases hh
     | cons b t => rw [hlst] at hh; simp at hh; exact ⟨t, by rw [hh]⟩
    rw [if_neg hhead] at hdl
    rw [e] at h2
    rw [← h2] at hsz
    omega
  by_cases hr : 1 ≤ d.size ∧ d.size ≤ 9
  ·have hs11 : s.data.toList.length ≤ 18 := by
    rw [hsz]
    split at hdl <;> omega
   rw [if_pos hr]
   rcases hA : atoiAll s.data.toList with v | _ | _
   rotate_left
   ·refine ⟨_, rfl, .inr ⟨fun n h0 h1 h2 => ?_, rfl⟩⟩
    rw [← h2, atoiAll_short _ (by have := (itoa_len n h0 h1).1; omega), atoi_itoa] at hA
    cases hA
   ·refine ⟨_, rfl, .inr ⟨fun n h0 h1 h2 => ?_, rfl⟩⟩
    rw [← h2, atoiAll_short _ (by have := (itoa_len n h0 h1).1; omega), atoi_itoa] at hA
    cases hA
   ·have hv := atoiAll_bounds hA
    simp only
    rw [if_pos ⟨hv.1, by omega⟩]
    by_cases hh : itoa v = s.data.toList
    ·rw [if_pos (show (⟨(itoa v).toArray⟩ : ByteArray) = s from (str_eq _ _).mpr hh)]
     refine ⟨_, rfl, .inl ⟨v, ?_, ?_, hh, rfl⟩⟩
     all_goals
      have hlen : (decDigits v.natAbs).length ≤ 9 := by
       have hl2 := congrArg List.length hh
       rw [hsz] at hl2
       unfold itoa at hl2
       by_cases hn : v < 0
       ·rw [if_pos hn] at hl2
        have : s.data.toList.head? = some 45 := by rw [← hh]; unfold itoa; rw [if_pos hn]; rfl
        rw [if_pos this] at hdl
        simp at hl2
        omega
       ·rw [if_neg hn, show v.toNat = v.natAbs from by omega] at hl2
        have : ¬ s.data.toList.head? = some 45 := by
         intro h45
         apply hn
         apply (itoa_head v).mp
         rw [hh]
         cases hlst : s.data.toList with
         | nil => rw [hlst] at h45; cases h45
         | cons b t => rw [hlst] at h45; simp at h45; exact ⟨t, by rw [h45]⟩
        rw [if_neg this] at hdl
        omega
      have := (decDigits_len 8 v.natAbs).mp hlen
      omega
    ·rw [if_neg (show ¬ (⟨(itoa v).toArray⟩ : ByteArray) = s from fun x => hh ((str_eq _ _).mp x))]
     refine ⟨_, rfl, .inr ⟨fun n h0 h1 h2 => ?_, rfl⟩⟩
     have h3 := hA
     rw [← h2, atoiAll_short _ (by have := (itoa_len n h0 h1).1; omega), atoi_itoa] at h3
     simp only [NumEnd.ofOption, NumEnd.ok.injEq] at h3
     subst h3
     exact hh h2
  ·rw [if_neg hr]
   refine ⟨(0, false), rfl, .inr ⟨fun n h0 h1 h2 => ?_, rfl⟩⟩
   have := hnum n h0 h1 h2
   exact hr ⟨this.1, this.2.1⟩
 obtain ⟨r, h1, h2⟩ := key
 rw [h1, h2.same (rd_is s)]
theorem implReadDec (s : ByteArray) (h : (s.size : Int) ≤ 140737488351232) : A 11 [.leaf (.str s)] = some ([.leaf (.int .i64 (rd s).1), .leaf (.bool (rd s).2)], [.gone]) :=
 P_impl_ReadDec (by
  have h : s.size ≤ 140737488351232 := by omega
  simp only [prim_impl_ReadDec, runReadDec, if_pos h, readDecR_rd, Option.map_some])
end Go.Proofs.YticecjjfbjnaaaaDoor.FN
