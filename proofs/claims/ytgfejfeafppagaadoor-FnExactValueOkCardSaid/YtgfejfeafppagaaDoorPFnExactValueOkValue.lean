/- Values of the program and of the reference: what they tell. -/
import Derived.Test.YtgfejfeafppagaaDoorPFnExactValueOkSym
namespace Go.Proofs.YtgfejfeafppagaaDoor.PFnExactValueOk
open Go.RowKit Go.Lib Go.Proofs.YtgfejfeafppagaaDoor.Aux Go.Proofs.YtgfejfeafppagaaDoorW.PrintWords Go.Proofs.YtgfejfeafppagaaDoorW.PrintLast Go.Proofs.YtgfejfeafppagaaDoorW.PrintMore

def inn (n lo hi : Int) : Bool := decide (lo ≤ n) && decide (n ≤ hi)
/-- Does n name a cell of the kind c? -/
def cellB (l : List S100) (n c : Int) : Bool := inn n 0 ((l.length : Int) - 1) && ((rd_T100 l n).f0 == c)
/-- Is it a value, where sy is whether its text is a symbol? -/
def vOk (l : List S100) (kd n : Int) (s : ByteArray) (sy : Bool) : Bool :=
  if kd = 1 then inn n (-1000000) 1000000 && (s.toList == ([] : List UInt8))
  else if kd = 2 then inn n 0 1 && (s.toList == ([] : List UInt8))
  else if kd = 3 then (n == 0) && (s.toList == ([] : List UInt8))
  else if kd = 4 then (n == 0) && sy
  else if kd = 5 then (s.toList == ([] : List UInt8)) && cellB l n 1
  else if kd = 6 then (s.toList == ([] : List UInt8)) && cellB l n 2
  else if kd = 7 then (s.toList == ([] : List UInt8)) && cellB l n 3
  else false
theorem spec_l6Cell_is (l : List S100) (n c : Int) : spec_l6Cell.f l n c = some (cellB l n c) := by
  unfold spec_l6Cell.f cellB inn
  by_cases h0 : n ≥ 0
  · rw [if_pos h0, decide_eq_true (show 0 ≤ n from h0)]
    by_cases h1 : n < (l.length : Int)
    · rw [if_pos h1, if_pos (show 0 ≤ n from h0), decide_eq_true (show n ≤ (l.length : Int) - 1 by omega)]
      rfl
    · rw [if_neg h1, decide_eq_false (show ¬ n ≤ (l.length : Int) - 1 by omega)]
      rfl
  · rw [if_neg h0, decide_eq_false (show ¬ 0 ≤ n from h0)]
    rfl
theorem spec_value_is (l : List S100) (kd n : Int) (s : ByteArray) (sy : Bool) (hy : Ev (fun k => spec_l2Sym.f k s) sy) : Ev (fun k => spec_ValueOk.f k l kd n s) (vOk l kd n s sy) := by
  unfold spec_ValueOk.f
  by_cases h4 : kd = 4
  · subst h4
    refine ev_if_pos rfl ?_
    refine Ev.step (f := fun k => if n = 0 then (spec_l2Sym.f k s).bind fun t => some t else some false) (fun k => by simp [spec_ValueOk.j0]) ?_
    by_cases hn : n = 0
    · refine ev_if_pos hn (Ev.bind hy ?_)
      rw [show vOk l 4 n s sy = sy from by simp [vOk, hn]]
      exact Ev.now _
    · refine ev_if_neg hn ?_
      rw [show vOk l 4 n s sy = false from by simp [vOk, hn]]
      exact Ev.now _
  · refine ev_if_neg h4 (Ev.step (f := fun _ => some (vOk l kd n s sy)) (fun k => ?_) (Ev.now _))
    simp only [spec_ValueOk.j0, spec_l1In_is, spec_l6Cell_is, Option.bind_some, if_neg h4, bne, vOk, inn]
    cases he : (s.toList == ([] : List UInt8))
    · simp only [Bool.not_false, if_true, Bool.and_false, Bool.false_and]
      repeat' split
      all_goals rfl
    · simp only [Bool.not_true, Bool.false_eq_true, if_false, Bool.and_true, Bool.true_and]
      repeat' split
      all_goals rfl
theorem impl_value_j0 (l : List S100) (hl : l.length ≤ 140737488351232) (b : Bool) (kd c n : Int) (s : ByteArray) (hc : impl_cellKind.f kd = some c) : Ev (fun k => impl_ValueOk.j0 k l b kd n s) (b && ((s.toList == ([] : List UInt8)) && cellB l n c)) := by
  refine Ev.step (f := fun _ => some (b && ((s.toList == ([] : List UInt8)) && cellB l n c))) (fun k => ?_) (Ev.now _)
  simp only [impl_ValueOk.j0, impl_inRange_is, hc, Option.bind_some, cellB, inn]
  rw [w64 (n := (l.length : Int) - 1) (by omega) (by omega)]
  cases b with
  | false => rfl
  | true =>
    rw [if_pos rfl]
    by_cases he : s.toList = ([] : List UInt8)
    · rw [if_pos he, he]
      cases hi : (decide (0 ≤ n) && decide (n ≤ (l.length : Int) - 1)) with
      | false => rfl
      | true =>
        simp only [Bool.and_eq_true, decide_eq_true_eq] at hi
        rw [if_pos rfl, if_pos hi.1, if_pos (by omega)]
        rfl
    · rw [if_neg he, show (s.toList == ([] : List UInt8)) = false from by simpa using he]
      rfl
theorem impl_value_is (l : List S100) (hl : l.length ≤ 140737488351232) (kd n : Int) (s : ByteArray) (sy : Bool) (hy : Ev (fun k => impl_symOk.f k s) sy) : Ev (fun k => impl_ValueOk.f k l kd n s) (vOk l kd n s sy) := by
  unfold impl_ValueOk.f
  rw [impl_inRange_is, impl_inRange_is]
  by_cases h1 : kd = 1
  · refine ev_if_pos h1 (Ev.congr (f := fun _ => some (vOk l kd n s sy)) (fun k => ?_) (Ev.now _))
    simp only [Option.bind_some, vOk, if_pos h1, inn]
    cases (decide (-1000000 ≤ n) && decide (n ≤ 1000000)) <;> rfl
  refine ev_if_neg h1 ?_
  by_cases h2 : kd = 2
  · refine ev_if_pos h2 (Ev.congr (f := fun _ => some (vOk l kd n s sy)) (fun k => ?_) (Ev.now _))
    simp only [Option.bind_some, vOk, if_neg h1, if_pos h2, inn]
    cases (decide (0 ≤ n) && decide (n ≤ 1)) <;> rfl
  refine ev_if_neg h2 ?_
  by_cases h3 : kd = 3
  · refine ev_if_pos h3 (Ev.congr (f := fun _ => some (vOk l kd n s sy)) (fun k => ?_) (Ev.now _))
    simp only [vOk, if_neg h1, if_neg h2, if_pos h3]
    split <;> simp_all
  refine ev_if_neg h3 ?_
  by_cases h4 : kd = 4
  · refine ev_if_pos h4 ?_
    by_cases hn : n = 0
    · refine ev_if_pos hn (Ev.bind hy ?_)
      rw [show vOk l kd n s sy = sy from by simp [vOk, h4, hn]]
      exact Ev.now _
    · refine ev_if_neg hn ?_
      rw [show vOk l kd n s sy = false from by simp [vOk, h4, hn]]
      exact Ev.now _
  refine ev_if_neg h4 ?_
  by_cases h5 : kd = 5
  · subst h5
    have h := impl_value_j0 l hl ((5 : Int) == 5) 5 1 n s rfl
    exact ev_if_pos rfl h
  refine ev_if_neg h5 ?_
  by_cases h6 : kd = 6
  · subst h6
    have h := impl_value_j0 l hl ((6 : Int) == 6) 6 2 n s rfl
    exact ev_if_pos rfl h
  refine ev_if_neg h6 ?_
  by_cases h7 : kd = 7
  · subst h7
    have h := impl_value_j0 l hl ((7 : Int) == 7) 7 3 n s rfl
    exact h
  have h := impl_value_j0 l hl (kd == 7) kd 0 n s (by unfold impl_cellKind.f; rw [if_neg h5, if_neg h6, if_neg h7])
  rw [show (kd == 7) = false from by simpa using h7] at h ⊢
  rw [show vOk l kd n s sy = false from by unfold vOk; rw [if_neg h1, if_neg h2, if_neg h3, if_neg h4, if_neg h5, if_neg h6, if_neg h7]]
  exact h
/-- The two alike. -/
theorem value_same (l : List S100) (hl : l.length ≤ 140737488351232) (kd n : Int) (s : ByteArray) (hs : s.size ≤ 140737488351232) : ∃ b, Ev (fun k => spec_ValueOk.f k l kd n s) b ∧ Ev (fun k => impl_ValueOk.f k l kd n s) b := by
  obtain ⟨b, h1, h2, _⟩ := sym_same s hs
  exact ⟨_, spec_value_is l kd n s b h1, impl_value_is l hl kd n s b h2⟩

end Go.Proofs.YtgfejfeafppagaaDoor.PFnExactValueOk
