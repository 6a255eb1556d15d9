-- Written by a program of this session (kin.py): what a law's measuring, copying and comparing functions come to.
import Derived.Test.YtgfejfeafppagaaDoorPFnExactValueOkq
import Derived.Test.YtgfejfeafppagaaDoorAuxKin
namespace Go.Proofs.YtgfejfeafppagaaDoor.PFnExactValueOk
open Go.RowKit Go.Proofs.YtgfejfeafppagaaDoor.Aux Go.Proofs.YtgfejfeafppagaaDoorW.PrintWords Go.Proofs.YtgfejfeafppagaaDoorW.PrintLast Go.Proofs.YtgfejfeafppagaaDoorW.PrintMore
set_option linter.unusedVariables false
def wStringS (l : List ByteArray) : Int := (l.length : Int) + wsum (fun x : ByteArray => (x.size : Int)) l
theorem wStringS_nn (l : List ByteArray) : 0 ≤ wStringS l := by unfold wStringS; have := wsum_nn (fun x : ByteArray => (x.size : Int)) (fun x => by omega) l; omega
theorem szStringS_is (l : List ByteArray) (a : Int) (h0 : 0 ≤ a) (h1 : a ≤ 1048576) (hx : ∀ x ∈ l, x.size ≤ 140737488351232) (hl : l.length * 16 ≤ 140737488351232) : Ev (fun k => laws_szStringS.f k l a) (cut a (wStringS l)) := by
  unfold laws_szStringS.f wStringS
  rw [show wrap64 (a - (l.length : Int)) = a - (l.length : Int) from w64 (by omega) (by omega)]
  refine cut_len (wsum_nn _ (fun x => by omega) l) fun hle => ?_
  refine sz_all l (fun x : ByteArray => (x.size : Int)) (fun x => by omega) (by omega) (fun k a i => laws_szStringS.l0 k l a i) (fun _ a i => some (if wrap64 (a - ((rdOf ByteArray.empty l i).size : Int)) < 0 then -1 else wrap64 (a - ((rdOf ByteArray.empty l i).size : Int)))) (fun k a i => ?_) (fun i hi a h0 h1 => ?_) (a - (l.length : Int)) (by omega) (by omega)
  · simp only [laws_szStringS.l0, Option.bind_some]
    repeat' split
    all_goals first | rfl | omega
  · rw [show rdOf ByteArray.empty l (i : Int) = l[i] from getD_is l _ i hi]
    have hs := hx l[i] (List.getElem_mem hi)
    rw [w64 (n := a - (l[i].size : Int)) (by omega) (by omega)]
    refine ⟨0, fun _ _ => congrArg some ?_⟩
    unfold cut
    split <;> split <;> omega
def wValue (_a0_0 : Int) (_a0_1 : Int) (a0_2 : ByteArray) : Int := (a0_2.size : Int) + 0
theorem wValue_nn (a0_0 : Int) (a0_1 : Int) (a0_2 : ByteArray) : 0 ≤ wValue a0_0 a0_1 a0_2 := by unfold wValue;  omega
theorem szValue_is (a0_0 : Int) (a0_1 : Int) (a0_2 : ByteArray) (a : Int) (h0 : 0 ≤ a) (h1 : a ≤ 1048576) (h_a0_2 : a0_2.size ≤ 140737488351232) : Ev (fun _ => laws_szValue.f a0_0 a0_1 a0_2 a) (cut a (wValue a0_0 a0_1 a0_2)) := by
  unfold laws_szValue.f wValue
  rw [show wrap64 (a - (a0_2.size : Int)) = a - (a0_2.size : Int) from w64 (by omega) (by omega)]
  refine cut_len (by omega) fun l0 => ?_
  exact cut_now (by omega)
def wValueS (l : List S39) : Int := (l.length : Int) + wsum (fun x : S39 => wValue x.f0 x.f1 x.f2) l
theorem wValueS_nn (l : List S39) : 0 ≤ wValueS l := by unfold wValueS; have := wsum_nn (fun x : S39 => wValue x.f0 x.f1 x.f2) (fun x => wValue_nn x.f0 x.f1 x.f2) l; omega
theorem szValueS_is (l : List S39) (a : Int) (h0 : 0 ≤ a) (h1 : a ≤ 1048576) (hx : ∀ x ∈ l, ok39 x) (hl : l.length * 32 ≤ 140737488351232) : Ev (fun k => laws_szValueS.f k l a) (cut a (wValueS l)) := by
  unfold laws_szValueS.f wValueS
  rw [show wrap64 (a - (l.length : Int)) = a - (l.length : Int) from w64 (by omega) (by omega)]
  refine cut_len (wsum_nn _ (fun x => wValue_nn x.f0 x.f1 x.f2) l) fun hle => ?_
  refine sz_all l (fun x : S39 => wValue x.f0 x.f1 x.f2) (fun x => wValue_nn x.f0 x.f1 x.f2) (by omega) (fun k a i => laws_szValueS.l0 k l a i) (fun _ a i => laws_szValue.f ((rd_T39 l i).f0) ((rd_T39 l i).f1) ((rd_T39 l i).f2) a) (fun k a i => rfl) (fun i hi a h0 h1 => ?_) (a - (l.length : Int)) (by omega) (by omega)
  show Ev (fun _ => laws_szValue.f (rd_T39 l (i : Int)).f0 (rd_T39 l (i : Int)).f1 (rd_T39 l (i : Int)).f2 a) _
  rw [show rd_T39 l (i : Int) = l[i] from getD_is l _ i hi]
  obtain ⟨_, _, h_f2⟩ := hx l[i] (List.getElem_mem hi)
  exact szValue_is l[i].f0 l[i].f1 l[i].f2 a h0 h1 h_f2
def wCell (_a0_0 : Int) (a0_1 : ByteArray) (_a0_2 : Int) (_a0_3 : Int) (l0_4 : List ByteArray) (l0_5 : List S39) : Int := (a0_1.size : Int) + (wStringS l0_4 + (wValueS l0_5 + 0))
theorem wCell_nn (a0_0 : Int) (a0_1 : ByteArray) (a0_2 : Int) (a0_3 : Int) (l0_4 : List ByteArray) (l0_5 : List S39) : 0 ≤ wCell a0_0 a0_1 a0_2 a0_3 l0_4 l0_5 := by unfold wCell; have := wStringS_nn l0_4; have := wValueS_nn l0_5; omega
theorem szCell_is (a0_0 : Int) (a0_1 : ByteArray) (a0_2 : Int) (a0_3 : Int) (l0_4 : List ByteArray) (l0_5 : List S39) (a : Int) (h0 : 0 ≤ a) (h1 : a ≤ 1048576) (h_a0_1 : a0_1.size ≤ 140737488351232) (h_l0_4 : (∀ x ∈ l0_4, x.size ≤ 140737488351232) ∧ l0_4.length * 16 ≤ 140737488351232) (h_l0_5 : (∀ x ∈ l0_5, ok39 x) ∧ l0_5.length * 32 ≤ 140737488351232) : Ev (fun k => laws_szCell.f k a0_0 a0_1 a0_2 a0_3 l0_4 l0_5 a) (cut a (wCell a0_0 a0_1 a0_2 a0_3 l0_4 l0_5)) := by
  unfold laws_szCell.f wCell
  have n1 := wStringS_nn l0_4
  have n2 := wValueS_nn l0_5
  rw [show wrap64 (a - (a0_1.size : Int)) = a - (a0_1.size : Int) from w64 (by omega) (by omega)]
  refine cut_len (by omega) fun l0 => ?_
  refine cut_bind (by omega) (szStringS_is l0_4 (a - (a0_1.size : Int)) (by omega) (by omega) h_l0_4.1 h_l0_4.2) fun l1 => ?_
  refine cut_bind (by omega) (szValueS_is l0_5 ((a - (a0_1.size : Int)) - wStringS l0_4) (by omega) (by omega) h_l0_5.1 h_l0_5.2) fun l2 => ?_
  exact cut_now (by omega)
def wCellS (l : List S96) : Int := (l.length : Int) + wsum (fun x : S96 => wCell x.f0 x.f1 x.f2 x.f3 x.f4 x.f5) l
theorem wCellS_nn (l : List S96) : 0 ≤ wCellS l := by unfold wCellS; have := wsum_nn (fun x : S96 => wCell x.f0 x.f1 x.f2 x.f3 x.f4 x.f5) (fun x => wCell_nn x.f0 x.f1 x.f2 x.f3 x.f4 x.f5) l; omega
theorem szCellS_is (l : List S96) (a : Int) (h0 : 0 ≤ a) (h1 : a ≤ 1048576) (hx : ∀ x ∈ l, ok96 x) (hl : l.length * 88 ≤ 140737488351232) : Ev (fun k => laws_szCellS.f k l a) (cut a (wCellS l)) := by
  unfold laws_szCellS.f wCellS
  rw [show wrap64 (a - (l.length : Int)) = a - (l.length : Int) from w64 (by omega) (by omega)]
  refine cut_len (wsum_nn _ (fun x => wCell_nn x.f0 x.f1 x.f2 x.f3 x.f4 x.f5) l) fun hle => ?_
  refine sz_all l (fun x : S96 => wCell x.f0 x.f1 x.f2 x.f3 x.f4 x.f5) (fun x => wCell_nn x.f0 x.f1 x.f2 x.f3 x.f4 x.f5) (by omega) (fun k a i => laws_szCellS.l0 k l a i) (fun k a i => laws_szCell.f k ((rd_T96 l i).f0) ((rd_T96 l i).f1) ((rd_T96 l i).f2) ((rd_T96 l i).f3) ((rd_T96 l i).f4) ((rd_T96 l i).f5) a) (fun k a i => rfl) (fun i hi a h0 h1 => ?_) (a - (l.length : Int)) (by omega) (by omega)
  show Ev (fun k => laws_szCell.f k (rd_T96 l (i : Int)).f0 (rd_T96 l (i : Int)).f1 (rd_T96 l (i : Int)).f2 (rd_T96 l (i : Int)).f3 (rd_T96 l (i : Int)).f4 (rd_T96 l (i : Int)).f5 a) _
  rw [show rd_T96 l (i : Int) = l[i] from getD_is l _ i hi]
  obtain ⟨_, h_f1, _, _, h_f4, h_f5⟩ := hx l[i] (List.getElem_mem hi)
  exact szCell_is l[i].f0 l[i].f1 l[i].f2 l[i].f3 l[i].f4 l[i].f5 a h0 h1 h_f1 h_f4 h_f5
theorem toStringS_is (l : List ByteArray) (hl : l.length * 16 ≤ 140737488351232) : Ev (fun k => laws_toStringS.f k l) l := by
  unfold laws_toStringS.f
  refine ev_if_pos (by omega) (ev_if_pos (by omega) ?_)
  have h := to_all l id (by omega) (⟨#[]⟩ : ByteArray) (fun k ys i => laws_toStringS.l0 k l ys i) (fun _ i => some (rdOf ByteArray.empty l i)) id (fun k ys i => rfl) (fun i hi => ⟨_, Ev.now _, getD_is l _ i hi⟩)
  rwa [List.map_id] at h
def rValue (a0_0 : Int) (a0_1 : Int) (a0_2 : ByteArray) : Int × Int × ByteArray := (a0_0, a0_1, a0_2)
theorem toValue_is (a0_0 : Int) (a0_1 : Int) (a0_2 : ByteArray) : Ev (fun _ => laws_toValue.f a0_0 a0_1 a0_2) (rValue a0_0 a0_1 a0_2) := by
  unfold laws_toValue.f rValue
  exact Ev.now _
def mValue (t : Int × Int × ByteArray) : S45 := (⟨t.1, t.2.1, t.2.2⟩ : S45)
def cValue (x : S39) : S45 := mValue (rValue x.f0 x.f1 x.f2)
theorem toValueS_is (l : List S39) (hx : ∀ x ∈ l, ok39 x) (hl : l.length * 32 ≤ 140737488351232) : Ev (fun k => laws_toValueS.f k l) (l.map cValue) := by
  unfold laws_toValueS.f
  refine ev_if_pos (by omega) (ev_if_pos (by omega) ?_)
  refine to_all l cValue (by omega) z45 (fun k ys i => laws_toValueS.l0 k l ys i) (fun _ i => laws_toValue.f ((rd_T39 l i).f0) ((rd_T39 l i).f1) ((rd_T39 l i).f2)) mValue (fun k ys i => rfl) (fun i hi => ?_)
  obtain ⟨_, _, _⟩ := hx l[i] (List.getElem_mem hi)
  rw [show rd_T39 l (i : Int) = l[i] from getD_is l _ i hi]
  exact ⟨_, toValue_is l[i].f0 l[i].f1 l[i].f2 , rfl⟩
def rCell (a0_0 : Int) (a0_1 : ByteArray) (a0_2 : Int) (a0_3 : Int) (l0_4 : List ByteArray) (l0_5 : List S39) : Int × ByteArray × Int × Int × List ByteArray × (List (S45)) := (a0_0, a0_1, a0_2, a0_3, l0_4, l0_5.map cValue)
theorem toCell_is (a0_0 : Int) (a0_1 : ByteArray) (a0_2 : Int) (a0_3 : Int) (l0_4 : List ByteArray) (l0_5 : List S39) (h_l0_4 : (∀ x ∈ l0_4, x.size ≤ 140737488351232) ∧ l0_4.length * 16 ≤ 140737488351232) (h_l0_5 : (∀ x ∈ l0_5, ok39 x) ∧ l0_5.length * 32 ≤ 140737488351232) : Ev (fun k => laws_toCell.f k a0_0 a0_1 a0_2 a0_3 l0_4 l0_5) (rCell a0_0 a0_1 a0_2 a0_3 l0_4 l0_5) := by
  unfold laws_toCell.f rCell
  exact Ev.bind (toStringS_is l0_4 h_l0_4.2) (Ev.bind (toValueS_is l0_5 h_l0_5.1 h_l0_5.2) (Ev.now _))
def mCell (t : Int × ByteArray × Int × Int × List ByteArray × (List (S45))) : S100 := (⟨t.1, t.2.1, t.2.2.1, t.2.2.2.1, t.2.2.2.2.1, t.2.2.2.2.2⟩ : S100)
def cCell (x : S96) : S100 := mCell (rCell x.f0 x.f1 x.f2 x.f3 x.f4 x.f5)
theorem toCellS_is (l : List S96) (hx : ∀ x ∈ l, ok96 x) (hl : l.length * 88 ≤ 140737488351232) : Ev (fun k => laws_toCellS.f k l) (l.map cCell) := by
  unfold laws_toCellS.f
  refine ev_if_pos (by omega) (ev_if_pos (by omega) ?_)
  refine to_all l cCell (by omega) z100 (fun k ys i => laws_toCellS.l0 k l ys i) (fun k i => laws_toCell.f k ((rd_T96 l i).f0) ((rd_T96 l i).f1) ((rd_T96 l i).f2) ((rd_T96 l i).f3) ((rd_T96 l i).f4) ((rd_T96 l i).f5)) mCell (fun k ys i => rfl) (fun i hi => ?_)
  obtain ⟨_, _, _, _, h_f4, h_f5⟩ := hx l[i] (List.getElem_mem hi)
  rw [show rd_T96 l (i : Int) = l[i] from getD_is l _ i hi]
  exact ⟨_, toCell_is l[i].f0 l[i].f1 l[i].f2 l[i].f3 l[i].f4 l[i].f5 h_f4 h_f5, rfl⟩
theorem eqStringS_is (l : List ByteArray) (hl : l.length ≤ 140737488351232) : Ev (fun k => laws_eqStringS.f k l l) true := by
  unfold laws_eqStringS.f
  exact ev_if_pos rfl (eq_plain l.length hl (fun k i => laws_eqStringS.l0 k l l i) (fun i => (rdOf ByteArray.empty l i).toList = (rdOf ByteArray.empty l i).toList) (fun k i => rfl) (fun i hi => rfl))
theorem eqValue_is (a0_0 : Int) (a0_1 : Int) (a0_2 : ByteArray) : Ev (fun _ => laws_eqValue.f a0_0 a0_1 a0_2 a0_0 a0_1 a0_2) true := by
  unfold laws_eqValue.f
  exact ev_if_pos rfl ((ev_if_pos rfl ((ev_if_pos rfl ((Ev.now _))))))
def fit45 (x : S45) : Prop := x = x
theorem eqValueS_is (l : List S45) (_ : ∀ x ∈ l, fit45 x) (hl : l.length ≤ 140737488351232) : Ev (fun k => laws_eqValueS.f k l l) true := by
  unfold laws_eqValueS.f
  refine ev_if_pos rfl (eq_all l.length hl (fun k i => laws_eqValueS.l0 k l l i) (fun _ i => laws_eqValue.f ((rd_T45 l i).f0) ((rd_T45 l i).f1) ((rd_T45 l i).f2) ((rd_T45 l i).f0) ((rd_T45 l i).f1) ((rd_T45 l i).f2)) (fun k i => rfl) (fun i hi => ?_))
  rw [show rd_T45 l (i : Int) = l[i] from getD_is l _ i hi]
  exact eqValue_is l[i].f0 l[i].f1 l[i].f2 
theorem eqCell_is (a0_0 : Int) (a0_1 : ByteArray) (a0_2 : Int) (a0_3 : Int) (l0_4 : List ByteArray) (l0_5 : List S45) (h_l0_4 : l0_4.length ≤ 140737488351232) (h_l0_5 : (∀ y_ ∈ l0_5, fit45 y_) ∧ l0_5.length ≤ 140737488351232) : Ev (fun k => laws_eqCell.f k a0_0 a0_1 a0_2 a0_3 l0_4 l0_5 a0_0 a0_1 a0_2 a0_3 l0_4 l0_5) true := by
  unfold laws_eqCell.f
  exact ev_if_pos rfl ((ev_if_pos rfl ((ev_if_pos rfl ((ev_if_pos rfl ((Ev.bind (eqStringS_is l0_4 h_l0_4) (ev_if_pos rfl (Ev.bind (eqValueS_is l0_5 h_l0_5.1 h_l0_5.2) (ev_if_pos rfl (Ev.now _))))))))))))
def fit100 (x : S100) : Prop := (x.f4.length ≤ 140737488351232) ∧ ((∀ y_ ∈ x.f5, fit45 y_) ∧ x.f5.length ≤ 140737488351232) ∧ True
theorem eqCellS_is (l : List S100) (hx : ∀ x ∈ l, fit100 x) (hl : l.length ≤ 140737488351232) : Ev (fun k => laws_eqCellS.f k l l) true := by
  unfold laws_eqCellS.f
  refine ev_if_pos rfl (eq_all l.length hl (fun k i => laws_eqCellS.l0 k l l i) (fun k i => laws_eqCell.f k ((rd_T100 l i).f0) ((rd_T100 l i).f1) ((rd_T100 l i).f2) ((rd_T100 l i).f3) ((rd_T100 l i).f4) ((rd_T100 l i).f5) ((rd_T100 l i).f0) ((rd_T100 l i).f1) ((rd_T100 l i).f2) ((rd_T100 l i).f3) ((rd_T100 l i).f4) ((rd_T100 l i).f5)) (fun k i => rfl) (fun i hi => ?_))
  rw [show rd_T100 l (i : Int) = l[i] from getD_is l _ i hi]
  obtain ⟨h_f4, h_f5, _⟩ := hx l[i] (List.getElem_mem hi)
  exact eqCell_is l[i].f0 l[i].f1 l[i].f2 l[i].f3 l[i].f4 l[i].f5 h_f4 h_f5
theorem fit_cValue (x : S39) (_h : ok39 x) : fit45 (cValue x) := rfl
theorem fit_cCell (x : S96) (h : ok96 x) : fit100 (cCell x) := by
  obtain ⟨_, _, _, _, h_f4, h_f5⟩ := h
  exact ⟨by have := h_f4.2; show x.f4.length ≤ _; omega, ⟨fun y hy => by obtain ⟨z, hz, rfl⟩ := List.mem_map.mp hy; exact fit_cValue z (h_f5.1 z hz), by have := h_f5.2; show (List.map cValue x.f5).length ≤ _; rw [List.length_map]; omega⟩, trivial⟩
end Go.Proofs.YtgfejfeafppagaaDoor.PFnExactValueOk
