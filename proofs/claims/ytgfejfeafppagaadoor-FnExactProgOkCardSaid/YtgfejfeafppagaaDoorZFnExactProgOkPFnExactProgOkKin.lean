-- Written by a program of this session (kin.py): what a law's measuring, copying and comparing functions come to.
import Derived.Test.YtgfejfeafppagaaDoorZFnExactProgOkPFnExactProgOkq
import Derived.Test.YtgfejfeafppagaaDoorZFnExactProgOkAuxKin
namespace Go.Proofs.YtgfejfeafppagaaDoor.PFnExactProgOk
open Go.RowKit Go.Proofs.YtgfejfeafppagaaDoor.Aux Go.Proofs.YtgfejfeafppagaaDoorW.PrintWords Go.Proofs.YtgfejfeafppagaaDoorW.PrintLast Go.Proofs.YtgfejfeafppagaaDoorW.PrintMore
set_option linter.unusedVariables false
def wStringS (l : List ByteArray) : Int := (l.length : Int) + wsum (fun x : ByteArray => (x.size : Int)) l
theorem wStringS_nn (l : List ByteArray) : 0 ≤ wStringS l := by unfold wStringS; have := wsum_nn (fun x : ByteArray => (x.size : Int)) (fun x => by omega) l; omega
theorem szStringS_is (l : List ByteArray) (a : Int) (h0 : 0 ≤ a) (h1 : a ≤ 1048576) (hx : ∀ x ∈ l, x.size ≤ 140737488351232) (hl : l.length * 16 ≤ 140737488351232) : Ev (fun k => laws_szStringS.f k l a) (cut a (wStringS l)) := by
  unfold laws_szStringS.f wStringS
  rw [show wrap64 (a - (l.length : Int)) = a - (l.length : Int) from w64 (by omega) (by omega)]
  refine cut_len (wsum_nn _ (fun x => by omega) l) fun hle => ?_
  refine sz_all l (fun x : ByteArray => (x.size : Int)) (fun x => by omega) (by omega) (fun k a i => laws_szStringS.l0 k l a i) (fun _ a i => some (if wrap64 (a - ((rdOf ByteArray.empty l i).size : Int)) < 0 then -1 else wrap64 (a - ((rdOf ByteArray.empty l i).size : Int)))) (fun k a i => ?_) (fun i hi a h0 h1 => ?_) (a - (l.length : Int)) (by omega) (by omega)
  · simp only [laws_szStringS.l0, Option.bind_some]
    repeat' split
    all_goals first | rfl | omega
  · rw [show rdOf ByteArray.empty l (i : Int) = l[i] from getD_is l _ i hi]
    have hs := hx l[i] (List.getElem_mem hi)
    rw [w64 (n := a - (l[i].size : Int)) (by omega) (by omega)]
    refine ⟨0, fun _ _ => congrArg some ?_⟩
    unfold cut
    split <;> split <;> omega
def wIntS (l : List Int) : Int := (l.length : Int) + 0
theorem wIntS_nn (l : List Int) : 0 ≤ wIntS l := by unfold wIntS; omega
theorem szIntS_is (l : List Int) (a : Int) (h0 : 0 ≤ a) (h1 : a ≤ 1048576) (hl : l.length * 8 ≤ 140737488351232) : Ev (fun _ => laws_szIntS.f l a) (cut a (wIntS l)) := by
  unfold laws_szIntS.f wIntS
  rw [show wrap64 (a - (l.length : Int)) = a - (l.length : Int) from w64 (by omega) (by omega)]
  exact cut_len (by omega) fun hle => cut_now (by omega)
def wNode (_a0_0 : Int) (_a0_1 : Int) (a0_2 : ByteArray) (l0_3 : List ByteArray) (l0_4 : List Int) : Int := (a0_2.size : Int) + (wStringS l0_3 + (wIntS l0_4 + 0))
theorem wNode_nn (a0_0 : Int) (a0_1 : Int) (a0_2 : ByteArray) (l0_3 : List ByteArray) (l0_4 : List Int) : 0 ≤ wNode a0_0 a0_1 a0_2 l0_3 l0_4 := by unfold wNode; have := wStringS_nn l0_3; have := wIntS_nn l0_4; omega
theorem szNode_is (a0_0 : Int) (a0_1 : Int) (a0_2 : ByteArray) (l0_3 : List ByteArray) (l0_4 : List Int) (a : Int) (h0 : 0 ≤ a) (h1 : a ≤ 1048576) (h_a0_2 : a0_2.size ≤ 140737488351232) (h_l0_3 : (∀ x ∈ l0_3, x.size ≤ 140737488351232) ∧ l0_3.length * 16 ≤ 140737488351232) (h_l0_4 : (∀ x ∈ l0_4, (Lit.int .i64 x).wf = true) ∧ l0_4.length * 8 ≤ 140737488351232) : Ev (fun k => laws_szNode.f k a0_0 a0_1 a0_2 l0_3 l0_4 a) (cut a (wNode a0_0 a0_1 a0_2 l0_3 l0_4)) := by
  unfold laws_szNode.f wNode
  have n1 := wStringS_nn l0_3
  have n2 := wIntS_nn l0_4
  rw [show wrap64 (a - (a0_2.size : Int)) = a - (a0_2.size : Int) from w64 (by omega) (by omega)]
  refine cut_len (by omega) fun l0 => ?_
  refine cut_bind (by omega) (szStringS_is l0_3 (a - (a0_2.size : Int)) (by omega) (by omega) h_l0_3.1 h_l0_3.2) fun l1 => ?_
  refine cut_bind (by omega) (szIntS_is l0_4 ((a - (a0_2.size : Int)) - wStringS l0_3) (by omega) (by omega) h_l0_4.2) fun l2 => ?_
  exact cut_now (by omega)
def wNodeS (l : List S150) : Int := (l.length : Int) + wsum (fun x : S150 => wNode x.f0 x.f1 x.f2 x.f3 x.f4) l
theorem wNodeS_nn (l : List S150) : 0 ≤ wNodeS l := by unfold wNodeS; have := wsum_nn (fun x : S150 => wNode x.f0 x.f1 x.f2 x.f3 x.f4) (fun x => wNode_nn x.f0 x.f1 x.f2 x.f3 x.f4) l; omega
theorem szNodeS_is (l : List S150) (a : Int) (h0 : 0 ≤ a) (h1 : a ≤ 1048576) (hx : ∀ x ∈ l, ok150 x) (hl : l.length * 80 ≤ 140737488351232) : Ev (fun k => laws_szNodeS.f k l a) (cut a (wNodeS l)) := by
  unfold laws_szNodeS.f wNodeS
  rw [show wrap64 (a - (l.length : Int)) = a - (l.length : Int) from w64 (by omega) (by omega)]
  refine cut_len (wsum_nn _ (fun x => wNode_nn x.f0 x.f1 x.f2 x.f3 x.f4) l) fun hle => ?_
  refine sz_all l (fun x : S150 => wNode x.f0 x.f1 x.f2 x.f3 x.f4) (fun x => wNode_nn x.f0 x.f1 x.f2 x.f3 x.f4) (by omega) (fun k a i => laws_szNodeS.l0 k l a i) (fun k a i => laws_szNode.f k ((rd_T150 l i).f0) ((rd_T150 l i).f1) ((rd_T150 l i).f2) ((rd_T150 l i).f3) ((rd_T150 l i).f4) a) (fun k a i => rfl) (fun i hi a h0 h1 => ?_) (a - (l.length : Int)) (by omega) (by omega)
  show Ev (fun k => laws_szNode.f k (rd_T150 l (i : Int)).f0 (rd_T150 l (i : Int)).f1 (rd_T150 l (i : Int)).f2 (rd_T150 l (i : Int)).f3 (rd_T150 l (i : Int)).f4 a) _
  rw [show rd_T150 l (i : Int) = l[i] from getD_is l _ i hi]
  obtain ⟨_, _, h_f2, h_f3, h_f4⟩ := hx l[i] (List.getElem_mem hi)
  exact szNode_is l[i].f0 l[i].f1 l[i].f2 l[i].f3 l[i].f4 a h0 h1 h_f2 h_f3 h_f4
def wProg (l0_0 : List S150) (_a0_1 : Int) : Int := wNodeS l0_0 + 0
theorem wProg_nn (l0_0 : List S150) (a0_1 : Int) : 0 ≤ wProg l0_0 a0_1 := by unfold wProg; have := wNodeS_nn l0_0; omega
theorem szProg_is (l0_0 : List S150) (a0_1 : Int) (a : Int) (h0 : 0 ≤ a) (h1 : a ≤ 1048576) (h_l0_0 : (∀ x ∈ l0_0, ok150 x) ∧ l0_0.length * 80 ≤ 140737488351232) : Ev (fun k => laws_szProg.f k l0_0 a0_1 a) (cut a (wProg l0_0 a0_1)) := by
  unfold laws_szProg.f wProg
  have n0 := wNodeS_nn l0_0
  refine cut_bind (by omega) (szNodeS_is l0_0 a (by omega) (by omega) h_l0_0.1 h_l0_0.2) fun l0 => ?_
  exact cut_now (by omega)
theorem toStringS_is (l : List ByteArray) (hl : l.length * 16 ≤ 140737488351232) : Ev (fun k => laws_toStringS.f k l) l := by
  unfold laws_toStringS.f
  refine ev_if_pos (by omega) (ev_if_pos (by omega) ?_)
  have h := to_all l id (by omega) (⟨#[]⟩ : ByteArray) (fun k ys i => laws_toStringS.l0 k l ys i) (fun _ i => some (rdOf ByteArray.empty l i)) id (fun k ys i => rfl) (fun i hi => ⟨_, Ev.now _, getD_is l _ i hi⟩)
  rwa [List.map_id] at h
theorem toIntS_is (l : List Int) (hl : l.length * 8 ≤ 140737488351232) : Ev (fun k => laws_toIntS.f k l) l := by
  unfold laws_toIntS.f
  refine ev_if_pos (by omega) (ev_if_pos (by omega) ?_)
  have h := to_all l id (by omega) (0 : Int) (fun k ys i => laws_toIntS.l0 k l ys i) (fun _ i => some (rd l i)) id (fun k ys i => rfl) (fun i hi => ⟨_, Ev.now _, getD_is l _ i hi⟩)
  rwa [List.map_id] at h
def rNode (a0_0 : Int) (a0_1 : Int) (a0_2 : ByteArray) (l0_3 : List ByteArray) (l0_4 : List Int) : Int × Int × ByteArray × List ByteArray × List Int := (a0_0, a0_1, a0_2, l0_3, l0_4)
theorem toNode_is (a0_0 : Int) (a0_1 : Int) (a0_2 : ByteArray) (l0_3 : List ByteArray) (l0_4 : List Int) (h_l0_3 : (∀ x ∈ l0_3, x.size ≤ 140737488351232) ∧ l0_3.length * 16 ≤ 140737488351232) (h_l0_4 : (∀ x ∈ l0_4, (Lit.int .i64 x).wf = true) ∧ l0_4.length * 8 ≤ 140737488351232) : Ev (fun k => laws_toNode.f k a0_0 a0_1 a0_2 l0_3 l0_4) (rNode a0_0 a0_1 a0_2 l0_3 l0_4) := by
  unfold laws_toNode.f rNode
  exact Ev.bind (toStringS_is l0_3 h_l0_3.2) (Ev.bind (toIntS_is l0_4 h_l0_4.2) (Ev.now _))
def mNode (t : Int × Int × ByteArray × List ByteArray × List Int) : S122 := (⟨t.1, t.2.1, t.2.2.1, t.2.2.2.1, t.2.2.2.2⟩ : S122)
def cNode (x : S150) : S122 := mNode (rNode x.f0 x.f1 x.f2 x.f3 x.f4)
theorem toNodeS_is (l : List S150) (hx : ∀ x ∈ l, ok150 x) (hl : l.length * 80 ≤ 140737488351232) : Ev (fun k => laws_toNodeS.f k l) (l.map cNode) := by
  unfold laws_toNodeS.f
  refine ev_if_pos (by omega) (ev_if_pos (by omega) ?_)
  refine to_all l cNode (by omega) z122 (fun k ys i => laws_toNodeS.l0 k l ys i) (fun k i => laws_toNode.f k ((rd_T150 l i).f0) ((rd_T150 l i).f1) ((rd_T150 l i).f2) ((rd_T150 l i).f3) ((rd_T150 l i).f4)) mNode (fun k ys i => rfl) (fun i hi => ?_)
  obtain ⟨_, _, _, h_f3, h_f4⟩ := hx l[i] (List.getElem_mem hi)
  rw [show rd_T150 l (i : Int) = l[i] from getD_is l _ i hi]
  exact ⟨_, toNode_is l[i].f0 l[i].f1 l[i].f2 l[i].f3 l[i].f4 h_f3 h_f4, rfl⟩
def rProg (l0_0 : List S150) (a0_1 : Int) : (List (S122)) × Int := (l0_0.map cNode, a0_1)
theorem toProg_is (l0_0 : List S150) (a0_1 : Int) (h_l0_0 : (∀ x ∈ l0_0, ok150 x) ∧ l0_0.length * 80 ≤ 140737488351232) : Ev (fun k => laws_toProg.f k l0_0 a0_1) (rProg l0_0 a0_1) := by
  unfold laws_toProg.f rProg
  exact Ev.bind (toNodeS_is l0_0 h_l0_0.1 h_l0_0.2) (Ev.now _)
theorem eqIntS_is (l : List Int) (hl : l.length ≤ 140737488351232) : Ev (fun k => laws_eqIntS.f k l l) true := by
  unfold laws_eqIntS.f
  exact ev_if_pos rfl (eq_plain l.length hl (fun k i => laws_eqIntS.l0 k l l i) (fun i => rd l i = rd l i) (fun k i => rfl) (fun i hi => rfl))
theorem eqStringS_is (l : List ByteArray) (hl : l.length ≤ 140737488351232) : Ev (fun k => laws_eqStringS.f k l l) true := by
  unfold laws_eqStringS.f
  exact ev_if_pos rfl (eq_plain l.length hl (fun k i => laws_eqStringS.l0 k l l i) (fun i => (rdOf ByteArray.empty l i).toList = (rdOf ByteArray.empty l i).toList) (fun k i => rfl) (fun i hi => rfl))
theorem eqNode_is (a0_0 : Int) (a0_1 : Int) (a0_2 : ByteArray) (l0_3 : List ByteArray) (l0_4 : List Int) (h_l0_3 : l0_3.length ≤ 140737488351232) (h_l0_4 : l0_4.length ≤ 140737488351232) : Ev (fun k => laws_eqNode.f k a0_0 a0_1 a0_2 l0_3 l0_4 a0_0 a0_1 a0_2 l0_3 l0_4) true := by
  unfold laws_eqNode.f
  exact ev_if_pos rfl ((ev_if_pos rfl ((ev_if_pos rfl ((Ev.bind (eqStringS_is l0_3 h_l0_3) (ev_if_pos rfl (Ev.bind (eqIntS_is l0_4 h_l0_4) (ev_if_pos rfl (Ev.now _))))))))))
def fit122 (x : S122) : Prop := (x.f3.length ≤ 140737488351232) ∧ (x.f4.length ≤ 140737488351232) ∧ True
theorem eqNodeS_is (l : List S122) (hx : ∀ x ∈ l, fit122 x) (hl : l.length ≤ 140737488351232) : Ev (fun k => laws_eqNodeS.f k l l) true := by
  unfold laws_eqNodeS.f
  refine ev_if_pos rfl (eq_all l.length hl (fun k i => laws_eqNodeS.l0 k l l i) (fun k i => laws_eqNode.f k ((rd_T122 l i).f0) ((rd_T122 l i).f1) ((rd_T122 l i).f2) ((rd_T122 l i).f3) ((rd_T122 l i).f4) ((rd_T122 l i).f0) ((rd_T122 l i).f1) ((rd_T122 l i).f2) ((rd_T122 l i).f3) ((rd_T122 l i).f4)) (fun k i => rfl) (fun i hi => ?_))
  rw [show rd_T122 l (i : Int) = l[i] from getD_is l _ i hi]
  obtain ⟨h_f3, h_f4, _⟩ := hx l[i] (List.getElem_mem hi)
  exact eqNode_is l[i].f0 l[i].f1 l[i].f2 l[i].f3 l[i].f4 h_f3 h_f4
theorem eqProg_is (l0_0 : List S122) (a0_1 : Int) (h_l0_0 : (∀ y_ ∈ l0_0, fit122 y_) ∧ l0_0.length ≤ 140737488351232) : Ev (fun k => laws_eqProg.f k l0_0 a0_1 l0_0 a0_1) true := by
  unfold laws_eqProg.f
  exact Ev.bind (eqNodeS_is l0_0 h_l0_0.1 h_l0_0.2) (ev_if_pos rfl (ev_if_pos rfl ((Ev.now _))))
theorem fit_cNode (x : S150) (h : ok150 x) : fit122 (cNode x) := by
  obtain ⟨_, _, _, h_f3, h_f4⟩ := h
  exact ⟨by have := h_f3.2; show x.f3.length ≤ _; omega, by have := h_f4; show x.f4.length ≤ _; omega, trivial⟩
end Go.Proofs.YtgfejfeafppagaaDoor.PFnExactProgOk
