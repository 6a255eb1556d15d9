/- Programs of the program and of the reference: what they tell. -/
import Derived.Test.YtgfejfeafppagaaDoorZFnExactProgOkPFnExactProgOkNode
namespace Go.Proofs.YtgfejfeafppagaaDoor.PFnExactProgOk
open Go.RowKit Go.Lib Go.Proofs.YtgfejfeafppagaaDoor.Aux Go.Proofs.YtgfejfeafppagaaDoorW.PrintWords Go.Proofs.YtgfejfeafppagaaDoorW.PrintLast Go.Proofs.YtgfejfeafppagaaDoorW.PrintMore

/-- What a program's loops need of a node. -/
def good122 (x : S122) : Prop := x.f2.size < 4294967200 ∧ (∀ s ∈ x.f3, s.size < 4294967200) ∧ x.f3.length ≤ 140737488351232 ∧ x.f4.length ≤ 140737488351232
theorem rdI (l : List Int) {i : Nat} (hi : i < l.length) : rd l (i : Int) = l[i] := getD_is l _ i hi
theorem rd_set_ne (l : List Int) (v : Int) {a b : Nat} (h : a ≠ b) (hb : b < l.length) : rd (l.set a v) (b : Int) = rd l b := by
  rw [rdI _ (by rw [List.length_set]; exact hb), rdI _ hb, List.getElem_set_ne h]
/-- How often each node is named, so far: so many places, the last never. -/
def seenOk (n : Nat) (l : List Int) : Prop := l.length = n ∧ rd l ((n - 1 : Nat) : Int) = 0
theorem seen_set {n a : Nat} {l : List Int} (v : Int) (h : seenOk n l) (ha : a < n - 1) : seenOk n (l.set a v) := by
  refine ⟨by rw [List.length_set]; exact h.1, ?_⟩
  rw [rd_set_ne l v (by omega) (by rw [h.1]; omega)]
  exact h.2
/-- The arguments of node i from the j-th on name nodes ahead of it. -/
def argsOk (p : List S122) (i j : Nat) : Prop := ∀ m : Nat, j ≤ m → m < (rd_T122 p i).f4.length → 0 ≤ rd (rd_T122 p i).f4 m ∧ rd (rd_T122 p i).f4 m < (i : Int)
theorem prog_end (p : List S122) (l : List Int) (hp : 1 ≤ p.length) (hp4 : p.length ≤ 400) (hl : seenOk p.length l) : ∃ r, Ev (fun k => spec_ProgOk.l2 k l 0) r ∧ Ev (fun k => impl_ProgOk.l2 k ((p.length : Int) - 1) l (l.take (p.length - 1)) ((l.take (p.length - 1)).length : Int) 0) r := by
  have hlen := hl.1
  have htl : (l.take (p.length - 1)).length = p.length - 1 := by rw [List.length_take]; omega
  have e : wrap64 ((l.length : Int) - 1) = ((p.length - 1 : Nat) : Int) := by rw [w64 (by omega) (by omega)]; omega
  refine ⟨allFrom (fun j => decide (rd l j = 1)) (p.length - 1) 0 && true, all_loop (p.length - 1) (fun k i => spec_ProgOk.l2 k l i) _ true ?_ ?_, ?_⟩
  · exact Ev.step (f := fun _ => some true) (fun k => by simp only [spec_ProgOk.l2, e]; rw [if_neg (by omega)]) (Ev.now _)
  · intro i hi r hr
    refine Ev.step (f := fun k => if rd l i = 1 then spec_ProgOk.l2 k l ((i + 1 : Nat) : Int) else some false) (fun k => ?_) (ev_ifp hr)
    simp only [spec_ProgOk.l2, e]
    rw [if_pos (by omega), if_pos (by omega), if_pos (by omega), w64 (n := (i : Int) + 1) (by omega) (by omega)]
    rfl
  · rw [htl]
    refine all_loop (p.length - 1) (fun k i => impl_ProgOk.l2 k ((p.length : Int) - 1) l (l.take (p.length - 1)) ((p.length - 1 : Nat) : Int) i) _ true ?_ ?_
    · refine Ev.step (f := fun _ => some true) (fun k => ?_) (Ev.now _)
      have h0 := hl.2
      rw [show ((p.length - 1 : Nat) : Int) = (p.length : Int) - 1 by omega] at h0 ⊢
      simp only [impl_ProgOk.l2]
      rw [if_neg (by omega), if_pos (by omega), if_pos (by omega), h0]
      rfl
    · intro i hi r hr
      have hr' : rd (l.take (p.length - 1)) (i : Int) = rd l i := by
        rw [rdI _ (by omega), rdI _ (by omega), List.getElem_take]
      refine Ev.step (f := fun k => if rd l i = 1 then impl_ProgOk.l2 k ((p.length : Int) - 1) l (l.take (p.length - 1)) ((p.length - 1 : Nat) : Int) ((i + 1 : Nat) : Int) else some false) (fun k => ?_) (ev_ifp hr)
      simp only [impl_ProgOk.l2]
      rw [if_pos (by omega), if_pos (by omega), if_pos (by omega), w64 (n := (i : Int) + 1) (by omega) (by omega), hr']
      rfl
theorem prog_inner (p : List S122) (root : Int) (hp : 1 ≤ p.length) (hp4 : p.length ≤ 400) (i : Nat) (hi : i < p.length) (has : (rd_T122 p i).f4.length ≤ 140737488351232)
    (IH : ∀ l, seenOk p.length l → ∃ r, Ev (fun k => spec_ProgOk.l0 k l ((i + 1 : Nat) : Int) p root) r ∧ Ev (fun k => impl_ProgOk.l0 k ((p.length : Int) - 1) l p (p.length : Int) ((i + 1 : Nat) : Int)) r ∧ (r = true → ∀ q, i + 1 ≤ q → q < p.length → argsOk p q 0)) :
    ∀ d j l, j + d = (rd_T122 p i).f4.length → seenOk p.length l → ∃ r, Ev (fun k => spec_ProgOk.l1 k l i (j : Nat) p root) r ∧ Ev (fun k => impl_ProgOk.l1 k ((p.length : Int) - 1) l i p (p.length : Int) i (rd_T122 p i).f4 ((rd_T122 p i).f4.length : Int) (j : Nat)) r ∧ (r = true → argsOk p i j ∧ ∀ q, i + 1 ≤ q → q < p.length → argsOk p q 0) := by
  intro d
  induction d with
  | zero =>
    intro j l hj hl
    obtain ⟨r, h1, h2, h3⟩ := IH l hl
    refine ⟨r, Ev.step (fun k => ?_) h1, Ev.step (fun k => ?_) h2, fun h => ⟨fun m g1 g2 => by omega, h3 h⟩⟩
    · simp only [spec_ProgOk.l1]
      rw [if_pos (by omega), if_pos (by omega), if_neg (by omega), w64 (n := (i : Int) + 1) (by omega) (by omega)]
      rfl
    · simp only [impl_ProgOk.l1]
      rw [if_neg (by omega), w64 (n := (i : Int) + 1) (by omega) (by omega)]
      rfl
  | succ d ih =>
    intro j l hj hl
    have ei : impl_inRange.f (rd (rd_T122 p i).f4 j) 0 (wrap64 ((i : Int) - 1)) = some (decide (0 ≤ rd (rd_T122 p i).f4 j) && decide (rd (rd_T122 p i).f4 j ≤ (i : Int) - 1)) := by
      rw [impl_inRange_is, w64 (by omega) (by omega)]
    by_cases ha0 : rd (rd_T122 p i).f4 (j : Int) < 0
    · refine ⟨false, Ev.step (f := fun _ => some false) (fun k => ?_) (Ev.now _), Ev.step (f := fun _ => some false) (fun k => ?_) (Ev.now _), fun h => by cases h⟩
      · simp only [spec_ProgOk.l1]
        rw [if_pos (by omega), if_pos (by omega), if_pos (by omega), if_pos (by omega), if_pos ha0]
      · simp only [impl_ProgOk.l1, ei, Option.bind_some]
        rw [if_pos (by omega), if_pos (by omega), if_pos (by omega), decide_eq_false (by omega), Bool.false_and]
        rfl
    · by_cases ha1 : rd (rd_T122 p i).f4 (j : Int) ≥ (i : Int)
      · refine ⟨false, Ev.step (f := fun _ => some false) (fun k => ?_) (Ev.now _), Ev.step (f := fun _ => some false) (fun k => ?_) (Ev.now _), fun h => by cases h⟩
        · simp only [spec_ProgOk.l1]
          rw [if_pos (by omega), if_pos (by omega), if_pos (by omega), if_pos (by omega), if_neg ha0, if_pos ha1]
        · simp only [impl_ProgOk.l1, ei, Option.bind_some]
          rw [if_pos (by omega), if_pos (by omega), if_pos (by omega), decide_eq_true (by omega), decide_eq_false (by omega)]
          rfl
      · obtain ⟨r, h1, h2, h3⟩ := ih (j + 1) (l.set (rd (rd_T122 p i).f4 j).toNat (wrap64 (rd l (rd (rd_T122 p i).f4 j) + 1))) (by omega) (seen_set _ hl (by omega))
        have hll := hl.1
        refine ⟨r, Ev.step (fun k => ?_) h1, Ev.step (fun k => ?_) h2, fun h => ⟨fun m g1 g2 => ?_, (h3 h).2⟩⟩
        rotate_left 2
        · by_cases hm : m = j
          · subst hm; exact ⟨by omega, by omega⟩
          · exact (h3 h).1 m (by omega) g2
        · simp only [spec_ProgOk.l1]
          rw [if_pos (by omega), if_pos (by omega), if_pos (by omega), if_pos (by omega), if_neg ha0, if_neg ha1, if_pos (by omega), if_pos (by omega), w64 (n := (j : Int) + 1) (by omega) (by omega)]
          rfl
        · simp only [impl_ProgOk.l1, ei, Option.bind_some]
          rw [if_pos (by omega), if_pos (by omega), if_pos (by omega), decide_eq_true (by omega), decide_eq_true (by omega), w64 (n := (j : Int) + 1) (by omega) (by omega)]
          rw [Bool.and_self, if_pos rfl, if_pos (by omega), if_pos (by omega)]
          rfl
theorem prog_outer (nm sy) (hk : Knows nm sy) (p : List S122) (root : Int) (hp : 1 ≤ p.length) (hp4 : p.length ≤ 400) (hg : ∀ x ∈ p, good122 x) :
    ∀ d i l, i + d = p.length → seenOk p.length l → ∃ r, Ev (fun k => spec_ProgOk.l0 k l (i : Nat) p root) r ∧ Ev (fun k => impl_ProgOk.l0 k ((p.length : Int) - 1) l p (p.length : Int) (i : Nat)) r ∧ (r = true → ∀ q, i ≤ q → q < p.length → argsOk p q 0) := by
  intro d
  induction d with
  | zero =>
    intro i l hi hl
    obtain ⟨r, h1, h2⟩ := prog_end p l hp hp4 hl
    have hll := hl.1
    refine ⟨r, Ev.step (fun k => ?_) h1, Ev.step (fun k => ?_) h2, fun _ q g1 g2 => by omega⟩
    · simp only [spec_ProgOk.l0]
      rw [if_neg (by omega)]
    · simp only [impl_ProgOk.l0, Option.bind_some]
      rw [if_neg (by omega), if_pos (by omega), if_pos (by omega), show ((p.length : Int) - 1).toNat = p.length - 1 from by omega]
  | succ d ih =>
    intro i l hi hl
    have hgi : good122 (rd_T122 p i) := by
      rw [show rd_T122 p (i : Int) = p[i]'(by omega) from getD_is p _ i (by omega)]
      exact hg _ (List.getElem_mem (by omega))
    obtain ⟨g1, g2, g3, g4⟩ := hgi
    have hs := spec_node nm sy hk (rd_T122 p i).f0 (rd_T122 p i).f1 (rd_T122 p i).f2 (rd_T122 p i).f3 (rd_T122 p i).f4 g1 g2 g3
    have hm := impl_node nm sy hk (rd_T122 p i).f0 (rd_T122 p i).f1 (rd_T122 p i).f2 (rd_T122 p i).f3 (rd_T122 p i).f4 g1 g2 g3
    obtain ⟨r, h1, h2, h3⟩ := prog_inner p root hp hp4 i (by omega) g4 (fun l hl => ih (i + 1) l (by omega) hl) (rd_T122 p i).f4.length 0 l (by omega) hl
    refine ⟨nodeB nm sy (rd_T122 p i).f0 (rd_T122 p i).f1 (rd_T122 p i).f2 (rd_T122 p i).f3 ((rd_T122 p i).f4.length : Int) && r, Ev.step (f := fun k => (spec_l3Node.f k (rd_T122 p i).f0 (rd_T122 p i).f1 (rd_T122 p i).f2 (rd_T122 p i).f3 (rd_T122 p i).f4).bind fun t => if t = true then spec_ProgOk.l1 k l (i : Nat) ((0 : Nat) : Int) p root else some false) (fun k => ?_) (Ev.bind hs (ev_and h1)), Ev.step (f := fun k => (impl_nodeOk.f k (rd_T122 p i).f0 (rd_T122 p i).f1 (rd_T122 p i).f2 (rd_T122 p i).f3 (rd_T122 p i).f4).bind fun t => if t = true then impl_ProgOk.l1 k ((p.length : Int) - 1) l (i : Nat) p (p.length : Int) (i : Nat) (rd_T122 p i).f4 ((rd_T122 p i).f4.length : Int) ((0 : Nat) : Int) else some false) (fun k => ?_) (Ev.bind hm (ev_and h2)), fun h q g1 g2 => ?_⟩
    rotate_left 2
    · rw [Bool.and_eq_true] at h
      by_cases hq : q = i
      · subst hq; exact (h3 h.2).1
      · exact (h3 h.2).2 q (by omega) g2
    · simp only [spec_ProgOk.l0]
      rw [if_pos (by omega), if_pos (by omega)]
      rfl
    · simp only [impl_ProgOk.l0]
      rw [if_pos (by omega), if_pos (by omega), if_pos (by omega)]
      rfl
theorem prog_same (p : List S122) (root : Int) (hl : p.length ≤ 140737488351232) (hg : ∀ x ∈ p, good122 x) : ∃ b, Ev (fun k => spec_ProgOk.f k p root) b ∧ Ev (fun k => impl_ProgOk.f k p root) b ∧ (b = true → 1 ≤ p.length ∧ p.length ≤ 400 ∧ root = (p.length : Int) - 1 ∧ ∀ q, q < p.length → argsOk p q 0) := by
  obtain ⟨nm, sy, hk⟩ := knows
  unfold spec_ProgOk.f impl_ProgOk.f
  rw [spec_l1In_is, impl_inRange_is, w64 (n := (p.length : Int) - 1) (by omega) (by omega)]
  have e1 : ∀ root, Ev (fun k => spec_ProgOk.j0 k true p root) false := fun root => Ev.step (f := fun _ => some false) (fun k => by simp only [spec_ProgOk.j0]; rfl) (Ev.now _)
  have e2 : ∀ root, Ev (fun k => impl_ProgOk.j0 k ((p.length : Int) - 1) true p root) false := fun root => Ev.step (f := fun _ => some false) (fun k => by simp only [impl_ProgOk.j0]; rfl) (Ev.now _)
  by_cases h : 1 ≤ p.length ∧ p.length ≤ 400
  · rw [show (decide ((1 : Int) ≤ (p.length : Int)) && decide ((p.length : Int) ≤ 400)) = true from by rw [decide_eq_true (by omega), decide_eq_true (by omega)]; rfl]
    by_cases hr : root = (p.length : Int) - 1
    · obtain ⟨r, h1, h2, h3⟩ := prog_outer nm sy hk p root h.1 h.2 hg p.length 0 (List.replicate p.length 0) (by omega) ⟨List.length_replicate, by rw [rdI _ (by rw [List.length_replicate]; omega), List.getElem_replicate]⟩
      have hb : (root != (p.length : Int) - 1) = false := by simp [hr]
      refine ⟨r, ev_some (ev_if_pos rfl (Ev.step (fun k => ?_) h1)), ev_some (ev_if_pos rfl (Ev.step (fun k => ?_) h2)), fun hh => ⟨h.1, h.2, hr, fun q hq => h3 hh q (Nat.zero_le q) hq⟩⟩
      · rw [hb]
        simp only [spec_ProgOk.j0]
        rw [if_neg (by decide), if_pos (by omega), if_pos (by omega), Int.toNat_natCast]
        rfl
      · rw [hb]
        simp only [impl_ProgOk.j0]
        rw [if_neg (by decide), if_pos (by omega), if_pos (by omega), Int.toNat_natCast]
        rfl
    · have hb : (root != (p.length : Int) - 1) = true := by simp [hr]
      rw [hb]
      exact ⟨false, ev_some (ev_if_pos rfl (e1 root)), ev_some (ev_if_pos rfl (e2 root)), fun h => by cases h⟩
  · rw [show (decide ((1 : Int) ≤ (p.length : Int)) && decide ((p.length : Int) ≤ 400)) = false from by
      simp only [Bool.and_eq_false_iff, decide_eq_false_iff_not]; omega]
    exact ⟨false, ev_some (ev_if_neg (by decide) (e1 root)), ev_some (ev_if_neg (by decide) (e2 root)), fun h => by cases h⟩

end Go.Proofs.YtgfejfeafppagaaDoor.PFnExactProgOk
