/- The measuring, the copying and the comparing of a law's data: the loops, with no program in sight. -/
import Derived.Test.YtgfejfeafppagaaDoorZFnExactProgOkAux
namespace Go.Proofs.YtgfejfeafppagaaDoor.Aux
open Go.RowKit Go.Proofs.YtgfejfeafppagaaDoorW.PrintWords Go.Proofs.YtgfejfeafppagaaDoorW.PrintLast Go.Proofs.YtgfejfeafppagaaDoorW.PrintMore

/-- What is left of a, where w goes off: -1 where it does not go. -/
def cut (a w : Int) : Int := if a < w then -1 else a - w
theorem cut_pos {a w : Int} (h : ¬ cut a w < 0) : cut a w = a - w ∧ w ≤ a := by unfold cut at *; split at * <;> omega
theorem cut_now {b : Int} (h : 0 ≤ b) : Ev (fun _ => some b) (cut b 0) := by
  rw [show cut b 0 = b from by unfold cut; split <;> omega]
  exact Ev.now _
theorem cut_len {a w r : Int} {g : Nat → Option Int} (hr : 0 ≤ r) (hg : w ≤ a → Ev g (cut (a - w) r)) : Ev (fun k => if a - w < 0 then some (-1) else g k) (cut a (w + r)) := by
  by_cases h : a - w < 0
  · rw [show cut a (w + r) = -1 from by unfold cut; split <;> omega]
    exact ev_if_pos h (Ev.now _)
  · have := hg (by omega)
    rw [show cut (a - w) r = cut a (w + r) from by unfold cut; split <;> split <;> omega] at this
    exact ev_if_neg h this
theorem cut_bind {a w r : Int} {g : Nat → Option Int} {f : Nat → Int → Option Int} (hr : 0 ≤ r) (hg : Ev g (cut a w)) (hf : w ≤ a → Ev (fun k => f k (a - w)) (cut (a - w) r)) :
    Ev (fun k => (g k).bind fun t => if t < 0 then some (-1) else f k t) (cut a (w + r)) := by
  refine Ev.bind hg ?_
  by_cases h : a < w
  · rw [show cut a (w + r) = -1 from by unfold cut; split <;> omega, show cut a w = -1 from by unfold cut; split <;> omega]
    exact ev_if_pos (by omega) (Ev.now _)
  · have := hf (by omega)
    rw [show cut (a - w) r = cut a (w + r) from by unfold cut; split <;> split <;> omega] at this
    rw [show cut a w = a - w from by unfold cut; split <;> omega]
    exact ev_if_neg (by omega) this

def wsum {β : Type} (w : β → Int) : List β → Int
  | [] => 0
  | x :: l => w x + wsum w l
theorem wsum_nn {β : Type} (w : β → Int) (hw : ∀ x, 0 ≤ w x) : ∀ l, 0 ≤ wsum w l
  | [] => by unfold wsum; omega
  | x :: l => by
    unfold wsum
    have := hw x
    have := wsum_nn w hw l
    omega
theorem wsum_mem {β : Type} (w : β → Int) (hw : ∀ x, 0 ≤ w x) : ∀ l x, x ∈ l → w x ≤ wsum w l
  | [], x, h => by cases h
  | y :: l, x, h => by
    unfold wsum
    rcases List.mem_cons.mp h with rfl | h
    · have := wsum_nn w hw l
      omega
    · have := hw y
      have := wsum_mem w hw l x h
      omega
theorem getD_is {β : Type} (l : List β) (z : β) (i : Nat) (h : i < l.length) : l.getD ((i : Int)).toNat z = l[i] := by
  rw [Int.toNat_natCast, List.getD_eq_getElem?_getD, List.getElem?_eq_getElem h]
  rfl

theorem sz_loop {β : Type} (l : List β) (w : β → Int) (hw : ∀ x, 0 ≤ w x) (hl : l.length ≤ 140737488351232) (g : Nat → Int → Int → Option Int) (elem : Nat → Int → Int → Option Int)
    (hstep : ∀ k a i, g (k + 1) a i = if i < (l.length : Int) then (if 0 ≤ i then ((elem k a i).bind fun t => if t < 0 then some (-1) else g k t (wrap64 (i + 1))) else none) else some a)
    (helem : ∀ (i : Nat) (h : i < l.length) a, 0 ≤ a → a ≤ 1048576 → Ev (fun k => elem k a i) (cut a (w l[i]))) :
    ∀ (d i : Nat) a, i + d = l.length → 0 ≤ a → a ≤ 1048576 → Ev (fun k => g k a i) (cut a (wsum w (l.drop i))) := by
  intro d
  induction d with
  | zero =>
    intro i a hi h0 h1
    refine Ev.step (f := fun _ => some a) (fun k => by rw [hstep, if_neg (by omega)]) ?_
    rw [List.drop_eq_nil_of_le (by omega)]
    exact cut_now h0
  | succ d ih =>
    intro i a hi h0 h1
    refine Ev.step (f := fun k => (elem k a i).bind fun t => if t < 0 then some (-1) else g k t ((i + 1 : Nat) : Int)) (fun k => ?_) ?_
    · rw [hstep, if_pos (show (i : Int) < (l.length : Int) by omega), if_pos (by omega), w64 (n := (i : Int) + 1) (by omega) (by omega)]
      rfl
    · rw [List.drop_eq_getElem_cons (by omega : i < l.length)]
      have hn := hw (l[i]'(by omega))
      exact cut_bind (wsum_nn w hw _) (helem i (by omega) a h0 h1) fun hle => ih (i + 1) _ (by omega) (by omega) (by omega)
theorem sz_all {β : Type} (l : List β) (w : β → Int) (hw : ∀ x, 0 ≤ w x) (hl : l.length ≤ 140737488351232) (g : Nat → Int → Int → Option Int) (elem : Nat → Int → Int → Option Int)
    (hstep : ∀ k a i, g (k + 1) a i = if i < (l.length : Int) then (if 0 ≤ i then ((elem k a i).bind fun t => if t < 0 then some (-1) else g k t (wrap64 (i + 1))) else none) else some a)
    (helem : ∀ (i : Nat) (h : i < l.length) a, 0 ≤ a → a ≤ 1048576 → Ev (fun k => elem k a i) (cut a (w l[i]))) (a : Int) (h0 : 0 ≤ a) (h1 : a ≤ 1048576) : Ev (fun k => g k a 0) (cut a (wsum w l)) :=
  sz_loop l w hw hl g elem hstep helem l.length 0 a (by omega) h0 h1

theorem to_loop {β γ τ : Type} (l : List β) (c : β → γ) (hl : l.length ≤ 140737488351232) (g : Nat → List γ → Int → Option (List γ)) (elem : Nat → Int → Option τ) (mk : τ → γ)
    (hstep : ∀ k ys i, g (k + 1) ys i = if i < (l.length : Int) then (if 0 ≤ i then ((elem k i).bind fun t => if i < (ys.length : Int) then g k (ys.set i.toNat (mk t)) (wrap64 (i + 1)) else none) else none) else some ys)
    (helem : ∀ (i : Nat) (h : i < l.length), ∃ t, Ev (fun k => elem k i) t ∧ mk t = c l[i]) :
    ∀ (d i : Nat) ys, i + d = l.length → ys.length = l.length → ys.take i = (l.take i).map c → Ev (fun k => g k ys i) (l.map c) := by
  intro d
  induction d with
  | zero =>
    intro i ys hi hy ht
    refine Ev.step (f := fun _ => some ys) (fun k => by rw [hstep, if_neg (by omega)]) ?_
    rw [List.take_of_length_le (by omega), List.take_of_length_le (by omega)] at ht
    rw [ht]
    exact Ev.now _
  | succ d ih =>
    intro i ys hi hy ht
    obtain ⟨t, h1, h2⟩ := helem i (by omega)
    refine Ev.step (f := fun k => (elem k i).bind fun t => g k (ys.set i (mk t)) ((i + 1 : Nat) : Int)) (fun k => ?_) (Ev.bind h1 (ih (i + 1) _ (by omega) (by rw [List.length_set]; exact hy) ?_))
    · rw [hstep, if_pos (show (i : Int) < (l.length : Int) by omega), if_pos (by omega), w64 (n := (i : Int) + 1) (by omega) (by omega)]
      congr 1
      funext t
      rw [if_pos (by omega), Int.toNat_natCast]
      rfl
    · rw [h2, List.take_succ_eq_append_getElem (by rw [List.length_set]; omega), List.take_succ_eq_append_getElem (show i < l.length by omega), List.map_append, List.getElem_set_self, List.take_set_of_le (Nat.le_refl _), ht]
      rfl
theorem to_all {β γ τ : Type} (l : List β) (c : β → γ) (hl : l.length ≤ 140737488351232) (z : γ) (g : Nat → List γ → Int → Option (List γ)) (elem : Nat → Int → Option τ) (mk : τ → γ)
    (hstep : ∀ k ys i, g (k + 1) ys i = if i < (l.length : Int) then (if 0 ≤ i then ((elem k i).bind fun t => if i < (ys.length : Int) then g k (ys.set i.toNat (mk t)) (wrap64 (i + 1)) else none) else none) else some ys)
    (helem : ∀ (i : Nat) (h : i < l.length), ∃ t, Ev (fun k => elem k i) t ∧ mk t = c l[i]) : Ev (fun k => g k (List.replicate ((l.length : Int)).toNat z) 0) (l.map c) :=
  to_loop l c hl g elem mk hstep helem l.length 0 _ (by omega) (by rw [List.length_replicate]; rfl) rfl

theorem eq_loop (n : Nat) (hl : n ≤ 140737488351232) (g : Nat → Int → Option Bool) (elem : Nat → Int → Option Bool)
    (hstep : ∀ k i, g (k + 1) i = if i < (n : Int) then (if 0 ≤ i then (if i < (n : Int) then ((elem k i).bind fun t => if t = true then g k (wrap64 (i + 1)) else some false) else none) else none) else some true)
    (helem : ∀ i : Nat, i < n → Ev (fun k => elem k i) true) : ∀ d i : Nat, i + d = n → Ev (fun k => g k i) true := by
  intro d
  induction d with
  | zero =>
    intro i hi
    exact Ev.step (f := fun _ => some true) (fun k => by rw [hstep, if_neg (by omega)]) (Ev.now _)
  | succ d ih =>
    intro i hi
    refine Ev.step (f := fun k => (elem k i).bind fun t => if t = true then g k ((i + 1 : Nat) : Int) else some false) (fun k => ?_) (Ev.bind (helem i (by omega)) (ev_if_pos rfl (ih (i + 1) (by omega))))
    rw [hstep, if_pos (show (i : Int) < (n : Int) by omega), if_pos (by omega), if_pos (show (i : Int) < (n : Int) by omega), w64 (n := (i : Int) + 1) (by omega) (by omega)]
    rfl
theorem eq_all (n : Nat) (hl : n ≤ 140737488351232) (g : Nat → Int → Option Bool) (elem : Nat → Int → Option Bool)
    (hstep : ∀ k i, g (k + 1) i = if i < (n : Int) then (if 0 ≤ i then (if i < (n : Int) then ((elem k i).bind fun t => if t = true then g k (wrap64 (i + 1)) else some false) else none) else none) else some true)
    (helem : ∀ i : Nat, i < n → Ev (fun k => elem k i) true) : Ev (fun k => g k 0) true :=
  eq_loop n hl g elem hstep helem n 0 (by omega)
/-- The same, where the elements are compared on the spot. -/
theorem eq_plain (n : Nat) (hl : n ≤ 140737488351232) (g : Nat → Int → Option Bool) (p : Int → Prop) [hd : ∀ i, Decidable (p i)]
    (hstep : ∀ k i, g (k + 1) i = if i < (n : Int) then (if 0 ≤ i then (if i < (n : Int) then (if p i then g k (wrap64 (i + 1)) else some false) else none) else none) else some true)
    (helem : ∀ i : Nat, i < n → p i) : Ev (fun k => g k 0) true :=
  eq_all n hl g (fun _ i => some (decide (p i))) (fun k i => by rw [hstep]; simp only [Option.bind_some, decide_eq_true_eq]) (fun i hi => by rw [decide_eq_true (helem i hi)]; exact Ev.now _)

/-- Does p hold of the d places from i on? -/
def allFrom (p : Nat → Bool) : Nat → Nat → Bool
  | 0, _ => true
  | d + 1, i => p i && allFrom p d (i + 1)
theorem allFrom_and (p q : Nat → Bool) : ∀ d i, allFrom (fun j => p j && q j) d i = (allFrom p d i && allFrom q d i)
  | 0, _ => rfl
  | d + 1, i => by
    unfold allFrom
    rw [allFrom_and p q d (i + 1)]
    cases p i <;> cases q i <;> cases allFrom p d (i + 1) <;> rfl
theorem allFrom_congr (p q : Nat → Bool) : ∀ d i, (∀ j, i ≤ j → j < i + d → p j = q j) → allFrom p d i = allFrom q d i
  | 0, _, _ => rfl
  | d + 1, i, h => by
    unfold allFrom
    rw [h i (Nat.le_refl i) (by omega), allFrom_congr p q d (i + 1) (fun j h1 h2 => h j (by omega) (by omega))]
theorem ev_and {b r : Bool} {g : Nat → Option Bool} (h : Ev g r) : Ev (fun k => if b = true then g k else some false) (b && r) := by
  cases b with
  | true => exact ev_if_pos rfl h
  | false => exact ev_if_neg (by decide) (Ev.now _)
theorem all_loop (n : Nat) (g : Nat → Int → Option Bool) (p : Nat → Bool) (fin : Bool) (hend : Ev (fun k => g k (n : Int)) fin)
    (hstep : ∀ i, i < n → ∀ r, Ev (fun k => g k ((i + 1 : Nat) : Int)) r → Ev (fun k => g k (i : Int)) (p i && r)) : Ev (fun k => g k 0) (allFrom p n 0 && fin) := by
  have h : ∀ d i : Nat, i + d = n → Ev (fun k => g k (i : Int)) (allFrom p d i && fin) := by
    intro d
    induction d with
    | zero =>
      intro i hi
      obtain rfl : i = n := by omega
      exact hend
    | succ d ih =>
      intro i hi
      have := hstep i (by omega) _ (ih (i + 1) (by omega))
      rw [← Bool.and_assoc] at this
      exact this
  exact h n 0 (by omega)

end Go.Proofs.YtgfejfeafppagaaDoor.Aux
