/- Nodes and programs of the program and of the reference: what they tell. -/
import Derived.Test.YtgfejfeafppagaaDoorZFnExactProgOkPFnExactProgOkName
import Derived.Test.YtgfejfeafppagaaDoorZFnExactProgOkAuxKin
namespace Go.Proofs.YtgfejfeafppagaaDoor.PFnExactProgOk
open Go.RowKit Go.Lib Go.Proofs.YtgfejfeafppagaaDoor.Aux Go.Proofs.YtgfejfeafppagaaDoorW.PrintWords Go.Proofs.YtgfejfeafppagaaDoorW.PrintLast Go.Proofs.YtgfejfeafppagaaDoorW.PrintMore

theorem ev_const {α : Type} {x : Option α} {r : α} (h : x = some r) : Ev (fun _ => x) r := ⟨0, fun _ _ => h⟩
theorem ev_ifp {c : Prop} [Decidable c] {g : Nat → Option Bool} {r : Bool} (h : Ev g r) : Ev (fun k => if c then g k else some false) (decide c && r) := by
  by_cases hc : c
  · rw [decide_eq_true hc]; exact ev_if_pos hc h
  · rw [decide_eq_false hc]; exact ev_if_neg hc (Ev.now _)
theorem ev_ifn {c : Prop} [Decidable c] {g : Nat → Option Bool} {r : Bool} (h : Ev g r) : Ev (fun k => if c then some false else g k) (!decide c && r) := by
  by_cases hc : c
  · rw [decide_eq_true hc]; exact ev_if_pos hc (Ev.now _)
  · rw [decide_eq_false hc]; exact ev_if_neg hc h
def inR (n lo hi : Int) : Bool := decide (lo ≤ n) && decide (n ≤ hi)
/-- One function for all names, one for all symbols. -/
structure Knows (nm sy : ByteArray → Bool) : Prop where
  nm : ∀ a : ByteArray, a.size < 4294967200 → Ev (fun k => spec_IsName.f k a) (nm a) ∧ Ev (fun k => impl_IsName.f k a) (nm a)
  sy : ∀ a : ByteArray, a.size < 4294967200 → Ev (fun k => spec_l2Sym.f k a) (sy a) ∧ Ev (fun k => impl_symOk.f k a) (sy a)
theorem knows : ∃ nm sy, Knows nm sy := by
  refine ⟨fun a => if h : a.size < 4294967200 then (name_same a h).choose else false, fun a => if h : a.size < 4294967200 then (sym_same a (by omega)).choose else false, fun a h => ?_, fun a h => ?_⟩
  · have hs := (name_same a h).choose_spec
    rw [dif_pos h]
    exact ⟨hs.1, hs.2.1⟩
  · have hs := (sym_same a (show a.size ≤ 140737488351232 by omega)).choose_spec
    rw [dif_pos h]
    exact ⟨hs.1, hs.2.1⟩
def nmA (nm : ByteArray → Bool) (l : List ByteArray) (i : Nat) : Bool := nm (rdOf ByteArray.empty l i)
theorem rdB (l : List ByteArray) {i : Nat} (hi : i < l.length) : rdOf ByteArray.empty l (i : Int) = l[i] := getD_is l _ i hi
theorem size_rdB {l : List ByteArray} (h : ∀ s ∈ l, s.size < 4294967200) {i : Nat} (hi : i < l.length) : (rdOf ByteArray.empty l (i : Int)).size < 4294967200 := by
  rw [rdB l hi]
  exact h _ (List.getElem_mem hi)
/-- Is the name at place i new there? -/
def newA (l : List ByteArray) (i : Nat) : Bool := !decide ((rdOf ByteArray.empty l i).toList ∈ (l.take i).map ByteArray.toList)
theorem newA_iff (l : List ByteArray) (i : Nat) (hi : i < l.length) : newA l i = true ↔ ∀ j : Nat, j < i → ¬ (rdOf ByteArray.empty l i).toList = (rdOf ByteArray.empty l j).toList := by
  unfold newA
  simp only [Bool.not_eq_true', decide_eq_false_iff_not, List.mem_map, not_exists, not_and]
  constructor
  · intro h j hj he
    refine h (l[j]'(by omega)) ?_ ?_
    · rw [List.mem_take_iff_getElem]
      exact ⟨j, by omega, rfl⟩
    · rw [← rdB l (by omega : j < l.length)]
      exact he.symm
  · intro h x hx he
    rw [List.mem_take_iff_getElem] at hx
    obtain ⟨j, hj, rfl⟩ := hx
    refine h j (by omega) ?_
    rw [rdB l (by omega : j < l.length)]
    exact he.symm
theorem index_is (l : List ByteArray) (hl : l.length ≤ 140737488351232) (i : Nat) (hi : i < l.length) : ∀ d j : Nat, j + d = i → ∃ r : Int, Ev (fun k => slices_Index_string_string.l0 k l (rdOf ByteArray.empty l i) (l.length : Int) j) r ∧ (r = i ↔ ∀ m : Nat, j ≤ m → m < i → ¬ (rdOf ByteArray.empty l i).toList = (rdOf ByteArray.empty l m).toList) := by
  intro d
  induction d with
  | zero =>
    intro j hj
    obtain rfl : j = i := by omega
    refine ⟨j, Ev.step (f := fun _ => some (j : Int)) (fun k => ?_) (Ev.now _), ⟨fun _ m h1 h2 => by omega, fun _ => rfl⟩⟩
    simp only [slices_Index_string_string.l0]
    rw [if_pos (by omega), if_pos (by omega), if_pos (by omega), if_pos trivial]
  | succ d ih =>
    intro j hj
    obtain ⟨r, h1, h2⟩ := ih (j + 1) (by omega)
    by_cases he : (rdOf ByteArray.empty l i).toList = (rdOf ByteArray.empty l j).toList
    · refine ⟨j, Ev.step (f := fun _ => some (j : Int)) (fun k => ?_) (Ev.now _), ⟨fun h => by omega, fun h => absurd he (h j (Nat.le_refl j) (by omega))⟩⟩
      simp only [slices_Index_string_string.l0]
      rw [if_pos (by omega), if_pos (by omega), if_pos (by omega), if_pos he]
    · refine ⟨r, Ev.step (fun k => ?_) h1, h2.trans ⟨fun h m g1 g2 => ?_, fun h m g1 g2 => h m (by omega) g2⟩⟩
      · simp only [slices_Index_string_string.l0]
        rw [if_pos (by omega), if_pos (by omega), if_pos (by omega), if_neg he, w64 (n := (j : Int) + 1) (by omega) (by omega)]
        rfl
      · by_cases hm : m = j
        · subst hm; exact he
        · exact h m (by omega) g2
theorem spec_names (nm sy) (hk : Knows nm sy) (l : List ByteArray) (hl : l.length ≤ 140737488351232) (hb : ∀ s ∈ l, s.size < 4294967200) : Ev (fun k => spec_l3Names.f k l 8) (decide ((l.length : Int) ≤ 8) && allFrom (fun i => nmA nm l i && newA l i) l.length 0) := by
  unfold spec_l3Names.f
  by_cases h8 : (l.length : Int) > 8
  · rw [decide_eq_false (by omega), Bool.false_and]
    exact ev_if_pos h8 (Ev.now _)
  · rw [decide_eq_true (by omega), Bool.true_and]
    refine ev_if_neg h8 ?_
    have h := all_loop l.length (fun k i => spec_l3Names.l0 k l i) (fun i => nmA nm l i && newA l i) true ?_ ?_
    · rwa [Bool.and_true] at h
    · exact Ev.step (f := fun _ => some true) (fun k => by simp only [spec_l3Names.l0]; rw [if_neg (by omega)]) (Ev.now _)
    · intro i hi r hr
      refine Ev.step (f := fun k => (spec_IsName.f k (rdOf ByteArray.empty l i)).bind fun t => if t = true then ((spec_l3In.f k (l.take i) (rdOf ByteArray.empty l i)).bind fun t => if t = true then some false else spec_l3Names.l0 k l ((i + 1 : Nat) : Int)) else some false) (fun k => ?_) (Ev.bind (hk.nm _ (size_rdB hb hi)).1 ?_)
      · simp only [spec_l3Names.l0]
        rw [if_pos (show (i : Int) < (l.length : Int) by omega), if_pos (by omega), if_pos (show (i : Int) ≤ (l.length : Int) by omega), w64 (n := (i : Int) + 1) (by omega) (by omega), Int.toNat_natCast]
        rfl
      · rw [Bool.and_assoc]
        refine ev_and (Ev.bind (spec_l3In_is (l.take i) (rdOf ByteArray.empty l i) (by rw [List.length_take]; omega)) ?_)
        unfold newA
        cases decide ((rdOf ByteArray.empty l i).toList ∈ (l.take i).map ByteArray.toList) with
        | true => exact ev_if_pos rfl (Ev.now _)
        | false => exact ev_if_neg (by decide) hr
theorem impl_names (nm sy) (hk : Knows nm sy) (l : List ByteArray) (hl : l.length ≤ 140737488351232) (hb : ∀ s ∈ l, s.size < 4294967200) : Ev (fun k => impl_namesOk.f k l 8) (decide ((l.length : Int) ≤ 8) && allFrom (fun i => nmA nm l i && newA l i) l.length 0) := by
  unfold impl_namesOk.f
  rw [Bool.and_comm]
  refine all_loop l.length (fun k i => impl_namesOk.l0 k l 8 l (l.length : Int) i) (fun i => nmA nm l i && newA l i) _ ?_ ?_
  · exact Ev.step (f := fun _ => some (decide ((l.length : Int) ≤ 8))) (fun k => by simp only [impl_namesOk.l0]; rw [if_neg (by omega)]) (Ev.now _)
  · intro i hi r hr
    obtain ⟨x, hx, hxi⟩ := index_is l hl i hi i 0 (by omega)
    refine Ev.step (f := fun k => (impl_IsName.f k (rdOf ByteArray.empty l i)).bind fun t => if t = true then ((slices_Index_string_string.f k l (rdOf ByteArray.empty l i)).bind fun t => if t = (i : Int) then impl_namesOk.l0 k l 8 l (l.length : Int) ((i + 1 : Nat) : Int) else some false) else some false) (fun k => ?_) (Ev.bind (hk.nm _ (size_rdB hb hi)).2 ?_)
    · simp only [impl_namesOk.l0]
      rw [if_pos (show (i : Int) < (l.length : Int) by omega), if_pos (by omega), if_pos (show (i : Int) < (l.length : Int) by omega), w64 (n := (i : Int) + 1) (by omega) (by omega)]
      rfl
    · rw [Bool.and_assoc]
      refine ev_and (Ev.bind hx ?_)
      have he : newA l i = decide (x = (i : Int)) := by
        rw [Bool.eq_iff_iff, newA_iff l i hi, decide_eq_true_iff, hxi]
        exact ⟨fun h m _ h2 => h m h2, fun h m h2 => h m (Nat.zero_le m) h2⟩
      rw [he]
      exact ev_ifp hr

/-- A primitive of a type: one name, which is one. -/
def oneB (nm : ByteArray → Bool) (ns : List ByteArray) : Bool := decide ((ns.length : Int) = 1) && nmA nm ns 0
theorem ev_one {nm : ByteArray → Bool} {ns : List ByteArray} {f : Nat → ByteArray → Option Bool} {h : Nat → Bool → Option Bool} {r : Bool} (hb : ∀ s ∈ ns, s.size < 4294967200) (hn : ∀ a : ByteArray, a.size < 4294967200 → Ev (fun k => f k a) (nm a)) (hr : nm (rdOf ByteArray.empty ns 0) = nm (rdOf ByteArray.empty ns 0) → Ev (fun k => h k (nm (rdOf ByteArray.empty ns 0))) (nm (rdOf ByteArray.empty ns 0) && r)) :
    Ev (fun k => if (ns.length : Int) = 1 then (if 0 < (ns.length : Int) then ((f k (rdOf ByteArray.empty ns 0)).bind fun t => h k t) else none) else some false) (oneB nm ns && r) := by
  unfold oneB
  rw [Bool.and_assoc]
  by_cases h1 : (ns.length : Int) = 1
  · rw [decide_eq_true h1, Bool.true_and]
    refine ev_if_pos h1 (ev_if_pos (by omega) (Ev.bind (hn _ ?_) (hr rfl)))
    exact size_rdB hb (i := 0) (by omega)
  · rw [decide_eq_false h1, Bool.false_and]
    exact ev_if_neg h1 (Ev.now _)
def primB (nm : ByteArray → Bool) (n : Int) (s : List UInt8) (ns : List ByteArray) (m : Int) : Bool :=
  if s = [109, 97, 107, 101] then oneB nm ns && (decide (m ≤ 8) && decide (n = 0))
  else if s = [102, 105, 101, 108, 100] then oneB nm ns && (decide (m = 1) && inR n 0 7)
  else if s = [105, 115] then oneB nm ns && (decide (m = 1) && decide (n = 0))
  else decide ((ns.length : Int) = 0) && (decide (ar s = m) && decide (n = 0))
theorem spec_prim (nm sy) (hk : Knows nm sy) (kd n : Int) (s : ByteArray) (ns : List ByteArray) (gs : List Int) (hb : ∀ s ∈ ns, s.size < 4294967200) : Ev (fun k => spec_l3Prim.f k kd n s ns gs) (primB nm n s.toList ns (gs.length : Int)) := by
  unfold spec_l3Prim.f primB
  by_cases h1 : s.toList = [109, 97, 107, 101]
  · rw [if_pos h1]
    exact ev_if_pos h1 (ev_one hb (fun a h => (hk.nm a h).1) (fun _ => ev_and (ev_ifp (Ev.now _))))
  rw [if_neg h1]
  refine ev_if_neg h1 ?_
  by_cases h2 : s.toList = [102, 105, 101, 108, 100]
  · rw [if_pos h2]
    exact ev_if_pos h2 (ev_one hb (fun a h => (hk.nm a h).1) (fun _ => ev_and (ev_ifp (Ev.bind (ev_const (spec_l1In_is n 0 7)) (Ev.now _)))))
  rw [if_neg h2]
  refine ev_if_neg h2 ?_
  by_cases h3 : s.toList = [105, 115]
  · rw [if_pos h3]
    exact ev_if_pos h3 (ev_one hb (fun a h => (hk.nm a h).1) (fun _ => ev_and (ev_ifp (Ev.now _))))
  rw [if_neg h3]
  exact ev_if_neg h3 (ev_ifp (Ev.bind (spec_arity_is s) (ev_ifp (Ev.now _))))
theorem impl_prim (nm sy) (hk : Knows nm sy) (kd n : Int) (s : ByteArray) (ns : List ByteArray) (gs : List Int) (hs : s.size < 4294967200) (hb : ∀ s ∈ ns, s.size < 4294967200) : Ev (fun k => impl_primOk.f k kd n s ns gs) (primB nm n s.toList ns (gs.length : Int)) := by
  unfold impl_primOk.f
  refine Ev.bind (ev_const (impl_arity_is s hs)) ?_
  by_cases h1 : s.toList = [109, 97, 107, 101]
  · have e : primB nm n s.toList ns (gs.length : Int) = (decide (n = 0) && (decide ((gs.length : Int) ≤ 8) && (oneB nm ns && true))) := by
      unfold primB
      rw [if_pos h1, Bool.and_true]
      ac_rfl
    rw [e]
    refine ev_if_pos h1 (ev_ifp (ev_ifp (ev_one hb (fun a h => (hk.nm a h).2) (fun _ => ?_))))
    rw [Bool.and_true]
    exact Ev.now _
  refine ev_if_neg h1 ?_
  have hty : impl_isTyped.f s = some (decide (s.toList = [102, 105, 101, 108, 100]) || decide (s.toList = [105, 115])) := by
    unfold impl_isTyped.f
    rw [if_neg h1]
    by_cases h2 : s.toList = [102, 105, 101, 108, 100]
    · rw [if_pos h2, decide_eq_true h2]; rfl
    · rw [if_neg h2, decide_eq_false h2, beq_dec]; rfl
  have hj1 : ∀ b : Bool, Ev (fun k => impl_primOk.j1 k b kd n s ns gs) (!b && (if (decide (s.toList = [102, 105, 101, 108, 100]) || decide (s.toList = [105, 115])) = true then oneB nm ns && true else decide ((ns.length : Int) = 0))) := by
    intro b
    cases b with
    | true => exact Ev.step (f := fun _ => some false) (fun k => by simp only [impl_primOk.j1]; rfl) (Ev.now _)
    | false =>
      refine Ev.step (f := fun k => if (decide (s.toList = [102, 105, 101, 108, 100]) || decide (s.toList = [105, 115])) = true then (if (ns.length : Int) = 1 then (if 0 < (ns.length : Int) then ((impl_IsName.f k (rdOf ByteArray.empty ns 0)).bind fun t => some t) else none) else some false) else some ((ns.length : Int) == 0)) (fun k => by simp only [impl_primOk.j1, hty, Option.bind_some]; rfl) ?_
      rw [Bool.not_false, Bool.true_and]
      by_cases ht : (decide (s.toList = [102, 105, 101, 108, 100]) || decide (s.toList = [105, 115])) = true
      · rw [if_pos ht]
        refine ev_if_pos ht (ev_one hb (fun a h => (hk.nm a h).2) (fun _ => ?_))
        rw [Bool.and_true]
        exact Ev.now _
      · rw [if_neg ht]
        exact ev_if_neg ht (Ev.now _)
  have hj0 : ∀ b : Bool, Ev (fun k => impl_primOk.j0 k b kd n s ns gs) (!b && (if s.toList = [102, 105, 101, 108, 100] then inR n 0 7 && (oneB nm ns && true) else decide (n = 0) && (if s.toList = [105, 115] then oneB nm ns && true else decide ((ns.length : Int) = 0)))) := by
    intro b
    cases b with
    | true => exact Ev.step (f := fun _ => some false) (fun k => by simp only [impl_primOk.j0]; rfl) (Ev.now _)
    | false =>
      rw [Bool.not_false, Bool.true_and]
      by_cases h2 : s.toList = [102, 105, 101, 108, 100]
      · rw [if_pos h2]
        have g1 := hj1 (!inR n 0 7)
        rw [decide_eq_true h2, Bool.true_or, if_pos rfl, Bool.not_not] at g1
        refine Ev.step (f := fun k => impl_primOk.j1 k (!inR n 0 7) kd n s ns gs) (fun k => ?_) g1
        simp only [impl_primOk.j0, impl_inRange_is, Option.bind_some]
        rw [if_neg (by decide), if_pos h2]
        show (if inR n 0 7 = true then _ else _) = _
        cases inR n 0 7 <;> rfl
      · rw [if_neg h2]
        have g1 := hj1 (n != 0)
        rw [decide_eq_false h2, Bool.false_or] at g1
        have e : (!(n != 0)) = decide (n = 0) := by
          by_cases h : n = 0 <;> simp [h]
        rw [e] at g1
        simp only [decide_eq_true_eq] at g1
        refine Ev.step (f := fun k => impl_primOk.j1 k (n != 0) kd n s ns gs) (fun k => ?_) g1
        simp only [impl_primOk.j0]
        rw [if_neg (by decide), if_neg h2]
  have harf : s.toList = [102, 105, 101, 108, 100] → ar s.toList = 1 := fun h => by rw [h]; decide
  have hari : s.toList = [105, 115] → ar s.toList = 1 := fun h => by rw [h]; decide
  by_cases h0 : ar s.toList < 0
  · have e : primB nm n s.toList ns (gs.length : Int) = false := by
      unfold primB
      rw [if_neg h1, if_neg (fun h => by have := harf h; omega), if_neg (fun h => by have := hari h; omega), decide_eq_false (show ¬ ar s.toList = (gs.length : Int) by omega), Bool.false_and, Bool.and_false]
    rw [e]
    refine ev_if_pos h0 ?_
    have g := hj0 true
    rw [Bool.not_true, Bool.false_and] at g
    exact g
  · refine ev_if_neg h0 ?_
    have g := hj0 ((gs.length : Int) != ar s.toList)
    have e : (!((gs.length : Int) != ar s.toList)) = decide (ar s.toList = (gs.length : Int)) := by
      by_cases h : ar s.toList = (gs.length : Int)
      · rw [decide_eq_true h, h]; simp
      · rw [decide_eq_false h]
        simp only [Bool.not_eq_false', bne_iff_ne, ne_eq]
        exact fun h' => h h'.symm
    rw [e] at g
    have e2 : primB nm n s.toList ns (gs.length : Int) = (decide (ar s.toList = (gs.length : Int)) && (if s.toList = [102, 105, 101, 108, 100] then inR n 0 7 && (oneB nm ns && true) else decide (n = 0) && (if s.toList = [105, 115] then oneB nm ns && true else decide ((ns.length : Int) = 0)))) := by
      unfold primB
      rw [if_neg h1]
      by_cases h2 : s.toList = [102, 105, 101, 108, 100]
      · rw [if_pos h2, if_pos h2, harf h2, Bool.and_true, show decide ((1 : Int) = (gs.length : Int)) = decide ((gs.length : Int) = 1) from decide_eq_decide.mpr eq_comm]
        ac_rfl
      · rw [if_neg h2, if_neg h2]
        by_cases h3 : s.toList = [105, 115]
        · rw [if_pos h3, if_pos h3, hari h3, Bool.and_true, show decide ((1 : Int) = (gs.length : Int)) = decide ((gs.length : Int) = 1) from decide_eq_decide.mpr eq_comm]
          ac_rfl
        · rw [if_neg h3, if_neg h3]
          ac_rfl
    rw [e2]
    exact g
/-- Is it a node? -/
def nodeB (nm sy : ByteArray → Bool) (kd n : Int) (s : ByteArray) (ns : List ByteArray) (m : Int) : Bool :=
  if kd = 1 then decide ((ns.length : Int) = 0) && (decide (m = 0) && (decide (s.toList = []) && inR n (-1000000) 1000000))
  else if kd = 2 then decide ((ns.length : Int) = 0) && (decide (m = 0) && (decide (s.toList = []) && inR n 0 1))
  else if kd = 3 then decide ((ns.length : Int) = 0) && (decide (m = 0) && (decide (s.toList = []) && decide (n = 0)))
  else if kd = 4 then decide ((ns.length : Int) = 0) && (decide (m = 0) && (sy s && decide (n = 0)))
  else if kd = 5 then decide ((ns.length : Int) = 0) && (decide (m = 0) && (nm s && decide (n = 0)))
  else if kd = 6 then decide ((ns.length : Int) = 0) && (decide (m = 3) && (decide (s.toList = []) && decide (n = 0)))
  else if kd = 7 then (decide ((ns.length : Int) ≤ 8) && allFrom (fun i => nmA nm ns i && newA ns i) ns.length 0) && (decide (m = 1) && (decide (s.toList = []) && decide (n = 0)))
  else if kd = 8 then decide ((ns.length : Int) = 0) && (inR m 1 9 && (decide (s.toList = []) && decide (n = 0)))
  else if kd = 10 then decide ((ns.length : Int) = 0) && (decide (m = 1) && (nm s && decide (n = 0)))
  else if kd = 11 then decide ((ns.length : Int) = 0) && (decide (m ≥ 2) && (decide (s.toList = []) && decide (n = 0)))
  else if kd = 9 then primB nm n s.toList ns m
  else false
theorem spec_node (nm sy) (hk : Knows nm sy) (kd n : Int) (s : ByteArray) (ns : List ByteArray) (gs : List Int) (hs : s.size < 4294967200) (hb : ∀ s ∈ ns, s.size < 4294967200) (hn : ns.length ≤ 140737488351232) : Ev (fun k => spec_l3Node.f k kd n s ns gs) (nodeB nm sy kd n s ns (gs.length : Int)) := by
  unfold spec_l3Node.f nodeB
  have hin : ∀ a b c, Ev (fun k => (spec_l1In.f a b c).bind fun t => some t) (inR a b c) := fun a b c => Ev.bind (ev_const (spec_l1In_is a b c)) (Ev.now _)
  by_cases h : kd = 1
  · rw [if_pos h]; exact ev_if_pos h (ev_ifp (ev_ifp (ev_ifp (hin _ _ _))))
  rw [if_neg h]; refine ev_if_neg h ?_; clear h
  by_cases h : kd = 2
  · rw [if_pos h]; exact ev_if_pos h (ev_ifp (ev_ifp (ev_ifp (hin _ _ _))))
  rw [if_neg h]; refine ev_if_neg h ?_; clear h
  by_cases h : kd = 3
  · rw [if_pos h]; exact ev_if_pos h (ev_ifp (ev_ifp (ev_ifp (Ev.now _))))
  rw [if_neg h]; refine ev_if_neg h ?_; clear h
  by_cases h : kd = 4
  · rw [if_pos h]; exact ev_if_pos h (ev_ifp (ev_ifp (Ev.bind (hk.sy s hs).1 (ev_and (Ev.now _)))))
  rw [if_neg h]; refine ev_if_neg h ?_; clear h
  by_cases h : kd = 5
  · rw [if_pos h]; exact ev_if_pos h (ev_ifp (ev_ifp (Ev.bind (hk.nm s hs).1 (ev_and (Ev.now _)))))
  rw [if_neg h]; refine ev_if_neg h ?_; clear h
  by_cases h : kd = 6
  · rw [if_pos h]; exact ev_if_pos h (ev_ifp (ev_ifp (ev_ifp (Ev.now _))))
  rw [if_neg h]; refine ev_if_neg h ?_; clear h
  by_cases h : kd = 7
  · rw [if_pos h]; exact ev_if_pos h (Ev.bind (spec_names nm sy hk ns hn hb) (ev_and (ev_ifp (ev_ifp (Ev.now _)))))
  rw [if_neg h]; refine ev_if_neg h ?_; clear h
  by_cases h : kd = 8
  · rw [if_pos h]; exact ev_if_pos h (ev_ifp (Ev.bind (ev_const (spec_l1In_is _ _ _)) (ev_and (ev_ifp (Ev.now _)))))
  rw [if_neg h]; refine ev_if_neg h ?_; clear h
  by_cases h : kd = 10
  · rw [if_pos h]; exact ev_if_pos h (ev_ifp (ev_ifp (Ev.bind (hk.nm s hs).1 (ev_and (Ev.now _)))))
  rw [if_neg h]; refine ev_if_neg h ?_; clear h
  by_cases h : kd = 11
  · rw [if_pos h]; exact ev_if_pos h (ev_ifp (ev_ifp (ev_ifp (Ev.now _))))
  rw [if_neg h]; refine ev_if_neg h ?_; clear h
  by_cases h : kd = 9
  · rw [if_pos h]; exact ev_if_pos h (Ev.bind (spec_prim nm sy hk kd n s ns gs hb) (Ev.now _))
  rw [if_neg h]; exact ev_if_neg h (Ev.now _)
theorem impl_node (nm sy) (hk : Knows nm sy) (kd n : Int) (s : ByteArray) (ns : List ByteArray) (gs : List Int) (hs : s.size < 4294967200) (hb : ∀ s ∈ ns, s.size < 4294967200) (hn : ns.length ≤ 140737488351232) : Ev (fun k => impl_nodeOk.f k kd n s ns gs) (nodeB nm sy kd n s ns (gs.length : Int)) := by
  unfold impl_nodeOk.f
  have hin : ∀ a b c, Ev (fun k => (impl_inRange.f a b c).bind fun t => some t) (inR a b c) := fun a b c => Ev.bind (ev_const (impl_inRange_is a b c)) (Ev.now _)
  have turn : ∀ {g : Nat → Option Bool} {r r' : Bool}, Ev g r' → r = r' → Ev g r := fun h e => e ▸ h
  by_cases h1 : kd = 1
  · refine ev_if_pos h1 (turn (Ev.bind (ev_const (impl_inRange_is _ _ _)) (ev_and (ev_ifp (ev_ifp (Ev.now _))))) ?_)
    unfold nodeB; rw [if_pos h1]; show _ = (inR n (-1000000) 1000000 && (_ && (_ && decide ((gs.length : Int) = 0)))); ac_rfl
  refine ev_if_neg h1 ?_
  by_cases h2 : kd = 2
  · refine ev_if_pos h2 (turn (Ev.bind (ev_const (impl_inRange_is _ _ _)) (ev_and (ev_ifp (ev_ifp (Ev.now _))))) ?_)
    unfold nodeB; rw [if_neg h1, if_pos h2]; show _ = (inR n 0 1 && (_ && (_ && decide ((gs.length : Int) = 0)))); ac_rfl
  refine ev_if_neg h2 ?_
  by_cases h3 : kd = 3
  · refine ev_if_pos h3 (turn (ev_ifp (ev_ifp (ev_ifp (Ev.now _)))) ?_)
    unfold nodeB; rw [if_neg h1, if_neg h2, if_pos h3]; show _ = (_ && (_ && (_ && decide ((gs.length : Int) = 0)))); ac_rfl
  refine ev_if_neg h3 ?_
  by_cases h4 : kd = 4
  · refine ev_if_pos h4 (turn (ev_ifp (Ev.bind (hk.sy s hs).2 (ev_and (ev_ifp (Ev.now _))))) ?_)
    unfold nodeB; rw [if_neg h1, if_neg h2, if_neg h3, if_pos h4]; show _ = (_ && (_ && (_ && decide ((gs.length : Int) = 0)))); ac_rfl
  refine ev_if_neg h4 ?_
  by_cases h5 : kd = 5
  · refine ev_if_pos h5 (turn (ev_ifp (Ev.bind (hk.nm s hs).2 (ev_and (ev_ifp (Ev.now _))))) ?_)
    unfold nodeB; rw [if_neg h1, if_neg h2, if_neg h3, if_neg h4, if_pos h5]; show _ = (_ && (_ && (_ && decide ((gs.length : Int) = 0)))); ac_rfl
  refine ev_if_neg h5 ?_
  by_cases h6 : kd = 6
  · refine ev_if_pos h6 (turn (ev_ifp (ev_ifp (ev_ifp (Ev.now _)))) ?_)
    unfold nodeB; rw [if_neg h1, if_neg h2, if_neg h3, if_neg h4, if_neg h5, if_pos h6]; show _ = (_ && (_ && (_ && decide ((gs.length : Int) = 3)))); ac_rfl
  refine ev_if_neg h6 ?_
  by_cases h7 : kd = 7
  · refine ev_if_pos h7 (turn (ev_ifp (ev_ifp (Ev.bind (impl_names nm sy hk ns hn hb) (ev_and (Ev.now _))))) ?_)
    unfold nodeB; rw [if_neg h1, if_neg h2, if_neg h3, if_neg h4, if_neg h5, if_neg h6, if_pos h7]; show _ = (_ && (_ && (_ && decide ((gs.length : Int) = 1)))); ac_rfl
  refine ev_if_neg h7 ?_
  by_cases h8 : kd = 8
  · refine ev_if_pos h8 (turn (ev_ifp (ev_ifp (ev_ifp (hin _ _ _)))) ?_)
    unfold nodeB; rw [if_neg h1, if_neg h2, if_neg h3, if_neg h4, if_neg h5, if_neg h6, if_neg h7, if_pos h8]; ac_rfl
  refine ev_if_neg h8 ?_
  by_cases h9 : kd = 9
  · refine ev_if_pos h9 (turn (Ev.bind (impl_prim nm sy hk kd n s ns gs hs hb) (Ev.now _)) ?_)
    unfold nodeB; rw [if_neg h1, if_neg h2, if_neg h3, if_neg h4, if_neg h5, if_neg h6, if_neg h7, if_neg h8, if_neg (by omega), if_neg (by omega), if_pos h9]
  refine ev_if_neg h9 ?_
  by_cases h10 : kd = 10
  · refine ev_if_pos h10 (turn (ev_ifp (Ev.bind (hk.nm s hs).2 (ev_and (ev_ifp (Ev.now _))))) ?_)
    unfold nodeB; rw [if_neg h1, if_neg h2, if_neg h3, if_neg h4, if_neg h5, if_neg h6, if_neg h7, if_neg h8, if_pos h10]; show _ = (_ && (_ && (_ && decide ((gs.length : Int) = 1)))); ac_rfl
  refine ev_if_neg h10 ?_
  by_cases h11 : kd = 11
  · refine ev_if_pos h11 (turn (ev_ifp (ev_ifp (ev_ifp (Ev.now _)))) ?_)
    unfold nodeB; rw [if_neg h1, if_neg h2, if_neg h3, if_neg h4, if_neg h5, if_neg h6, if_neg h7, if_neg h8, if_neg h10, if_pos h11]; ac_rfl
  refine ev_if_neg h11 (turn (Ev.now _) ?_)
  unfold nodeB; rw [if_neg h1, if_neg h2, if_neg h3, if_neg h4, if_neg h5, if_neg h6, if_neg h7, if_neg h8, if_neg h10, if_neg h11, if_neg h9]

end Go.Proofs.YtgfejfeafppagaaDoor.PFnExactProgOk
