/- Signs and symbols of the program and of the reference: what they tell. -/
import Derived.Test.YtgfejfeafppagaaDoorZFnExactProgOkPFnExactProgOkReadDec
import Derived.Test.YtgfejfeafppagaaDoorZFnExactProgOkAuxWords
namespace Go.Proofs.YtgfejfeafppagaaDoor.PFnExactProgOk
open Go.RowKit Go.Lib Go.Proofs.YtgfejfeafppagaaDoor.Aux Go.Proofs.YtgfejfeafppagaaDoorW.PrintWords Go.Proofs.YtgfejfeafppagaaDoorW.PrintLast Go.Proofs.YtgfejfeafppagaaDoorW.PrintMore

/-- A sign that a symbol may hold. -/
def signB (b : Int) : Bool := (decide (97 ≤ b) && decide (b ≤ 122)) || (decide (48 ≤ b) && decide (b ≤ 57)) || (([33, 63, 42, 47, 60, 61, 62, 43, 45, 95] : List Int).any (fun c => decide (b = c)))
theorem impl_sign_fin : ∀ b : Fin 256, impl_isSymByte.f (b.val : Int) = some (signB (b.val : Int)) := by decide +kernel
theorem spec_sign_fin : ∀ b : Fin 256, spec_l2Sign.f 12 (b.val : Int) = some (signB (b.val : Int)) := by decide +kernel
theorem impl_sign (b : Int) (h0 : 0 ≤ b) (h1 : b ≤ 255) : impl_isSymByte.f b = some (signB b) := by
  have h := impl_sign_fin ⟨b.toNat, by omega⟩
  rwa [show (((⟨b.toNat, by omega⟩ : Fin 256).val : Nat) : Int) = b from by show ((b.toNat : Nat) : Int) = b; omega] at h
theorem spec_sign (b : Int) (h0 : 0 ≤ b) (h1 : b ≤ 255) : Ev (fun k => spec_l2Sign.f k b) (signB b) := by
  have h := spec_sign_fin ⟨b.toNat, by omega⟩
  rw [show (((⟨b.toNat, by omega⟩ : Fin 256).val : Nat) : Int) = b from by show ((b.toNat : Nat) : Int) = b; omega] at h
  exact Ev.of (fun k => spec_l2Sign.mono _ k) h

/-- Are the d signs from place i on all such? -/
def goodFrom (a : ByteArray) : Nat → Nat → Bool
  | 0, _ => true
  | d + 1, i => signB (bt a i) && goodFrom a d (i + 1)
def digB (b : Int) : Bool := decide (48 ≤ b) && decide (b ≤ 57)
/-- Is it a symbol, where r is what reading it as a number tells? -/
def symR (a : ByteArray) (r : Int × Bool) : Bool := goodFrom a a.size 0 && (decide (1 ≤ a.size) && decide (a.size ≤ 16) && !digB (bt a 0) && !r.2)

theorem spec_sym_loop (a : ByteArray) (ha : a.size ≤ 140737488351232) (r : Int × Bool) (hr : Ev (fun k => spec_ReadDec.f k a) r) : ∀ d i : Nat, i + d = a.size → Ev (fun k => spec_l2Sym.l0 k a i) (goodFrom a d i && !r.2) := by
  intro d
  induction d with
  | zero =>
    intro i hi
    refine Ev.step (f := fun k => (spec_ReadDec.f k a).bind fun t => some (!t.2)) (fun k => ?_) (Ev.bind hr (Ev.now _))
    simp only [spec_l2Sym.l0]
    rw [if_neg (by omega)]
  | succ d ih =>
    intro i hi
    refine Ev.step (f := fun k => (spec_l2Sign.f k (bt a i)).bind fun t => if t = true then spec_l2Sym.l0 k a ((i + 1 : Nat) : Int) else some false) (fun k => ?_) (Ev.bind (spec_sign _ (bt0 a i) (bt1 a i)) ?_)
    · simp only [spec_l2Sym.l0]
      rw [if_pos (show (i : Int) < (a.size : Int) by omega), if_pos (by omega), w64 (n := (i : Int) + 1) (by omega) (by omega)]
      rfl
    · cases hs : signB (bt a i) with
      | true =>
        refine ev_if_pos rfl ?_
        have := ih (i + 1) (by omega)
        rw [show goodFrom a (d + 1) i = goodFrom a d (i + 1) from by rw [goodFrom, hs]; rfl]
        exact this
      | false =>
        refine ev_if_neg (by decide) ?_
        rw [show goodFrom a (d + 1) i = false from by rw [goodFrom, hs]; rfl]
        exact Ev.now _
theorem spec_digit (b : Int) : spec_l2Digit.f b = some (digB b) := by
  unfold spec_l2Digit.f digB
  by_cases h : b ≥ 48
  · rw [if_pos h, decide_eq_true (show 48 ≤ b from h)]; rfl
  · rw [if_neg h, decide_eq_false (show ¬ 48 ≤ b from h)]; rfl
theorem spec_l1In_is (n lo hi : Int) : spec_l1In.f n lo hi = some (decide (lo ≤ n) && decide (n ≤ hi)) := by
  unfold spec_l1In.f
  by_cases h : n ≥ lo
  · rw [if_pos h, decide_eq_true (show lo ≤ n from h)]; rfl
  · rw [if_neg h, decide_eq_false (show ¬ lo ≤ n from h)]; rfl
theorem impl_inRange_is (n lo hi : Int) : impl_inRange.f n lo hi = some (decide (lo ≤ n) && decide (n ≤ hi)) := by
  unfold impl_inRange.f
  by_cases h : n ≥ lo
  · rw [if_pos h, decide_eq_true (show lo ≤ n from h)]; rfl
  · rw [if_neg h, decide_eq_false (show ¬ lo ≤ n from h)]; rfl
theorem len_dec (a : ByteArray) : (decide ((1 : Int) ≤ (a.size : Int)) && decide ((a.size : Int) ≤ 16)) = (decide (1 ≤ a.size) && decide (a.size ≤ 16)) := by
  congr 1 <;> (apply decide_eq_decide.mpr; omega)
theorem spec_sym_is (a : ByteArray) (ha : a.size ≤ 140737488351232) (r : Int × Bool) (hr : Ev (fun k => spec_ReadDec.f k a) r) : Ev (fun k => spec_l2Sym.f k a) (symR a r) := by
  unfold spec_l2Sym.f symR
  rw [spec_l1In_is, len_dec]
  have hj : ∀ b, Ev (fun k => spec_l2Sym.j0 k a b) (!b && (goodFrom a a.size 0 && !r.2)) := by
    intro b
    cases b with
    | true => exact Ev.step (fun k => by simp only [spec_l2Sym.j0]; rfl) (Ev.now _)
    | false => exact Ev.step (f := fun k => spec_l2Sym.l0 k a 0) (fun k => by simp only [spec_l2Sym.j0]; rfl) (spec_sym_loop a ha r hr a.size 0 (by omega))
  refine ev_some ?_
  cases hl : (decide (1 ≤ a.size) && decide (a.size ≤ 16)) with
  | false =>
    refine ev_if_neg (by decide) ?_
    have := hj true
    simpa using this
  | true =>
    refine ev_if_pos rfl ?_
    have h1 : 1 ≤ a.size := by simp only [Bool.and_eq_true, decide_eq_true_eq] at hl; exact hl.1
    refine ev_if_pos (by omega) ?_
    rw [spec_digit]
    refine ev_some ?_
    have := hj (digB (bt a 0))
    rw [show (goodFrom a a.size 0 && (true && !digB (bt a 0) && !r.2)) = (!digB (bt a 0) && (goodFrom a a.size 0 && !r.2)) from by cases goodFrom a a.size 0 <;> cases digB (bt a 0) <;> rfl]
    exact this
theorem impl_sym_loop (a : ByteArray) (ha : a.size ≤ 140737488351232) (r : Int × Bool) (hr : impl_ReadDec.f a = some r) : ∀ d i : Nat, i + d = a.size → Ev (fun k => impl_symOk.l0 k a i) (goodFrom a d i && (decide (1 ≤ a.size) && decide (a.size ≤ 16) && !digB (bt a 0) && !r.2)) := by
  intro d
  induction d with
  | zero =>
    intro i hi
    refine Ev.step (f := fun _ => some (decide (1 ≤ a.size) && decide (a.size ≤ 16) && !digB (bt a 0) && !r.2)) (fun k => ?_) (Ev.now _)
    simp only [impl_symOk.l0]
    rw [if_neg (by omega), impl_inRange_is, len_dec, hr, Option.bind_some]
    cases hl : (decide (1 ≤ a.size) && decide (a.size ≤ 16)) with
    | false => rfl
    | true =>
      have h1 : 1 ≤ a.size := by simp only [Bool.and_eq_true, decide_eq_true_eq] at hl; exact hl.1
      rw [if_pos rfl, if_pos (show 0 < (a.size : Int) by omega)]
      unfold digB
      by_cases h48 : bt a 0 ≥ 48
      · rw [if_pos h48, decide_eq_true (show 48 ≤ bt a 0 from h48)]
        by_cases h57 : bt a 0 ≤ 57
        · rw [if_pos h57, decide_eq_true h57]; rfl
        · rw [if_neg h57, decide_eq_false h57]; rfl
      · rw [if_neg h48, decide_eq_false (show ¬ 48 ≤ bt a 0 from h48)]; rfl
  | succ d ih =>
    intro i hi
    refine Ev.step (f := fun k => if signB (bt a i) = true then impl_symOk.l0 k a ((i + 1 : Nat) : Int) else some false) (fun k => ?_) ?_
    · simp only [impl_symOk.l0]
      rw [if_pos (show (i : Int) < (a.size : Int) by omega), if_pos (by omega), w64 (n := (i : Int) + 1) (by omega) (by omega), impl_sign _ (bt0 a i) (bt1 a i)]
      rfl
    · cases hs : signB (bt a i) with
      | true =>
        refine ev_if_pos rfl ?_
        have := ih (i + 1) (by omega)
        rw [show goodFrom a (d + 1) i = goodFrom a d (i + 1) from by rw [goodFrom, hs]; rfl]
        exact this
      | false =>
        refine ev_if_neg (by decide) ?_
        rw [show goodFrom a (d + 1) i = false from by rw [goodFrom, hs]; rfl]
        exact Ev.now _
theorem impl_sym_is (a : ByteArray) (ha : a.size ≤ 140737488351232) (r : Int × Bool) (hr : impl_ReadDec.f a = some r) : Ev (fun k => impl_symOk.f k a) (symR a r) :=
  impl_sym_loop a ha r hr a.size 0 (by omega)
/-- The two alike. -/
theorem sym_same (a : ByteArray) (ha : a.size ≤ 140737488351232) : ∃ b, Ev (fun k => spec_l2Sym.f k a) b ∧ Ev (fun k => impl_symOk.f k a) b ∧ (b = true → a.size ≤ 16) := by
  obtain ⟨r, h1, h2, _⟩ := readDec_same a ha
  refine ⟨symR a r, spec_sym_is a ha r h1, impl_sym_is a ha r h2, ?_⟩
  unfold symR
  simp only [Bool.and_eq_true, decide_eq_true_eq]
  exact fun h => h.2.1.1.2

end Go.Proofs.YtgfejfeafppagaaDoor.PFnExactProgOk
