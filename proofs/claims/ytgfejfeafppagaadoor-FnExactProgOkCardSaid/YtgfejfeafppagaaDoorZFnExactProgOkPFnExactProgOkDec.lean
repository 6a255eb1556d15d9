/- Dec and ReadDec of the program and of the reference, as the printed functions have them: what they tell. -/
import Derived.Test.YtgfejfeafppagaaDoorZFnExactProgOkPFnExactProgOkq
import Derived.Test.YtgfejfeafppagaaDoorZFnExactProgOkAuxDec
namespace Go.Proofs.YtgfejfeafppagaaDoor.PFnExactProgOk
open Go.RowKit Go.Lib Go.Proofs.YtgfejfeafppagaaDoor.Aux Go.Proofs.YtgfejfeafppagaaDoorW.PrintWords Go.Proofs.YtgfejfeafppagaaDoorW.PrintLast Go.Proofs.YtgfejfeafppagaaDoorW.PrintMore

def str (l : List UInt8) : ByteArray := ⟨l.toArray⟩
theorem str_size (l : List UInt8) : (str l).size = l.length := by simp [str, ByteArray.size]
theorem str_cons (b : UInt8) (l : List UInt8) : (⟨#[b]⟩ : ByteArray) ++ str l = str (b :: l) := by
  apply ByteArray.ext
  simp [str]
theorem str_toList (l : List UInt8) : (str l).toList = l := by rw [ByteArray.toList_eq]; rfl
theorem nums_one (n : Nat) (h : n < 10) : strOfNums [(48 + (n : Int)) % 256] = ⟨#[UInt8.ofNat (48 + n)]⟩ := by
  have e : ((48 + (n : Int)) % 256).toNat = 48 + n := by omega
  unfold strOfNums
  rw [List.map_cons, List.map_nil, e]

def dd (c : Nat) (l : List UInt8) : List UInt8 := if c = 0 then l else decDigits c ++ l
theorem dd_step (c : Nat) (l : List UInt8) (h : c ≠ 0) : dd c l = dd (c / 10) (UInt8.ofNat (48 + c % 10) :: l) := by
  unfold dd
  rw [if_neg h, decDigits_rec]
  by_cases h2 : c < 10
  · rw [if_pos h2, if_pos (by omega)]; rfl
  · rw [if_neg h2, if_neg (by omega), List.append_assoc]; rfl

theorem dec_pos (d : Nat) : ∀ (c : Nat) (l : List UInt8), c < 10 ^ d → c < 9223372036854775808 → l.length + d ≤ 100 → Ev (fun k => spec_Dec.l0 k (c : Int) (str l) false) (str (dd c l)) := by
  induction d with
  | zero =>
    intro c l h h1 hl
    obtain rfl : c = 0 := by simpa using h
    refine Ev.step (fun k => ?_) (Ev.now _)
    simp only [spec_Dec.l0]
    rfl
  | succ d ih =>
    intro c l h h1 hl
    by_cases h0 : c = 0
    · subst h0
      refine Ev.step (fun k => ?_) (Ev.now _)
      simp only [spec_Dec.l0]
      rfl
    · have hr := ih (c / 10) (UInt8.ofNat (48 + c % 10) :: l) (by rw [Nat.pow_succ] at h; omega) (by omega) (by simp; omega)
      rw [dd_step c l h0]
      refine Ev.step (fun k => ?_) hr
      simp only [spec_Dec.l0]
      rw [if_neg (by omega), tmod_nn (a := (c : Int)) (by omega), tdiv_nn (a := (c : Int)) (by omega), if_neg (by omega), w64 (n := 48 + (c : Int) % 10) (by omega) (by omega)]
      simp only [Option.bind_some]
      rw [show ((c : Int) % 10) = ((c % 10 : Nat) : Int) from rfl, nums_one _ (by omega), if_pos (by rw [str_size]; show 1 + l.length ≤ _; omega), w64 (by omega) (by omega), str_cons]
      rfl

theorem tmod_neg10 (c : Nat) : Int.tmod (-(c : Int)) 10 = -((c % 10 : Nat) : Int) := by
  rw [Int.neg_tmod, tmod_nn (by omega)]; rfl
theorem tdiv_neg10 (c : Nat) : Int.tdiv (-(c : Int)) 10 = -((c / 10 : Nat) : Int) := by
  rw [Int.neg_tdiv, tdiv_nn (by omega)]; rfl

theorem dec_neg (d : Nat) : ∀ (c : Nat) (l : List UInt8), c < 10 ^ d → c ≤ 9223372036854775808 → l.length + d ≤ 100 → Ev (fun k => spec_Dec.l0 k (-(c : Int)) (str l) true) (str (45 :: dd c l)) := by
  induction d with
  | zero =>
    intro c l h h1 hl
    obtain rfl : c = 0 := by simpa using h
    refine Ev.step (fun k => ?_) (Ev.now _)
    simp only [spec_Dec.l0]
    rw [if_pos (by omega), if_pos trivial, if_pos (by rw [str_size]; omega), str_cons]
    rfl
  | succ d ih =>
    intro c l h h1 hl
    by_cases h0 : c = 0
    · subst h0
      refine Ev.step (fun k => ?_) (Ev.now _)
      simp only [spec_Dec.l0]
      rw [if_pos (by omega), if_pos trivial, if_pos (by rw [str_size]; omega), str_cons]
      rfl
    · have hr := ih (c / 10) (UInt8.ofNat (48 + c % 10) :: l) (by rw [Nat.pow_succ] at h; omega) (by omega) (by simp; omega)
      rw [dd_step c l h0]
      refine Ev.step (fun k => ?_) hr
      simp only [spec_Dec.l0]
      rw [if_neg (by omega), tmod_neg10, tdiv_neg10]
      by_cases hz : c % 10 = 0
      · rw [if_neg (by omega)]
        simp only [Option.bind_some]
        rw [hz, w64 (n := 48 + -((0 : Nat) : Int)) (by omega) (by omega), show (48 + -((0 : Nat) : Int)) = 48 + ((0 : Nat) : Int) from rfl, nums_one _ (by omega), if_pos (by rw [str_size]; show 1 + l.length ≤ _; omega), w64 (by omega) (by omega), str_cons]
      · rw [if_pos (by omega), w64 (n := - -((c % 10 : Nat) : Int)) (by omega) (by omega), Int.neg_neg, w64 (n := 48 + ((c % 10 : Nat) : Int)) (by omega) (by omega)]
        simp only [Option.bind_some]
        rw [nums_one _ (by omega), if_pos (by rw [str_size]; show 1 + l.length ≤ _; omega), w64 (by omega) (by omega), str_cons]

/-- Dec of the reference. -/
theorem spec_dec_is (n : Int) (h0 : -9223372036854775808 ≤ n) (h1 : n < 9223372036854775808) : Ev (fun k => spec_Dec.f k n) (str (itoa n)) := by
  unfold spec_Dec.f itoa
  by_cases hz : n = 0
  · subst hz
    have e : decDigits (Int.toNat 0) = [48] := by rw [decDigits_rec]; rfl
    rw [if_neg (by decide), e]
    exact ev_if_pos rfl (Ev.now _)
  · by_cases hn : n < 0
    · obtain ⟨c, rfl⟩ : ∃ c : Nat, n = -(c : Int) := ⟨n.natAbs, by omega⟩
      have h := dec_neg 20 c [] (by omega) (by omega) (by decide)
      rw [if_pos hn]
      rw [show (-(c : Int)).natAbs = c from by omega]
      have e : dd c [] = decDigits c := by unfold dd; rw [if_neg (by omega), List.append_nil]
      rw [e] at h
      refine Ev.congr (fun k => ?_) h
      rw [if_neg hz, decide_eq_true hn]
      rfl
    · obtain ⟨c, rfl⟩ : ∃ c : Nat, n = (c : Int) := ⟨n.toNat, by omega⟩
      have h := dec_pos 20 c [] (by omega) (by omega) (by decide)
      rw [if_neg hn]
      rw [show ((c : Int)).toNat = c from rfl]
      have e : dd c [] = decDigits c := by unfold dd; rw [if_neg (by omega), List.append_nil]
      rw [e] at h
      refine Ev.congr (fun k => ?_) h
      rw [if_neg hz, decide_eq_false hn]
      rfl

end Go.Proofs.YtgfejfeafppagaaDoor.PFnExactProgOk
