/- Hex of the program and of the reference answer alike for every text. No condition. -/
import Derived.Test.YtggjjhbdpionpaaPFnExactHexq
import Derived.Test.YtggjjhbdpionpaaAuxVar
namespace Go.Proofs.Ytggjjhbdpionpaa.Pure
open Go.RowKit Go.Proofs.Ytggjjhbdpionpaa.Aux Go.Proofs.Ytggjjhbdpionpaa.PFnExactHex Go.Proofs.YtggjjhbdpionpaaW.PrintWords Go.Proofs.YtggjjhbdpionpaaW.PrintLast Go.Proofs.YtggjjhbdpionpaaW.PrintMore

theorem digit_at : ∀ m : Fin 16, bt (⟨#[48, 49, 50, 51, 52, 53, 54, 55, 56, 57, 97, 98, 99, 100, 101, 102]⟩ : ByteArray) (m.val : Int) = ((hexd m.val).toNat : Int) := by decide

theorem l1Digit_is (n : Nat) (h : n < 16) : spec_l1Digit.f (n : Int) = some ((hexd n).toNat : Int) := by
  unfold spec_l1Digit.f
  rw [if_pos (by omega), if_pos (by omega), digit_at ⟨n, h⟩]

def asNums (l : List UInt8) : List Int := l.map fun b => (b.toNat : Int)

theorem str_asNums (l : List UInt8) : strOfNums (asNums l) = ⟨l.toArray⟩ := by
  unfold strOfNums asNums
  congr 2
  rw [List.map_map]
  conv => rhs; rw [← List.map_id l]
  apply List.map_congr_left
  intro b _
  simp

theorem hex_loop (s : ByteArray) (hs : s.size ≤ 1048576) (d : Nat) : ∀ i : Nat, i + d = s.size → Ev (fun k => spec_Hex.l0 k s (asNums (hexN s i)) i) (⟨(hexN s s.size).toArray⟩ : ByteArray) := by
  induction d with
  | zero =>
    intro i hi
    obtain rfl : i = s.size := by omega
    refine Ev.step (fun k => ?_) (Ev.now _)
    simp only [spec_Hex.l0]; rw [if_neg (by omega), str_asNums]
  | succ d ih =>
    intro i hi
    have h := ih (i + 1) (by omega)
    obtain ⟨n, hn⟩ := Int.eq_ofNat_of_zero_le (bt0 s i)
    have h1 := bt1 s i
    have e : asNums (hexN s (i + 1)) = asNums (hexN s i) ++ [((hexd (n / 16)).toNat : Int), ((hexd (n % 16)).toNat : Int)] := by
      rw [hexN, hn]
      simp [asNums]
    rw [e] at h
    refine Ev.step (fun k => ?_) h
    simp only [spec_Hex.l0]
    rw [if_pos (by omega), if_pos (by omega), hn, w64 (n := (n : Int)) (by omega) (by omega), tdiv_nn (a := (n : Int)) (by omega), tmod_nn (a := (n : Int)) (by omega), w64 (n := (n : Int) / 16) (by omega) (by omega), show ((n : Int) / 16) = ((n / 16 : Nat) : Int) from rfl, show ((n : Int) % 16) = ((n % 16 : Nat) : Int) from rfl, l1Digit_is _ (by omega), l1Digit_is _ (by omega)]
    simp only [Option.bind_some]
    rw [if_pos (by simp [asNums, hexN_length]; omega), w64 (by omega) (by omega)]
    rfl

theorem FnExactHex : laws_FnExactHex.Pure := by
  intro s hs
  unfold laws_FnExactHex.f
  by_cases hbig : (s.size : Int) > 1048576
  · exact ⟨0, by rw [if_pos hbig]⟩
  · have h := hex_loop s (by omega) s.size 0 (by omega)
    refine Ev.rounds (ev_if_neg hbig (Ev.bind (a := (⟨(hexN s s.size).toArray⟩ : ByteArray)) h ?_))
    unfold impl_Hex.f
    rw [if_pos (by omega)]
    refine ⟨0, fun k _ => ?_⟩
    simp

end Go.Proofs.Ytggjjhbdpionpaa.Pure
