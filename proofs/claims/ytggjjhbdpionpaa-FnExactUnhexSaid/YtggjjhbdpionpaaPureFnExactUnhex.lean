/- Unhex of the program and of the reference answer alike for every text. No condition. -/
import Derived.Test.YtggjjhbdpionpaaPFnExactUnhexq
import Derived.Test.YtggjjhbdpionpaaAuxVar
namespace Go.Proofs.Ytggjjhbdpionpaa.Pure
open Go.RowKit Go.Proofs.Ytggjjhbdpionpaa.Aux Go.Proofs.Ytggjjhbdpionpaa.PFnExactUnhex Go.Proofs.YtggjjhbdpionpaaW.PrintWords Go.Proofs.YtggjjhbdpionpaaW.PrintLast Go.Proofs.YtggjjhbdpionpaaW.PrintMore

def hexl : List UInt8 := [48, 49, 50, 51, 52, 53, 54, 55, 56, 57, 97, 98, 99, 100, 101, 102]
def hx (b : Nat) : Int := Lib.indexByte hexl (Int.toNat (b : Int)).toUInt8
theorem hex_all : ∀ b : Fin 256, spec_l1FromHex.f 18 (b.val : Int) = some (hx b.val) := by decide +kernel
theorem hx_range : ∀ b : Fin 256, -1 ≤ hx b.val ∧ hx b.val ≤ 15 := by decide +kernel

theorem fromHex_is (s : ByteArray) (i : Int) : ∃ r : Int, Ev (fun k => spec_l1FromHex.f k (bt s i)) r ∧ strings_IndexByte.f (⟨#[48, 49, 50, 51, 52, 53, 54, 55, 56, 57, 97, 98, 99, 100, 101, 102]⟩ : ByteArray) (bt s i) = some r ∧ -1 ≤ r ∧ r ≤ 15 := by
  obtain ⟨n, hn⟩ := Int.eq_ofNat_of_zero_le (bt0 s i)
  have h1 := bt1 s i
  have hlt : n < 256 := by omega
  rw [hn]
  exact ⟨hx n, Ev.of (fun k => spec_l1FromHex.mono _ k) (hex_all ⟨n, hlt⟩), rfl, hx_range ⟨n, hlt⟩⟩

theorem unhex_loops (s : ByteArray) (d : Nat) : ∀ (i : Nat) (l : List Int), i + 2 * d = s.size → s.size ≤ 1048576 → l.length + d ≤ 1048576 →
    ∃ r, Ev (fun k => spec_Unhex.l0 k s l i) r ∧ Ev (fun k => impl_Unhex.l0 k s l i) r := by
  induction d with
  | zero =>
    intro i l hi hs hl
    refine ⟨(strOfNums l, true), Ev.step (fun k => ?_) (Ev.now _), Ev.step (fun k => ?_) (Ev.now _)⟩
    · simp only [spec_Unhex.l0]; rw [if_neg (by omega)]
    · simp only [impl_Unhex.l0]; rw [if_neg (by omega)]
  | succ d ih =>
    intro i l hi hs hl
    obtain ⟨a, ha, ha2, ha0, ha1⟩ := fromHex_is s i
    obtain ⟨b, hb, hb2, hb0, hb1⟩ := fromHex_is s (i + 1)
    have e1 : wrap64 ((i : Int) + 1) = i + 1 := w64 (by omega) (by omega)
    have e2 : wrap64 ((i : Int) + 2) = ((i + 2 : Nat) : Int) := by rw [w64 (by omega) (by omega)]; rfl
    have hA : (0 : Int) ≤ (i : Int) + 1 := by omega
    have hB : (i : Int) + 1 < s.size := by omega
    obtain ⟨r, r1, r2⟩ := ih (i + 2) (l ++ [(16 * a + b) % 256]) (by omega) hs (by rw [List.length_append, List.length_singleton]; omega)
    have key : ∀ (g1 g2 : Nat → Option (ByteArray × Bool)), (∀ r', a < 0 → r' = ((⟨#[]⟩ : ByteArray), false) → Ev g1 r' ∧ Ev g2 r') → (∀ r', ¬ a < 0 → b < 0 → r' = ((⟨#[]⟩ : ByteArray), false) → Ev g1 r' ∧ Ev g2 r') → (¬ a < 0 → ¬ b < 0 → Ev g1 r ∧ Ev g2 r) → ∃ r', Ev g1 r' ∧ Ev g2 r' := by
      intro g1 g2 k1 k2 k3
      by_cases h1 : a < 0
      · exact ⟨_, k1 _ h1 rfl⟩
      · by_cases h2 : b < 0
        · exact ⟨_, k2 _ h1 h2 rfl⟩
        · exact ⟨_, k3 h1 h2⟩
    have s1 : ∀ r', Ev (fun k => (spec_l1FromHex.f k (bt s i)).bind fun t105 => (spec_l1FromHex.f k (bt s ((i : Int) + 1))).bind fun t106 => (if t105 < 0 then (some ((⟨#[]⟩ : ByteArray), false)) else (if t106 < 0 then (some ((⟨#[]⟩ : ByteArray), false)) else (if l.length < 140737488355328 then (spec_Unhex.l0 k s (l ++ [(wrap64 ((wrap64 (16 * t105)) + t106)) % 256]) ((i + 2 : Nat) : Int)) else (none))))) r' → Ev (fun k => spec_Unhex.l0 k s l i) r' := by
      intro r' h
      refine Ev.step (fun k => ?_) h
      simp only [spec_Unhex.l0]
      rw [if_pos (by omega), if_pos (by omega)]
      simp only [e1, e2, if_pos hA, if_pos hB]
    have s2 : ∀ r', Ev (fun k => if a < 0 then (some ((⟨#[]⟩ : ByteArray), false)) else (if b < 0 then (some ((⟨#[]⟩ : ByteArray), false)) else (if l.length < 140737488355328 then (impl_Unhex.l0 k s (l ++ [(Go.bits .or .i64 (wrap64 (a * 16)) b) % 256]) ((i + 2 : Nat) : Int)) else (none)))) r' → Ev (fun k => impl_Unhex.l0 k s l i) r' := by
      intro r' h
      refine Ev.step (fun k => ?_) h
      simp only [impl_Unhex.l0]
      rw [if_pos (by omega), if_pos (by omega)]
      simp only [e1, e2, ha2, hb2, Option.bind_some]
      rw [if_pos (by omega), if_pos (by omega)]
    refine key _ _ ?_ ?_ ?_
    · intro r' h1 hr
      subst hr
      exact ⟨s1 _ (Ev.bind ha (Ev.bind hb (ev_if_pos h1 (Ev.now _)))), s2 _ (ev_if_pos h1 (Ev.now _))⟩
    · intro r' h1 h2 hr
      subst hr
      exact ⟨s1 _ (Ev.bind ha (Ev.bind hb (ev_if_neg h1 (ev_if_pos h2 (Ev.now _))))), s2 _ (ev_if_neg h1 (ev_if_pos h2 (Ev.now _)))⟩
    · intro h1 h2
      refine ⟨s1 _ (Ev.bind ha (Ev.bind hb (ev_if_neg h1 (ev_if_neg h2 (ev_if_pos (by omega) ?_))))), s2 _ (ev_if_neg h1 (ev_if_neg h2 (ev_if_pos (by omega) ?_)))⟩
      · rw [w64 (n := 16 * a) (by omega) (by omega), w64 (by omega) (by omega)]
        exact r1
      · rw [w64 (n := a * 16) (by omega) (by omega), or64 4 (by omega) (by omega) (by omega) (by omega) (by omega) (by omega), Int.mul_comm a]
        exact r2

theorem unhex_same (s : ByteArray) (hs : s.size ≤ 1048576) : ∃ r, Ev (fun k => spec_Unhex.f k s) r ∧ Ev (fun k => impl_Unhex.f k s) r := by
  unfold spec_Unhex.f impl_Unhex.f
  by_cases h : ((s.size : Int) % 2) = 1
  · exact ⟨_, ev_if_pos h (Ev.now _), ev_if_pos h (Ev.now _)⟩
  · obtain ⟨r, r1, r2⟩ := unhex_loops s (s.size / 2) 0 [] (by omega) hs (by simp; omega)
    exact ⟨r, ev_if_neg h r1, ev_if_neg h r2⟩

theorem FnExactUnhex : laws_FnExactUnhex.Pure := by
  intro s hs
  unfold laws_FnExactUnhex.f
  by_cases hbig : (s.size : Int) > 1048576
  · exact ⟨0, by rw [if_pos hbig]⟩
  · obtain ⟨⟨r, b⟩, h1, h2⟩ := unhex_same s (by omega)
    refine Ev.rounds (ev_if_neg hbig (Ev.bind h1 (Ev.bind h2 ?_)))
    refine ⟨0, fun k _ => ?_⟩
    simp

end Go.Proofs.Ytggjjhbdpionpaa.Pure
