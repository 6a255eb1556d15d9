/- ReadVar of the program and of the reference answer alike for every text. No condition. -/
import Derived.Test.YtggjjhbdpionpaaPFnExactReadVarx1
import Derived.Test.YtggjjhbdpionpaaAuxVar
namespace Go.Proofs.Ytggjjhbdpionpaa.Pure
open Go.RowKit Go.Proofs.Ytggjjhbdpionpaa.Aux Go.Proofs.Ytggjjhbdpionpaa.PFnExactReadVar Go.Proofs.YtggjjhbdpionpaaW.PrintWords Go.Proofs.YtggjjhbdpionpaaW.PrintLast Go.Proofs.YtggjjhbdpionpaaW.PrintMore

theorem spec_var_loop (d : Nat) : ∀ (x : Int) (l : List Int), 0 ≤ x → x < 9223372036854775808 → x < 128 ^ (d + 1) → l.length + d ≤ 100 →
    Ev (fun k => spec_Var.l0 k x l) (strOfNums (l ++ vb d x)) := by
  induction d with
  | zero =>
    intro x l h0 h1 h2 hl
    rw [show (0 + 1 : Nat) = 1 from rfl, Int.pow_succ, Int.pow_zero] at h2
    refine Ev.step (fun k => ?_) (Ev.now _)
    simp only [spec_Var.l0]; rw [if_neg (by omega), if_pos (by omega), vb, show x % 256 = x from by omega]
  | succ d ih =>
    intro x l h0 h1 h2 hl
    by_cases hx : x ≥ 128
    · have hq : x / 128 < 128 ^ (d + 1) := by rw [Int.pow_succ] at h2; omega
      have hr := ih (x / 128) (l ++ [(128 + x % 128) % 256]) (by omega) (by omega) hq (by rw [List.length_append, List.length_singleton]; omega)
      rw [List.append_assoc, show (128 + x % 128) % 256 = 128 + x % 128 from by omega] at hr
      rw [vb, if_pos hx]
      refine Ev.step (fun k => ?_) hr
      simp only [spec_Var.l0]
      rw [if_pos hx, if_pos (by omega), tdiv_nn h0, tmod_nn h0, w64 (by omega) (by omega), w64 (by omega) (by omega), show (128 + x % 128) % 256 = 128 + x % 128 from by omega]
    · rw [vb, if_neg hx]
      refine Ev.step (fun k => ?_) (Ev.now _)
      simp only [spec_Var.l0]; rw [if_neg (by omega), if_pos (by omega), show x % 256 = x from by omega]

theorem spec_var_is (x : Int) (h0 : 0 ≤ x) (h1 : x ≤ 562949953421311) : Ev (fun k => spec_Var.f k x) (strOfNums (vb 6 x)) := by
  unfold spec_Var.f spec_l1In.f
  simp only [if_pos (show x ≥ 0 from h0), Option.bind_some, decide_eq_true h1, if_true]
  exact spec_var_loop 6 x [] h0 (by omega) (by show x < 562949953421312; omega) (by decide)

theorem pow128_le {w : Nat} (h : w ≤ 7) : (128 : Int) ^ w ≤ 562949953421312 := by
  obtain rfl | rfl | rfl | rfl | rfl | rfl | rfl | rfl : w = 0 ∨ w = 1 ∨ w = 2 ∨ w = 3 ∨ w = 4 ∨ w = 5 ∨ w = 6 ∨ w = 7 := by omega
  all_goals decide

theorem val_seg_lt (s : ByteArray) (i m : Nat) (h : m ≤ 7) : val (seg s i m) < 562949953421312 := by
  have := val_lt (seg s i m)
  rw [seg_length] at this
  exact Int.lt_of_lt_of_le this (pow128_le h)

/-- The reference's inner loop: the value of the first k bytes. -/
theorem spec_inner (s : ByteArray) (kk : Nat) (hk : kk ≤ 7) (hks : kk ≤ s.size) (r : Int × Int)
    (hr : Ev (fun k => (spec_Var.f k (val (seg s 0 kk))).bind fun t111 => (if 0 ≤ (kk : Int) then (if (kk : Int) ≤ (s.size : Int) then (if t111.toList = (s.extract 0 ((kk : Int) : Int).toNat).toList then (some (val (seg s 0 kk), (kk : Int))) else (spec_ReadVar.l0 k s (wrap64 ((kk : Int) + 1)))) else (none)) else (none))) r) (i : Nat) :
    i ≤ kk → Ev (fun k => spec_ReadVar.l1 k s kk (val (seg s i (kk - i))) ((i : Int) - 1)) r := by
  induction i with
  | zero =>
    intro _
    refine Ev.step (fun k => ?_) hr
    simp only [spec_ReadVar.l1]
    rw [if_neg (by omega)]
    rfl
  | succ i ih =>
    intro hi
    have h := ih (by omega)
    have e : seg s i (kk - i) = bt s i :: seg s (i + 1) (kk - (i + 1)) := by
      rw [show kk - i = (kk - (i + 1)) + 1 from by omega]; rfl
    have hv := val_seg_lt s (i + 1) (kk - (i + 1)) (by omega)
    have hv0 := val_nonneg (seg s (i + 1) (kk - (i + 1)))
    have hv1 := val_seg_lt s i (kk - i) (by omega)
    have hb0 := bt0 s i
    have hb1 := bt1 s i
    rw [e] at h
    simp only [val] at h
    refine Ev.step (fun k => ?_) h
    simp only [spec_ReadVar.l1]
    have e1 : ((i + 1 : Nat) : Int) - 1 = i := by omega
    rw [e1, if_pos (by omega), if_pos (by omega), if_pos (by omega), w64 (n := bt s i) (by omega) (by omega), tmod_nn hb0, w64 (n := val (seg s (i + 1) (kk - (i + 1))) * 128) (by omega) (by omega), w64 (n := val (seg s (i + 1) (kk - (i + 1))) * 128 + bt s i % 128) (by omega) (by omega), w64 (n := (i : Int) - 1) (by omega) (by omega)]
    rw [show val (seg s (i + 1) (kk - (i + 1))) * 128 + bt s i % 128 = bt s i % 128 + 128 * val (seg s (i + 1) (kk - (i + 1))) from by omega]

theorem vb_bytes (d : Nat) : ∀ x : Int, 0 ≤ x → x < 128 ^ (d + 1) → ∀ b ∈ vb d x, isByte b := by
  induction d with
  | zero =>
    intro x h0 h1 b hb
    rw [show (0 + 1 : Nat) = 1 from rfl, Int.pow_succ, Int.pow_zero] at h1
    simp only [vb, List.mem_singleton] at hb
    subst hb
    unfold isByte; omega
  | succ d ih =>
    intro x h0 h1 b hb
    simp only [vb] at hb
    by_cases hx : x ≥ 128
    · rw [if_pos hx, List.mem_cons] at hb
      rcases hb with rfl | hb
      · unfold isByte; omega
      · exact ih (x / 128) (by omega) (by rw [Int.pow_succ] at h1; omega) b hb
    · rw [if_neg hx, List.mem_singleton] at hb
      subst hb
      unfold isByte; omega

/-- One beginning: it is found, or the next one is looked at. -/
theorem spec_at (s : ByteArray) (kk : Nat) (h1 : 1 ≤ kk) (hk : kk ≤ 7) (hks : kk ≤ s.size) (r : Int × Int) (hr : (can0 (seg s 0 kk) ∧ r = (val (seg s 0 kk), (kk : Int))) ∨ (¬ can0 (seg s 0 kk) ∧ Ev (fun k => spec_ReadVar.l0 k s ((kk + 1 : Nat) : Int)) r)) :
    Ev (fun k => spec_ReadVar.l0 k s (kk : Int)) r := by
  have hv := val_seg_lt s 0 kk hk
  have hv0 := val_nonneg (seg s 0 kk)
  refine Ev.step (f := fun k => spec_ReadVar.j1 k s kk true) (fun k => ?_) (Ev.step (f := fun k => spec_ReadVar.l1 k s kk 0 ((kk : Int) - 1)) (fun k => ?_) ?_)
  · simp only [spec_ReadVar.l0]
    rw [if_pos (by omega), decide_eq_true (by omega)]
  · simp only [spec_ReadVar.j1, if_true]
    rw [w64 (by omega) (by omega)]
  · have h := spec_inner s kk hk hks r ?_ kk (Nat.le_refl _)
    · rw [Nat.sub_self] at h
      exact h
    · refine Ev.bind (spec_var_is _ hv0 (by omega)) ?_
      have hkey : ((strOfNums (vb 6 (val (seg s 0 kk)))).toList = (s.extract 0 ((kk : Int) : Int).toNat).toList) ↔ can0 (seg s 0 kk) := by
        have e := extract_seg s 0 kk (by omega)
        rw [Nat.zero_add] at e
        rw [Int.toNat_natCast, e]
        constructor
        · intro h
          refine (vb_val 6 _ (seg_byte s kk 0) (by rw [seg_length]; omega)).mp ?_
          refine strOfNums_inj (vb_bytes 6 _ hv0 (by show _ < 562949953421312; omega)) (seg_byte s kk 0) ?_
          exact toList_inj.mp h
        · intro h
          rw [(vb_val 6 _ (seg_byte s kk 0) (by rw [seg_length]; omega)).mpr h]
      rcases hr with ⟨hc, rfl⟩ | ⟨hc, hr⟩
      · exact ev_if_pos (by omega) (ev_if_pos (by omega) (ev_if_pos (hkey.mpr hc) (Ev.now _)))
      · refine Ev.congr (fun k => ?_) hr
        rw [if_pos (by omega), if_pos (by omega), if_neg (fun h => hc (hkey.mp h)), w64 (by omega) (by omega)]
        rfl

theorem spec_over (s : ByteArray) (kk : Nat) (h : ¬ (kk ≤ 7 ∧ kk ≤ s.size)) (h1 : kk ≤ 8) : Ev (fun k => spec_ReadVar.l0 k s (kk : Int)) (0, 0) := by
  refine Ev.step (f := fun k => spec_ReadVar.j1 k s kk false) (fun k => ?_) (Ev.step (fun k => ?_) (Ev.now _))
  · simp only [spec_ReadVar.l0]
    by_cases h7 : kk ≤ 7
    · rw [if_pos (by omega), decide_eq_false (by omega)]
    · rw [if_neg (by omega)]
  · simp only [spec_ReadVar.j1]
    rfl

/-- Behind a byte that ends a number that is none, nothing is found. -/
theorem spec_never (s : ByteArray) (j : Nat) (hj : bt s (j : Nat) < 128) (d : Nat) : ∀ kk : Nat, j + 1 < kk → kk + d = 8 → Ev (fun k => spec_ReadVar.l0 k s (kk : Int)) (0, 0) := by
  induction d with
  | zero =>
    intro kk h1 h2
    exact spec_over s kk (by omega) (by omega)
  | succ d ih =>
    intro kk h1 h2
    by_cases h : kk ≤ s.size
    · refine spec_at s kk (by omega) (by omega) h _ (.inr ⟨fun hc => ?_, ih (kk + 1) (by omega) (by omega)⟩)
      obtain ⟨m, rfl⟩ : ∃ m, kk = m + 1 := ⟨kk - 1, by omega⟩
      rw [seg_snoc, can0_snoc] at hc
      have := hc.1 _ (seg_mem s m 0 j (by omega) (by omega))
      omega
    · exact spec_over s kk (by omega) (by omega)

theorem and127 {x : Int} (h0 : 0 ≤ x) (h1 : x ≤ 255) : Go.bits .and .u8 x 127 = x % 128 := and8 7 (by omega) h0 (by omega)

theorem or_groups (i : Nat) (hi : i ≤ 6) {x b : Int} (h0 : 0 ≤ x) (h1 : x < 128 ^ i) (hb0 : 0 ≤ b) (hb1 : b < 128) :
    Go.bits .or .i64 x (shl .i64 b ((7 * i : Nat) : Int)) = x + 128 ^ i * b := by
  have hp : (2 : Int) ^ (7 * i) = 128 ^ i := by rw [Int.pow_mul]; rfl
  have hs : shl .i64 b ((7 * i : Nat) : Int) = b * 128 ^ i := by
    unfold shl
    rw [Int.toNat_natCast, Nat.min_eq_left (by simp [IntKind.bits]; omega), hp]
    obtain rfl | rfl | rfl | rfl | rfl | rfl | rfl : i = 0 ∨ i = 1 ∨ i = 2 ∨ i = 3 ∨ i = 4 ∨ i = 5 ∨ i = 6 := by omega
    all_goals (refine k64 ?_ ?_ <;> omega)
  rw [hs]
  have hc : Go.bits .or .i64 x (b * 128 ^ i) = Go.bits .or .i64 (b * 128 ^ i) x := by
    unfold Go.bits
    simp only [BitVec.or_comm]
  rw [hc]
  have hor := or64 (7 * i) (x := b * 128 ^ i) (y := x) (Int.mul_nonneg hb0 (Int.pow_nonneg (by decide))) (by rw [hp]; exact Int.mul_emod_left _ _) ?_ h0 (by rw [hp]; exact h1) ?_
  · rw [hor, Int.mul_comm b, Int.add_comm]
  · obtain rfl | rfl | rfl | rfl | rfl | rfl | rfl : i = 0 ∨ i = 1 ∨ i = 2 ∨ i = 3 ∨ i = 4 ∨ i = 5 ∨ i = 6 := by omega
    all_goals omega
  · obtain rfl | rfl | rfl | rfl | rfl | rfl | rfl : i = 0 ∨ i = 1 ∨ i = 2 ∨ i = 3 ∨ i = 4 ∨ i = 5 ∨ i = 6 := by omega
    all_goals omega

theorem read_loops (s : ByteArray) (d : Nat) : ∀ i : Nat, i + d = 7 → i ≤ s.size → (∀ x ∈ seg s 0 i, 128 ≤ x) →
    ∃ r, Ev (fun k => spec_ReadVar.l0 k s ((i + 1 : Nat) : Int)) r ∧ Ev (fun k => impl_ReadVar.l0 k s (val (seg s 0 i)) i) r := by
  induction d with
  | zero =>
    intro i hi hs hx
    refine ⟨(0, 0), spec_over s (i + 1) (by omega) (by omega), Ev.step (f := fun k => impl_ReadVar.j1 k s (val (seg s 0 i)) i false) (fun k => ?_) (Ev.step (fun k => ?_) (Ev.now _))⟩
    · simp only [impl_ReadVar.l0]
      by_cases h : (i : Int) < s.size
      · rw [if_pos h, decide_eq_false (by omega)]
      · rw [if_neg h]
    · simp only [impl_ReadVar.j1]
      rfl
  | succ d ih =>
    intro i hi hs hx
    by_cases hlt : i < s.size
    · have hb0 := bt0 s i
      have hb1 := bt1 s i
      have hv0 := val_nonneg (seg s 0 i)
      have hv1 := val_lt (seg s 0 i)
      rw [seg_length] at hv1
      have hsn : seg s 0 (i + 1) = seg s 0 i ++ [bt s i] := by have := seg_snoc s i 0; rwa [Nat.zero_add] at this
      have hval : val (seg s 0 (i + 1)) = val (seg s 0 i) + 128 ^ i * (bt s i % 128) := by rw [hsn, val_snoc, seg_length]
      have ec : IntKind.u64.wrap (wrap64 (7 * (i : Int))) = ((7 * i : Nat) : Int) := by rw [w64 (by omega) (by omega), ku64 (by omega) (by omega)]; omega
      have eo : Go.bits .or .i64 (val (seg s 0 i)) (shl .i64 (wrap64 (Go.bits .and .u8 (bt s i) 127)) (IntKind.u64.wrap (wrap64 (7 * (i : Int))))) = val (seg s 0 (i + 1)) := by
        rw [ec, and127 hb0 hb1, w64 (by omega) (by omega), or_groups i (by omega) hv0 hv1 (by omega) (by omega), hval]
      have es : ∀ r, Ev (fun k => if (bt s i) ≥ 128 then (impl_ReadVar.l0 k s (val (seg s 0 (i + 1))) ((i + 1 : Nat) : Int)) else (if (bt s i) = 0 then (if (i : Int) > 0 then (some (0, 0)) else (some (val (seg s 0 (i + 1)), ((i + 1 : Nat) : Int)))) else (some (val (seg s 0 (i + 1)), ((i + 1 : Nat) : Int))))) r → Ev (fun k => impl_ReadVar.l0 k s (val (seg s 0 i)) i) r := by
        intro r hr
        refine Ev.step (f := fun k => impl_ReadVar.j1 k s (val (seg s 0 i)) i true) (fun k => ?_) (Ev.step (fun k => ?_) hr)
        · simp only [impl_ReadVar.l0]
          rw [if_pos (by omega), decide_eq_true (by omega)]
        · simp only [impl_ReadVar.j1, if_true]
          rw [if_pos (by omega), if_pos (by omega), eo, w64 (n := (i : Int) + 1) (by omega) (by omega), if_pos (by rw [ec]; omega)]
          rfl
      by_cases hge : bt s i ≥ 128
      · obtain ⟨r, h1, h2⟩ := ih (i + 1) (by omega) (by omega) (by
          intro x hxm
          rw [hsn, List.mem_append, List.mem_singleton] at hxm
          rcases hxm with hxm | rfl
          · exact hx x hxm
          · exact hge)
        refine ⟨r, spec_at s (i + 1) (by omega) (by omega) (by omega) r (.inr ⟨fun hc => ?_, h1⟩), es r (ev_if_pos hge h2)⟩
        rw [hsn, can0_snoc] at hc
        omega
      · by_cases hz : bt s i = 0 ∧ (i : Int) > 0
        · refine ⟨(0, 0), spec_at s (i + 1) (by omega) (by omega) (by omega) _ (.inr ⟨fun hc => ?_, ?_⟩), es _ (ev_if_neg hge (ev_if_pos hz.1 (ev_if_pos hz.2 (Ev.now _))))⟩
          · rw [hsn, can0_snoc] at hc
            have := hc.2.2 (by intro h; have := congrArg List.length h; rw [seg_length] at this; simp at this; omega)
            omega
          · exact spec_never s i (by omega) (8 - (i + 1 + 1)) (i + 1 + 1) (by omega) (by omega)
        · refine ⟨(val (seg s 0 (i + 1)), ((i + 1 : Nat) : Int)), spec_at s (i + 1) (by omega) (by omega) (by omega) _ (.inl ⟨?_, rfl⟩), es _ (ev_if_neg hge ?_)⟩
          · rw [hsn, can0_snoc]
            refine ⟨hx, by omega, fun hne => ?_⟩
            have : i ≠ 0 := by rintro rfl; exact hne rfl
            omega
          · by_cases h0 : bt s i = 0
            · exact ev_if_pos h0 (ev_if_neg (fun h => hz ⟨h0, h⟩) (Ev.now _))
            · exact ev_if_neg h0 (Ev.now _)
    · refine ⟨(0, 0), spec_over s (i + 1) (by omega) (by omega), Ev.step (f := fun k => impl_ReadVar.j1 k s (val (seg s 0 i)) i false) (fun k => ?_) (Ev.step (fun k => ?_) (Ev.now _))⟩
      · simp only [impl_ReadVar.l0]
        rw [if_neg (by omega)]
      · simp only [impl_ReadVar.j1]
        rfl

theorem readVar_same (s : ByteArray) : ∃ r, Ev (fun k => spec_ReadVar.f k s) r ∧ Ev (fun k => impl_ReadVar.f k s) r := by
  obtain ⟨r, h1, h2⟩ := read_loops s 7 0 (by omega) (by omega) (by intro x hx; simp [seg] at hx)
  exact ⟨r, h1, h2⟩

theorem FnExactReadVar : laws_FnExactReadVar.Pure := by
  intro s hs
  obtain ⟨⟨r, b⟩, h1, h2⟩ := readVar_same s
  unfold laws_FnExactReadVar.f
  by_cases hbig : (s.size : Int) > 1048576
  · exact ⟨0, by rw [if_pos hbig]⟩
  · refine Ev.rounds (ev_if_neg hbig (Ev.bind h1 (Ev.bind h2 ?_)))
    refine ⟨0, fun k _ => ?_⟩
    simp

end Go.Proofs.Ytggjjhbdpionpaa.Pure
