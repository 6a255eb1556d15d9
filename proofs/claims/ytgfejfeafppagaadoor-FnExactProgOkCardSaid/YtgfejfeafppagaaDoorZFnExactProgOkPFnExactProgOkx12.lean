-- Written by a program of this session (mk.py over the kit's print).
import Derived.Test.YtgfejfeafppagaaDoorZFnExactProgOkPFnExactProgOkx0
import Derived.Test.YtgfejfeafppagaaDoorZFnExactProgOkPFnExactProgOkx8
import Derived.Test.YtgfejfeafppagaaDoorZFnExactProgOkPFnExactProgOkx11
namespace Go.Proofs.YtgfejfeafppagaaDoor.PFnExactProgOk
open Go.RowKit Go.Proofs.YtgfejfeafppagaaDoorW.PrintWords Go.Proofs.YtgfejfeafppagaaDoorW.PrintLast Go.Proofs.YtgfejfeafppagaaDoorW.PrintMore
attribute [local go_sem] max2_int min2_int max_two min_two max_three min_three max_four min_four   -- for this text's walks alone
set_option linter.unusedVariables false
set_option linter.unusedSimpArgs false

/-! ### impl_ProgOk: function 43 -/
mutual
def impl_ProgOk.j0 : Nat → Int → Bool → List (S122) → Int → Option (Bool)
  | 0, _, _, _, _ => none
  | k + 1, x3, x25, x249000, x249001 => if x25 = true then (some false) else (if 0 ≤ (x249000.length : Int) then (if ((x249000.length : Int) : Int).toNat ≤ 35184372088832 then (impl_ProgOk.l0 k x3 (List.replicate ((x249000.length : Int) : Int).toNat 0) x249000 (x249000.length : Int) 0) else (none)) else (none))
def impl_ProgOk.l0 : Nat → Int → List Int → List (S122) → Int → Int → Option (Bool)
  | 0, _, _, _, _, _ => none
  | k + 1, x3, x4, x31, x32, x33 => if x33 < x32 then (if 0 ≤ x33 then (if x33 < (x31.length : Int) then ((impl_nodeOk.f k ((rd_T122 x31 x33).f0) ((rd_T122 x31 x33).f1) ((rd_T122 x31 x33).f2) ((rd_T122 x31 x33).f3) ((rd_T122 x31 x33).f4)).bind fun t255 => (if t255 = true then (impl_ProgOk.l1 k x3 x4 x33 x31 x32 x33 ((rd_T122 x31 x33).f4) (((rd_T122 x31 x33).f4).length : Int) 0) else (some false))) else (none)) else (none)) else (if 0 ≤ x3 then (if x3 ≤ (x4.length : Int) then ((some (x4.take (x3 : Int).toNat : List Int)).bind fun y260 => (impl_ProgOk.l2 k x3 x4 y260 (y260.length : Int) 0)) else (none)) else (none))
def impl_ProgOk.l1 : Nat → Int → List Int → Int → List (S122) → Int → Int → List Int → Int → Int → Option (Bool)
  | 0, _, _, _, _, _, _, _, _, _ => none
  | k + 1, x3, x4, x5, x31, x32, x33, x42, x43, x44 => if x44 < x43 then (if 0 ≤ x44 then (if x44 < (x42.length : Int) then ((impl_inRange.f (rd x42 x44) 0 (wrap64 (x5 - 1))).bind fun t257 => (if t257 = true then (if 0 ≤ (rd x42 x44) then (if (rd x42 x44) < (x4.length : Int) then (impl_ProgOk.l1 k x3 (x4.set ((rd x42 x44) : Int).toNat (wrap64 ((rd x4 (rd x42 x44)) + 1))) x5 x31 x32 x33 x42 x43 (wrap64 (x44 + 1))) else (none)) else (none)) else (some false))) else (none)) else (none)) else (impl_ProgOk.l0 k x3 x4 x31 x32 (wrap64 (x33 + 1)))
def impl_ProgOk.l2 : Nat → Int → List Int → List Int → Int → Int → Option (Bool)
  | 0, _, _, _, _, _ => none
  | k + 1, x3, x4, x63, x64, x65 => if x65 < x64 then (if 0 ≤ x65 then (if x65 < (x63.length : Int) then (if (rd x63 x65) = 1 then (impl_ProgOk.l2 k x3 x4 x63 x64 (wrap64 (x65 + 1))) else (some false)) else (none)) else (none)) else (if 0 ≤ x3 then (if x3 < (x4.length : Int) then (some ((rd x4 x3) == 0)) else (none)) else (none))
end
def impl_ProgOk.f (k : Nat) (l0_0 : List (S122)) (a0_1 : Int) : Option (Bool) := (impl_inRange.f (l0_0.length : Int) 1 400).bind fun t249 => (if t249 = true then (impl_ProgOk.j0 k (wrap64 ((l0_0.length : Int) - 1)) (a0_1 != (wrap64 ((l0_0.length : Int) - 1))) l0_0 a0_1) else (impl_ProgOk.j0 k (wrap64 ((l0_0.length : Int) - 1)) true l0_0 a0_1))
theorem impl_ProgOk.mono_l : ∀ k, (∀ y0 y1 y2 y3, LeO (impl_ProgOk.j0 k y0 y1 y2 y3) (impl_ProgOk.j0 (k + 1) y0 y1 y2 y3)) ∧ (∀ y0 y1 y2 y3 y4, LeO (impl_ProgOk.l0 k y0 y1 y2 y3 y4) (impl_ProgOk.l0 (k + 1) y0 y1 y2 y3 y4)) ∧ (∀ y0 y1 y2 y3 y4 y5 y6 y7 y8, LeO (impl_ProgOk.l1 k y0 y1 y2 y3 y4 y5 y6 y7 y8) (impl_ProgOk.l1 (k + 1) y0 y1 y2 y3 y4 y5 y6 y7 y8)) ∧ (∀ y0 y1 y2 y3 y4, LeO (impl_ProgOk.l2 k y0 y1 y2 y3 y4) (impl_ProgOk.l2 (k + 1) y0 y1 y2 y3 y4))
  | 0 => ⟨fun _ _ _ _ r h => by simp [impl_ProgOk.j0] at h, fun _ _ _ _ _ r h => by simp [impl_ProgOk.l0] at h, fun _ _ _ _ _ _ _ _ _ r h => by simp [impl_ProgOk.l1] at h, fun _ _ _ _ _ r h => by simp [impl_ProgOk.l2] at h⟩
  | k + 1 => by
    obtain ⟨ih0, ih1, ih2, ih3⟩ := impl_ProgOk.mono_l k
    refine ⟨?_, ?_, ?_, ?_⟩
    · intro y0 y1 y2 y3
      unfold impl_ProgOk.j0
      repeat' first
      | (with_reducible exact ih0 _ _ _ _)
      | (with_reducible exact ih1 _ _ _ _ _)
      | (with_reducible exact ih2 _ _ _ _ _ _ _ _ _)
      | (with_reducible exact ih3 _ _ _ _ _)
      | (with_reducible exact impl_nodeOk.mono _ _ _ _ _ _)
      | (with_reducible exact LeO.refl _)
      | (with_reducible exact LeO.none _)
      | (with_reducible refine LeO.ite ?_ ?_)
      | (with_reducible refine LeO.bind ?_ (fun _ => ?_))
      | exact ih0 _ _ _ _
      | exact ih1 _ _ _ _ _
      | exact ih2 _ _ _ _ _ _ _ _ _
      | exact ih3 _ _ _ _ _
      | exact impl_nodeOk.mono _ _ _ _ _ _
      | exact LeO.none _
      | refine LeO.ite ?_ ?_
      | refine LeO.bind ?_ (fun _ => ?_)
    · intro y0 y1 y2 y3 y4
      unfold impl_ProgOk.l0
      repeat' first
      | (with_reducible exact ih0 _ _ _ _)
      | (with_reducible exact ih1 _ _ _ _ _)
      | (with_reducible exact ih2 _ _ _ _ _ _ _ _ _)
      | (with_reducible exact ih3 _ _ _ _ _)
      | (with_reducible exact impl_nodeOk.mono _ _ _ _ _ _)
      | (with_reducible exact LeO.refl _)
      | (with_reducible exact LeO.none _)
      | (with_reducible refine LeO.ite ?_ ?_)
      | (with_reducible refine LeO.bind ?_ (fun _ => ?_))
      | exact ih0 _ _ _ _
      | exact ih1 _ _ _ _ _
      | exact ih2 _ _ _ _ _ _ _ _ _
      | exact ih3 _ _ _ _ _
      | exact impl_nodeOk.mono _ _ _ _ _ _
      | exact LeO.none _
      | refine LeO.ite ?_ ?_
      | refine LeO.bind ?_ (fun _ => ?_)
    · intro y0 y1 y2 y3 y4 y5 y6 y7 y8
      unfold impl_ProgOk.l1
      repeat' first
      | (with_reducible exact ih0 _ _ _ _)
      | (with_reducible exact ih1 _ _ _ _ _)
      | (with_reducible exact ih2 _ _ _ _ _ _ _ _ _)
      | (with_reducible exact ih3 _ _ _ _ _)
      | (with_reducible exact impl_nodeOk.mono _ _ _ _ _ _)
      | (with_reducible exact LeO.refl _)
      | (with_reducible exact LeO.none _)
      | (with_reducible refine LeO.ite ?_ ?_)
      | (with_reducible refine LeO.bind ?_ (fun _ => ?_))
      | exact ih0 _ _ _ _
      | exact ih1 _ _ _ _ _
      | exact ih2 _ _ _ _ _ _ _ _ _
      | exact ih3 _ _ _ _ _
      | exact impl_nodeOk.mono _ _ _ _ _ _
      | exact LeO.none _
      | refine LeO.ite ?_ ?_
      | refine LeO.bind ?_ (fun _ => ?_)
    · intro y0 y1 y2 y3 y4
      unfold impl_ProgOk.l2
      repeat' first
      | (with_reducible exact ih0 _ _ _ _)
      | (with_reducible exact ih1 _ _ _ _ _)
      | (with_reducible exact ih2 _ _ _ _ _ _ _ _ _)
      | (with_reducible exact ih3 _ _ _ _ _)
      | (with_reducible exact impl_nodeOk.mono _ _ _ _ _ _)
      | (with_reducible exact LeO.refl _)
      | (with_reducible exact LeO.none _)
      | (with_reducible refine LeO.ite ?_ ?_)
      | (with_reducible refine LeO.bind ?_ (fun _ => ?_))
      | exact ih0 _ _ _ _
      | exact ih1 _ _ _ _ _
      | exact ih2 _ _ _ _ _ _ _ _ _
      | exact ih3 _ _ _ _ _
      | exact impl_nodeOk.mono _ _ _ _ _ _
      | exact LeO.none _
      | refine LeO.ite ?_ ?_
      | refine LeO.bind ?_ (fun _ => ?_)
theorem impl_ProgOk.mono : ∀ a0 a1 k, LeO (impl_ProgOk.f k a0 a1) (impl_ProgOk.f (k + 1) a0 a1) := by
  intro a0 a1 k
  obtain ⟨ih0, ih1, ih2, ih3⟩ := impl_ProgOk.mono_l k
  unfold impl_ProgOk.f
  repeat' first
      | (with_reducible exact ih0 _ _ _ _)
      | (with_reducible exact ih1 _ _ _ _ _)
      | (with_reducible exact ih2 _ _ _ _ _ _ _ _ _)
      | (with_reducible exact ih3 _ _ _ _ _)
      | (with_reducible exact impl_nodeOk.mono _ _ _ _ _ _)
      | (with_reducible exact LeO.refl _)
      | (with_reducible exact LeO.none _)
      | (with_reducible refine LeO.ite ?_ ?_)
      | (with_reducible refine LeO.bind ?_ (fun _ => ?_))
      | exact ih0 _ _ _ _
      | exact ih1 _ _ _ _ _
      | exact ih2 _ _ _ _ _ _ _ _ _
      | exact ih3 _ _ _ _ _
      | exact impl_nodeOk.mono _ _ _ _ _ _
      | exact LeO.none _
      | refine LeO.ite ?_ ?_
      | refine LeO.bind ?_ (fun _ => ?_)
set_option maxHeartbeats 8000000 in
set_option maxRecDepth 100000 in
theorem impl_ProgOk.calls (k : Nat) (A0_0 : Option Addr) (c0_0 : Nat) (l0_0 : List (S122)) (a0_1 : Int) (r : Bool) (w : World) (hL : Laid w) (hr0_0 : Kd.C k122 w A0_0 l0_0.length l0_0) (hc0_0 : l0_0.length ≤ c0_0) (h : impl_ProgOk.f k l0_0 a0_1 = some r) :
    Calls Tryd.prog 43 #[.agg #[.slice A0_0 l0_0.length c0_0, .int .i64 a0_1]] w fun e w' => e = .returned (.bool r) ∧ Below w.heap.size w w' := by
  have HL := Aside0.mk hL
  clear hL
  have hu66 := Tryd.underlying66
  have hu122 := Tryd.underlying122
  have HR0_0 := Aside0.mk hr0_0
  have HC0_0 := Aside0.mk hc0_0
  clear hr0_0 hc0_0
  have HB := Aside0.mk (Below.refl w.heap.size w)
  have H : ((impl_inRange.f (l0_0.length : Int) 1 400).bind fun t249 => (if t249 = true then (impl_ProgOk.j0 k (wrap64 ((l0_0.length : Int) - 1)) (a0_1 != (wrap64 ((l0_0.length : Int) - 1))) l0_0 a0_1) else (impl_ProgOk.j0 k (wrap64 ((l0_0.length : Int) - 1)) true l0_0 a0_1))) = some r := h
  clear h
  have HC2 := Aside0.mk H
  clear H
  go_enter Tryd.func43, Tryd.ntmps43
  go_upto_region 2 with (first | ((with_reducible refine gate_dst (N := 1) rfl ?_); refine box_event ?hg (N := 1) ?hd (cs := #[.slice A0_0 l0_0.length c0_0, .int .i64 a0_1]) (t := 66) ?hr ?_; (case hd => rfl); (case hg => rfl); (case hr => first | (go_simp; done) | (go_simp; rfl)); intro gb248 hg w3 hbox hb; have n0_ := Aside0.mk (below_step bt_ hb); have n1_ := Aside0.mk (hbox); have n2_ := Aside0.mk ((by rw [hg]; exact (below_size bt_) : w.heap.size ≤ gb248)); have n3_ := Aside0.mk ((by rw [hg]; exact (below_size bt_) : w.heap.size ≤ gb248)); clear HB; have HB := n0_; have BK248 := n1_; have GW248 := n2_; have GE248 := n3_; clear n0_ n1_ n2_ n3_; clear hb hbox hg; obtain ⟨hcz4_0, hcz4_1, hfz4_0, hfz4_1⟩ := blk2 BK248.out))
  (try simp only [Act.put, List.setIfInBounds_toArray, List.set_cons_zero, List.set_cons_succ])
  go_cut [25] (fun v25 wc => ∃ (kq : Nat) (x25_1 : Bool), v25 = .bool x25_1 ∧ Aside0 (impl_ProgOk.j0 kq (wrap64 ((l0_0.length : Int) - 1)) x25_1 l0_0 a0_1 = some r) ∧ Aside0 (kq ≤ k) ∧ Aside0 (wc.heap[gb248]? = some (.cells #[(.slice A0_0 l0_0.length c0_0), .int .i64 a0_1] 66 (0, 0))) ∧ Aside0 (Below w.heap.size w wc))
  case first =>
    have H := HC2.out
    clear HC2
    replace H := Option.bind_eq_some_iff.mp H
    obtain ⟨t249, A50, H⟩ := H
    replace H : (if t249 = true then (impl_ProgOk.j0 k (wrap64 ((l0_0.length : Int) - 1)) (a0_1 != (wrap64 ((l0_0.length : Int) - 1))) l0_0 a0_1) else (impl_ProgOk.j0 k (wrap64 ((l0_0.length : Int) - 1)) true l0_0 a0_1)) = some r := H
    have A5 := Aside0.mk A50
    clear A50
    by_cases c6 : t249 = true
    · subst c6
      have H1 : (impl_ProgOk.j0 k (wrap64 ((l0_0.length : Int) - 1)) (a0_1 != (wrap64 ((l0_0.length : Int) - 1))) l0_0 a0_1) = some r := by rw [if_pos rfl] at H; exact H
      clear H
      have H := H1
      clear H1
      have H' := Aside0.mk H
      clear H
      obtain ⟨hcz7_0, hcz7_1, hfz7_0, hfz7_1⟩ := blk2 BK248.out
      go_wp2_with (first | ((with_reducible refine gate_callee (f := 49) rfl ?_); refine goesL_ (some 18) rfl rfl Tryd.func49 (by kernel_rfl) rfl #[.int .i64 (l0_0.length : Int), .int .i64 1, .int .i64 400] rfl (by (try simp only [List.map_toArray, List.map_cons, List.map_nil]); first | done | rfl | (simp only [List.length_drop, List.length_take]; rfl)) ?_; (with_reducible refine (impl_inRange.calls (l0_0.length : Int) 1 400 true _ A5.out).mono ?_); rintro e w' ⟨rfl, ⟨nd, rfl⟩⟩; refine ⟨_, rfl, ?_⟩))
      go_meet
      case rel => exact ⟨_, ((a0_1 != (wrap64 ((l0_0.length : Int) - 1)))), (by first | rfl | (simp; done) | (simp [*]; done) | (simp [*]; rw [Bool.eq_iff_iff]; simp; done)), H', ⟨by first | omega | exact Nat.le_refl _⟩, ⟨by (with_reducible repeat (first | refine blk_drewN ?_ _ | refine blk_drew ?_ | refine blk_alloc ?_ _)); exact BK248.out⟩, ⟨by repeat (first | (with_reducible first | exact HB.out | apply below_alloc | apply pw_below_drewN | apply below_drew1 | refine below_set ?_ GE248.out) | exact HB.out)⟩⟩
    · replace c6 := Bool.eq_false_iff.mpr c6
      subst c6
      have H1 : (impl_ProgOk.j0 k (wrap64 ((l0_0.length : Int) - 1)) true l0_0 a0_1) = some r := by rw [if_neg (show ¬ (false = true) by decide)] at H; exact H
      clear H
      have H := H1
      clear H1
      have H' := Aside0.mk H
      clear H
      obtain ⟨hcz8_0, hcz8_1, hfz8_0, hfz8_1⟩ := blk2 BK248.out
      go_wp2_with (first | ((with_reducible refine gate_callee (f := 49) rfl ?_); refine goesL_ (some 18) rfl rfl Tryd.func49 (by kernel_rfl) rfl #[.int .i64 (l0_0.length : Int), .int .i64 1, .int .i64 400] rfl (by (try simp only [List.map_toArray, List.map_cons, List.map_nil]); first | done | rfl | (simp only [List.length_drop, List.length_take]; rfl)) ?_; (with_reducible refine (impl_inRange.calls (l0_0.length : Int) 1 400 false _ A5.out).mono ?_); rintro e w' ⟨rfl, ⟨nd, rfl⟩⟩; refine ⟨_, rfl, ?_⟩))
      go_meet
      case rel => exact ⟨_, (true), (by first | rfl | (simp; done) | (simp [*]; done) | (simp [*]; rw [Bool.eq_iff_iff]; simp; done)), H', ⟨by first | omega | exact Nat.le_refl _⟩, ⟨by (with_reducible repeat (first | refine blk_drewN ?_ _ | refine blk_drew ?_ | refine blk_alloc ?_ _)); exact BK248.out⟩, ⟨by repeat (first | (with_reducible first | exact HB.out | apply below_alloc | apply pw_below_drewN | apply below_drew1 | refine below_set ?_ GE248.out) | exact HB.out)⟩⟩
  case rest =>
    clear HC2
    try clear p2
    try clear c4
    try clear c6
    try clear p6
    try clear hcz4_0
    try clear hcz4_1
    try clear hcz7_0
    try clear hcz7_1
    try clear hcz8_0
    try clear hcz8_1
    try clear hfz4_0
    try clear hfz4_1
    try clear hfz7_0
    try clear hfz7_1
    try clear hfz8_0
    try clear hfz8_1
    obtain ⟨kq, x25_1, rfl, HA, HJ1, BK248, HB⟩ := hcut
    cases kq with
    | zero => exact absurd HA.out (by simp [impl_ProgOk.j0])
    | succ kj1 =>
      have H := HA.out
      clear HA
      simp only [impl_ProgOk.j0] at H
      by_cases c9 : x25_1 = true
      · subst c9
        have H1 : (some false) = some r := by rw [if_pos rfl] at H; exact H
        clear H
        have H := H1
        clear H1
        obtain rfl := Option.some.inj H
        go_wp2
        go_ret
        exact ⟨by first | rfl | (simp [errW_none, errW_some] <;> rfl) | (simp [*, errW_none, errW_some] <;> rfl), by repeat (first | (with_reducible first | exact HB.out | apply below_alloc | apply pw_below_drewN | apply below_drew1 | refine below_set ?_ GE248.out) | exact HB.out)⟩
      · replace c9 := Bool.eq_false_iff.mpr c9
        subst c9
        have H1 : (if 0 ≤ (l0_0.length : Int) then (if ((l0_0.length : Int) : Int).toNat ≤ 35184372088832 then (impl_ProgOk.l0 kj1 (wrap64 ((l0_0.length : Int) - 1)) (List.replicate ((l0_0.length : Int) : Int).toNat 0) l0_0 (l0_0.length : Int) 0) else (none)) else (none)) = some r := by rw [if_neg (show ¬ (false = true) by decide)] at H; exact H
        clear H
        have H := H1
        clear H1
        by_cases c10 : 0 ≤ (l0_0.length : Int)
        · rw [if_pos c10] at H
          have c10b0 := eq_true c10
          have c10b1 : decide (0 ≤ (l0_0.length : Int)) = true := decide_eq_true c10
          clear c10
          by_cases c11 : ((l0_0.length : Int) : Int).toNat ≤ 35184372088832
          · rw [if_pos c11] at H
            have c11b0 := eq_true c11
            have c11b1 : decide (((l0_0.length : Int) : Int).toNat ≤ 35184372088832) = true := decide_eq_true c11
            clear c11
            obtain ⟨y250, hy250⟩ : ∃ y_ : List Int, y_ = (List.replicate ((l0_0.length : Int) : Int).toNat 0) := ⟨_, rfl⟩
            replace H : (impl_ProgOk.l0 kj1 (wrap64 ((l0_0.length : Int) - 1)) y250 l0_0 (l0_0.length : Int) 0) = some r := by first | (rw [hy250]; with_reducible exact H) | (have H2_ := (Option.bind_some _ _).symm.trans H; rw [hy250]; with_reducible exact H2_) | (have H2_ := (Option.bind_some _ _).symm.trans H; with_reducible exact H2_) | with_reducible exact H | (rw [hy250]; exact H) | exact H
            have Ny250 := Aside0.mk hy250
            clear hy250
            have H' := Aside0.mk H
            clear H
            obtain ⟨hcz12_0, hcz12_1, hfz12_0, hfz12_1⟩ := blk2 BK248.out
            go_wp2_with (first | ((with_reducible refine gate_dst (N := 29) rfl ?_); refine Kd.R_make (Kd.int .i64) _ 3 rfl (N := 29) rfl 50 _ _ rfl (l0_0.length : Int) rfl rfl Tryd.underlying50 (.int .i64 0) 8 info3 rfl (by decide) (by omega) 0 (ok := fun _ => True) (okp := fun _ => True) rfl (fun _ hk => hk) trivial (of_decide_eq_true (by first | (with_reducible assumption) | assumption)) (Nat.le_trans (Nat.mul_le_mul_right _ (of_decide_eq_true (by first | (with_reducible assumption) | assumption) : (l0_0.length : Int).toNat ≤ 35184372088832)) (by omega)) (Below.refl _ _) (Nat.le_refl _) ?_; intro v251 w13 ho14 hb hg_ hnew_; clear hg_ hnew_; (first | rw [← Ny250.out] at ho14 | (simp only [Int.reduceToNat] at ho14; rw [← Ny250.out] at ho14)); have n0_ := Aside0.mk (Kd.R_lower ho14 (below_size (by repeat (first | (with_reducible first | exact HB.out | apply below_alloc | apply pw_below_drewN | apply below_drew1 | refine below_set ?_ GE248.out) | exact HB.out)))); have n1_ := Aside0.mk (blk_below (g := gb248) (o := .cells #[.slice A0_0 l0_0.length c0_0, .int .i64 a0_1] 66 (0, 0)) (by (with_reducible repeat (first | refine blk_drewN ?_ _ | refine blk_drew ?_ | refine blk_alloc ?_ _)); exact BK248.out) hb); have n2_ := Aside0.mk (below_step (by repeat (first | (with_reducible first | exact HB.out | apply below_alloc | apply pw_below_drewN | apply below_drew1 | refine below_set ?_ GE248.out) | exact HB.out)) hb); clear BK248; clear HB; have HO252 := n0_; have BK248 := n1_; have HB := n2_; clear n0_ n1_ n2_; clear hb ho14; obtain ⟨hcz15_0, hcz15_1, hfz15_0, hfz15_1⟩ := blk2 BK248.out))
            go_loopg [33] kj1 (fun kq v33 w' => ∃ (x4_2 : List Int) (x33_2 : Int), v33 = .int .i64 x33_2 ∧ Aside0 (impl_ProgOk.l0 kq (wrap64 ((l0_0.length : Int) - 1)) x4_2 l0_0 (l0_0.length : Int) x33_2 = some r) ∧ Aside0 (kq ≤ kj1) ∧ Aside0 (Kd.R (Kd.int .i64) 3 w' w.heap.size (fun _ => True) v251 x4_2) ∧ Aside0 (w'.heap[gb248]? = some (.cells #[(.slice A0_0 l0_0.length c0_0), .int .i64 a0_1] 66 (0, 0))) ∧ Aside0 (Below w.heap.size w w'))
            case atStart => exact ⟨(y250), (0), (by first | rfl | (simp; done) | (simp [*]; done) | (simp [*]; rw [Bool.eq_iff_iff]; simp; done)), H', ⟨Nat.le_refl _⟩, ⟨by (with_reducible repeat (first | apply Kd.R_alloc | apply Kd.R_drewN | apply Kd.R_drew)); exact HO252.out⟩, ⟨by (with_reducible repeat (first | refine blk_drewN ?_ _ | refine blk_drew ?_ | refine blk_alloc ?_ _)); exact BK248.out⟩, ⟨by repeat (first | (with_reducible first | exact HB.out | apply below_alloc | apply pw_below_drewN | apply below_drew1 | refine below_set ?_ GE248.out) | exact HB.out)⟩⟩
            case round =>
              clear H'
              try clear c1
              try clear p2
              try clear c4
              try clear c6
              try clear p6
              try clear c9
              try clear c10
              try clear c10b0
              try clear c10b1
              try clear c11
              try clear c11b0
              try clear c11b1
              try clear hcz12_0
              try clear hcz12_1
              try clear hcz15_0
              try clear hcz15_1
              try clear hcz4_0
              try clear hcz4_1
              try clear hcz7_0
              try clear hcz7_1
              try clear hcz8_0
              try clear hcz8_1
              try clear hfz12_0
              try clear hfz12_1
              try clear hfz15_0
              try clear hfz15_1
              try clear hfz4_0
              try clear hfz4_1
              try clear hfz7_0
              try clear hfz7_1
              try clear hfz8_0
              try clear hfz8_1
              try clear p2
              try clear p6
              obtain ⟨x4_2, x33_2, rfl, HA, HK2, HO_4, BK248, HB⟩ := hrel
              cases gk with
              | zero => exact absurd HA.out (by simp [impl_ProgOk.l0])
              | succ k2 =>
                have H := HA.out
                clear HA
                simp only [impl_ProgOk.l0] at H
                by_cases c16 : x33_2 < (l0_0.length : Int)
                · rw [if_pos c16] at H
                  have c16b0 : decide (x33_2 < (l0_0.length : Int)) = true := decide_eq_true c16
                  clear c16
                  by_cases c17 : 0 ≤ x33_2
                  · rw [if_pos c17] at H
                    have c17b0 : decide (0 ≤ x33_2) = true := decide_eq_true c17
                    clear c17
                    by_cases c18 : x33_2 < (l0_0.length : Int)
                    · rw [if_pos c18] at H
                      have c18b0 : decide (x33_2 < (l0_0.length : Int)) = true := decide_eq_true c18
                      clear c18
                      replace H := Option.bind_eq_some_iff.mp H
                      obtain ⟨t255, A190, H⟩ := H
                      replace H : (if t255 = true then (impl_ProgOk.l1 k2 (wrap64 ((l0_0.length : Int) - 1)) x4_2 x33_2 l0_0 (l0_0.length : Int) x33_2 ((rd_T122 l0_0 x33_2).f4) (((rd_T122 l0_0 x33_2).f4).length : Int) 0) else (some false)) = some r := H
                      have A19 := Aside0.mk A190
                      clear A190
                      by_cases c20 : t255 = true
                      · subst c20
                        have H1 : (impl_ProgOk.l1 k2 (wrap64 ((l0_0.length : Int) - 1)) x4_2 x33_2 l0_0 (l0_0.length : Int) x33_2 ((rd_T122 l0_0 x33_2).f4) (((rd_T122 l0_0 x33_2).f4).length : Int) 0) = some r := by rw [if_pos rfl] at H; exact H
                        clear H
                        have H := H1
                        clear H1
                        have H' := Aside0.mk H
                        clear H
                        have p253 : 0 ≤ (x33_2 : Int) := of_decide_eq_true (by first | (with_reducible assumption) | assumption)
                        have q253 : x33_2 < (l0_0.length : Int) := of_decide_eq_true (by first | (with_reducible assumption) | assumption)
                        obtain ⟨ad253, A253_3, c253_3, A253_4, c253_4, e253, hx253_0, hx253_1, hx253_2, hx253_3, hx253_4, hl253_3, hi253_3, hl253_4, hi253_4⟩ := at_T122 HR0_0.out x33_2 p253 q253
                        cases e253
                        first | replace hx253_0 := (HB.out.cell (World.block_lt_of_cell? w _ hx253_0)).trans hx253_0 | skip
                        first | replace hx253_1 := (HB.out.cell (World.block_lt_of_cell? w _ hx253_1)).trans hx253_1 | skip
                        first | replace hx253_2 := (HB.out.cell (World.block_lt_of_cell? w _ hx253_2)).trans hx253_2 | skip
                        first | replace hx253_3 := (HB.out.cell (World.block_lt_of_cell? w _ hx253_3)).trans hx253_3 | skip
                        first | replace hx253_4 := (HB.out.cell (World.block_lt_of_cell? w _ hx253_4)).trans hx253_4 | skip
                        have HR253_3 := Aside0.mk hi253_3
                        have HC253_3 := Aside0.mk hl253_3
                        clear hi253_3 hl253_3
                        have HR253_4 := Aside0.mk hi253_4
                        have HC253_4 := Aside0.mk hl253_4
                        clear hi253_4 hl253_4
                        replace p253 := eq_true p253
                        replace q253 := eq_true q253
                        go_wp2_with (first | ((with_reducible refine gate_dst (N := 6) rfl ?_); refine box_event ?hg (N := 6) ?hd (cs := #[.int .i64 0, .int .i64 0, .string (⟨#[]⟩ : ByteArray), .slice none 0 0, .slice none 0 0]) (t := 122) ?hr ?_; (case hd => rfl); (case hg => rfl); (case hr => first | (go_simp; done) | (go_simp; rfl)); intro gb254 hg w21 hbox hb; have n0_ := Aside0.mk (Kd.R_below (by (with_reducible repeat (first | apply Kd.R_alloc | apply Kd.R_drewN | apply Kd.R_drew)); exact HO_4.out) hb); have n1_ := Aside0.mk (blk_below (g := gb248) (o := .cells #[.slice (some ad253) l0_0.length c0_0, .int .i64 a0_1] 66 (0, 0)) (by (with_reducible repeat (first | refine blk_drewN ?_ _ | refine blk_drew ?_ | refine blk_alloc ?_ _)); exact BK248.out) hb); have n2_ := Aside0.mk (below_step (by repeat (first | (with_reducible first | exact HB.out | apply below_alloc | apply pw_below_drewN | apply below_drew1 | refine below_set ?_ GE248.out) | exact HB.out)) hb); have n3_ := Aside0.mk (hbox); have n4_ := Aside0.mk ((by rw [hg]; exact (below_size (by repeat (first | (with_reducible first | exact HB.out | apply below_alloc | apply pw_below_drewN | apply below_drew1 | refine below_set ?_ GE248.out) | exact HB.out))) : w.heap.size ≤ gb254)); have n5_ := Aside0.mk ((by rw [hg]; exact (below_size (by repeat (first | (with_reducible first | exact HB.out | apply below_alloc | apply pw_below_drewN | apply below_drew1 | refine below_set ?_ GE248.out) | exact HB.out))) : w.heap.size ≤ gb254)); have n6_ := Aside0.mk ((by rw [hg]; exact Nat.ne_of_lt (blk_lt (g := gb248) (o := .cells #[.slice (some ad253) l0_0.length c0_0, .int .i64 a0_1] 66 (0, 0)) (by (with_reducible repeat (first | refine blk_drewN ?_ _ | refine blk_drew ?_ | refine blk_alloc ?_ _)); exact BK248.out)) : gb248 ≠ gb254)); have n7_ := Aside0.mk ((by rw [hg]; exact Nat.ne_of_gt (blk_lt (g := gb248) (o := .cells #[.slice (some ad253) l0_0.length c0_0, .int .i64 a0_1] 66 (0, 0)) (by (with_reducible repeat (first | refine blk_drewN ?_ _ | refine blk_drew ?_ | refine blk_alloc ?_ _)); exact BK248.out)) : gb254 ≠ gb248)); clear HO_4; clear BK248; clear HB; have HO_4 := n0_; have BK248 := n1_; have HB := n2_; have BK254 := n3_; have GW254 := n4_; have GE254 := n5_; have NB248_254 := n6_; have NB254_248 := n7_; clear n0_ n1_ n2_ n3_ n4_ n5_ n6_ n7_; clear hb hbox hg; have hnb22 := NB254_248.out; have hnc22 := NB248_254.out; obtain ⟨hcz23_0, hcz23_1, hcz23_2, hcz23_3, hcz23_4, hfz23_0, hfz23_1, hfz23_2, hfz23_3, hfz23_4⟩ := blk5 BK254.out) | ((with_reducible refine gate_callee (f := 90) rfl ?_); refine goesL_ (some 39) rfl rfl Tryd.func90 (by kernel_rfl) rfl #[.agg #[.int .i64 ((rd_T122 l0_0 x33_2).f0), .int .i64 ((rd_T122 l0_0 x33_2).f1), .string ((rd_T122 l0_0 x33_2).f2), .slice A253_3 ((rd_T122 l0_0 x33_2).f3).length c253_3, .slice A253_4 ((rd_T122 l0_0 x33_2).f4).length c253_4]] rfl (by (try simp only [List.map_toArray, List.map_cons, List.map_nil]); first | done | rfl | (simp only [List.length_drop, List.length_take]; rfl)) ?_; (with_reducible refine (impl_nodeOk.calls (hL := ?sideL) k2 ((rd_T122 l0_0 x33_2).f0) ((rd_T122 l0_0 x33_2).f1) ((rd_T122 l0_0 x33_2).f2) _ _ ((rd_T122 l0_0 x33_2).f3) _ _ ((rd_T122 l0_0 x33_2).f4) true _ ?side1 ?side2 ?side3 ?side4 A19.out).mono ?_); (case sideL => (first | exact HL.out | (refine Laid.below HL.out ?_; repeat (first | (with_reducible first | exact HB.out | exact Below.refl _ _ | apply below_alloc | apply pw_below_drewN | apply below_drew1) | exact HB.out | (refine below_set ?_ (Aside0.out (by assumption))))) | (refine Laid.drawn HL.out ?_; repeat (first | exact Drawn0.refl _ | apply Drawn0.step)))); (case side1 => exact Kd.C_below HR253_3.out (by repeat (first | (with_reducible first | exact HB.out | apply below_alloc | apply pw_below_drewN | apply below_drew1 | refine below_set ?_ GE248.out | refine below_set ?_ GE254.out) | exact HB.out))); (case side2 => exact HC253_3.out); (case side3 => exact Kd.C_below HR253_4.out (by repeat (first | (with_reducible first | exact HB.out | apply below_alloc | apply pw_below_drewN | apply below_drew1 | refine below_set ?_ GE248.out | refine below_set ?_ GE254.out) | exact HB.out))); (case side4 => exact HC253_4.out); rintro e w24 ⟨rfl, hb⟩; refine ⟨_, rfl, ?_⟩; have n0_ := Aside0.mk (Kd.R_below (by (with_reducible repeat (first | apply Kd.R_alloc | apply Kd.R_drewN | apply Kd.R_drew)); exact (Kd.R_mono (Kd.R_far (p := ⟨gb254, 4, none⟩) (Kd.R_far (p := ⟨gb254, 3, none⟩) (Kd.R_far (p := ⟨gb254, 2, none⟩) (Kd.R_far (p := ⟨gb254, 1, none⟩) (Kd.R_far (p := ⟨gb254, 0, none⟩) (Kd.R_types HO_4.out BK254.out (by decide)) (fun _ hk => hk.2) (.int .i64 ((rd_T122 l0_0 x33_2).f0))) (fun _ hk => hk.2) (.int .i64 ((rd_T122 l0_0 x33_2).f1))) (fun _ hk => hk.2) (.string ((rd_T122 l0_0 x33_2).f2))) (fun _ hk => hk.2) (.slice A253_3 ((rd_T122 l0_0 x33_2).f3).length c253_3)) (fun _ hk => hk.2) (.slice A253_4 ((rd_T122 l0_0 x33_2).f4).length c253_4)) (fun _ h_ => h_.1))) hb); have n1_ := Aside0.mk (blk_below (g := gb248) (o := .cells #[.slice (some ad253) l0_0.length c0_0, .int .i64 a0_1] 66 (0, 0)) (by (with_reducible repeat (first | refine blk_drewN ?_ _ | refine blk_drew ?_ | refine blk_alloc ?_ _)); refine blk_far ?_ NB248_254.out _; (with_reducible repeat (first | refine blk_drewN ?_ _ | refine blk_drew ?_ | refine blk_alloc ?_ _)); refine blk_far ?_ NB248_254.out _; (with_reducible repeat (first | refine blk_drewN ?_ _ | refine blk_drew ?_ | refine blk_alloc ?_ _)); refine blk_far ?_ NB248_254.out _; (with_reducible repeat (first | refine blk_drewN ?_ _ | refine blk_drew ?_ | refine blk_alloc ?_ _)); refine blk_far ?_ NB248_254.out _; (with_reducible repeat (first | refine blk_drewN ?_ _ | refine blk_drew ?_ | refine blk_alloc ?_ _)); refine blk_far ?_ NB248_254.out _; (with_reducible repeat (first | refine blk_drewN ?_ _ | refine blk_drew ?_ | refine blk_alloc ?_ _)); exact BK248.out) hb); have n2_ := Aside0.mk (blk_below (g := gb254) (o := .cells #[.int .i64 ((rd_T122 l0_0 x33_2).f0), .int .i64 ((rd_T122 l0_0 x33_2).f1), .string ((rd_T122 l0_0 x33_2).f2), .slice A253_3 ((rd_T122 l0_0 x33_2).f3).length c253_3, .slice A253_4 ((rd_T122 l0_0 x33_2).f4).length c253_4] 122 (0, 0)) (by (with_reducible repeat (first | refine blk_drewN ?_ _ | refine blk_drew ?_ | refine blk_alloc ?_ _)); refine blk_put (cs := #[.int .i64 ((rd_T122 l0_0 x33_2).f0), .int .i64 ((rd_T122 l0_0 x33_2).f1), .string ((rd_T122 l0_0 x33_2).f2), .slice A253_3 ((rd_T122 l0_0 x33_2).f3).length c253_3, .slice none 0 0]) ?_ 4 _ rfl; (with_reducible repeat (first | refine blk_drewN ?_ _ | refine blk_drew ?_ | refine blk_alloc ?_ _)); refine blk_put (cs := #[.int .i64 ((rd_T122 l0_0 x33_2).f0), .int .i64 ((rd_T122 l0_0 x33_2).f1), .string ((rd_T122 l0_0 x33_2).f2), .slice none 0 0, .slice none 0 0]) ?_ 3 _ rfl; (with_reducible repeat (first | refine blk_drewN ?_ _ | refine blk_drew ?_ | refine blk_alloc ?_ _)); refine blk_put (cs := #[.int .i64 ((rd_T122 l0_0 x33_2).f0), .int .i64 ((rd_T122 l0_0 x33_2).f1), .string (⟨#[]⟩ : ByteArray), .slice none 0 0, .slice none 0 0]) ?_ 2 _ rfl; (with_reducible repeat (first | refine blk_drewN ?_ _ | refine blk_drew ?_ | refine blk_alloc ?_ _)); refine blk_put (cs := #[.int .i64 ((rd_T122 l0_0 x33_2).f0), .int .i64 0, .string (⟨#[]⟩ : ByteArray), .slice none 0 0, .slice none 0 0]) ?_ 1 _ rfl; (with_reducible repeat (first | refine blk_drewN ?_ _ | refine blk_drew ?_ | refine blk_alloc ?_ _)); refine blk_put (cs := #[.int .i64 0, .int .i64 0, .string (⟨#[]⟩ : ByteArray), .slice none 0 0, .slice none 0 0]) ?_ 0 _ rfl; (with_reducible repeat (first | refine blk_drewN ?_ _ | refine blk_drew ?_ | refine blk_alloc ?_ _)); exact BK254.out) hb); have n3_ := Aside0.mk (below_step (by repeat (first | (with_reducible first | exact HB.out | apply below_alloc | apply pw_below_drewN | apply below_drew1 | refine below_set ?_ GE248.out | refine below_set ?_ GE254.out) | exact HB.out)) hb); clear HO_4; clear BK248; clear BK254; clear HB; have HO_4 := n0_; have BK248 := n1_; have BK254 := n2_; have HB := n3_; clear n0_ n1_ n2_ n3_; (try clear hb); (try clear hb2); (try clear hk); (try clear hi); obtain ⟨hcz25_0, hcz25_1, hcz25_2, hcz25_3, hcz25_4, hfz25_0, hfz25_1, hfz25_2, hfz25_3, hfz25_4⟩ := blk5 BK254.out))
                        go_loopg [44] k2 (fun kq v44 w' => ∃ (x4_3 : List Int) (x44_3 : Int), v44 = .int .i64 x44_3 ∧ Aside0 (impl_ProgOk.l1 kq (wrap64 ((l0_0.length : Int) - 1)) x4_3 x33_2 l0_0 (l0_0.length : Int) x33_2 ((rd_T122 l0_0 x33_2).f4) (((rd_T122 l0_0 x33_2).f4).length : Int) x44_3 = some r) ∧ Aside0 (kq ≤ k2) ∧ Aside0 (Kd.R (Kd.int .i64) 3 w' w.heap.size (fun _ => True) v251 x4_3) ∧ Aside0 (w'.heap[gb248]? = some (.cells #[(.slice (some ad253) l0_0.length c0_0), .int .i64 a0_1] 66 (0, 0))) ∧ Aside0 (w'.heap[gb254]? = some (.cells #[.int .i64 ((rd_T122 l0_0 x33_2).f0), .int .i64 ((rd_T122 l0_0 x33_2).f1), .string ((rd_T122 l0_0 x33_2).f2), (.slice A253_3 ((rd_T122 l0_0 x33_2).f3).length c253_3), (.slice A253_4 ((rd_T122 l0_0 x33_2).f4).length c253_4)] 122 (0, 0))) ∧ Aside0 (Below w.heap.size w w'))
                        case atStart => exact ⟨(x4_2), (0), (by first | rfl | (simp; done) | (simp [*]; done) | (simp [*]; rw [Bool.eq_iff_iff]; simp; done)), H', ⟨Nat.le_refl _⟩, ⟨by (with_reducible repeat (first | apply Kd.R_alloc | apply Kd.R_drewN | apply Kd.R_drew)); exact HO_4.out⟩, ⟨by (with_reducible repeat (first | refine blk_drewN ?_ _ | refine blk_drew ?_ | refine blk_alloc ?_ _)); exact BK248.out⟩, ⟨by (with_reducible repeat (first | refine blk_drewN ?_ _ | refine blk_drew ?_ | refine blk_alloc ?_ _)); exact BK254.out⟩, ⟨by repeat (first | (with_reducible first | exact HB.out | apply below_alloc | apply pw_below_drewN | apply below_drew1 | refine below_set ?_ GE248.out | refine below_set ?_ GE254.out) | exact HB.out)⟩⟩
                        case round =>
                          clear H'
                          try clear c1
                          try clear c2
                          try clear p2
                          try clear q2
                          try clear hx2
                          try clear c4
                          try clear c6
                          try clear p6
                          try clear c9
                          try clear c10
                          try clear c10b0
                          try clear c10b1
                          try clear c11
                          try clear c11b0
                          try clear c11b1
                          try clear c16
                          try clear c16b0
                          try clear c17
                          try clear c17b0
                          try clear c18
                          try clear c18b0
                          try clear c20
                          try clear c22
                          try clear c25
                          try clear p25
                          try clear q25
                          try clear hx25
                          try clear hcz12_0
                          try clear hcz12_1
                          try clear hcz15_0
                          try clear hcz15_1
                          try clear hcz23_0
                          try clear hcz23_1
                          try clear hcz23_2
                          try clear hcz23_3
                          try clear hcz23_4
                          try clear hcz25_0
                          try clear hcz25_1
                          try clear hcz25_2
                          try clear hcz25_3
                          try clear hcz25_4
                          try clear hcz4_0
                          try clear hcz4_1
                          try clear hcz7_0
                          try clear hcz7_1
                          try clear hcz8_0
                          try clear hcz8_1
                          try clear hfz12_0
                          try clear hfz12_1
                          try clear hfz15_0
                          try clear hfz15_1
                          try clear hfz23_0
                          try clear hfz23_1
                          try clear hfz23_2
                          try clear hfz23_3
                          try clear hfz23_4
                          try clear hfz25_0
                          try clear hfz25_1
                          try clear hfz25_2
                          try clear hfz25_3
                          try clear hfz25_4
                          try clear hfz4_0
                          try clear hfz4_1
                          try clear hfz7_0
                          try clear hfz7_1
                          try clear hfz8_0
                          try clear hfz8_1
                          try clear hx253_0
                          try clear hx253_1
                          try clear hx253_2
                          try clear hx253_3
                          try clear hx253_4
                          try clear p2
                          try clear p253
                          try clear p6
                          try clear q253
                          obtain ⟨x4_3, x44_3, rfl, HA, HK3, HO_4, BK248, BK254, HB⟩ := hrel
                          cases gk with
                          | zero => exact absurd HA.out (by simp [impl_ProgOk.l1])
                          | succ k3 =>
                            have H := HA.out
                            clear HA
                            simp only [impl_ProgOk.l1] at H
                            by_cases c26 : x44_3 < (((rd_T122 l0_0 x33_2).f4).length : Int)
                            · rw [if_pos c26] at H
                              have c26b0 : decide (x44_3 < (((rd_T122 l0_0 x33_2).f4).length : Int)) = true := decide_eq_true c26
                              clear c26
                              by_cases c27 : 0 ≤ x44_3
                              · rw [if_pos c27] at H
                                have c27b0 : decide (0 ≤ x44_3) = true := decide_eq_true c27
                                clear c27
                                by_cases c28 : x44_3 < (((rd_T122 l0_0 x33_2).f4).length : Int)
                                · rw [if_pos c28] at H
                                  have c28b0 : decide (x44_3 < (((rd_T122 l0_0 x33_2).f4).length : Int)) = true := decide_eq_true c28
                                  clear c28
                                  replace H := Option.bind_eq_some_iff.mp H
                                  obtain ⟨t257, A290, H⟩ := H
                                  replace H : (if t257 = true then (if 0 ≤ (rd ((rd_T122 l0_0 x33_2).f4) x44_3) then (if (rd ((rd_T122 l0_0 x33_2).f4) x44_3) < (x4_3.length : Int) then (impl_ProgOk.l1 k3 (wrap64 ((l0_0.length : Int) - 1)) (x4_3.set ((rd ((rd_T122 l0_0 x33_2).f4) x44_3) : Int).toNat (wrap64 ((rd x4_3 (rd ((rd_T122 l0_0 x33_2).f4) x44_3)) + 1))) x33_2 l0_0 (l0_0.length : Int) x33_2 ((rd_T122 l0_0 x33_2).f4) (((rd_T122 l0_0 x33_2).f4).length : Int) (wrap64 (x44_3 + 1))) else (none)) else (none)) else (some false)) = some r := H
                                  have A29 := Aside0.mk A290
                                  clear A290
                                  by_cases c30 : t257 = true
                                  · subst c30
                                    have H1 : (if 0 ≤ (rd ((rd_T122 l0_0 x33_2).f4) x44_3) then (if (rd ((rd_T122 l0_0 x33_2).f4) x44_3) < (x4_3.length : Int) then (impl_ProgOk.l1 k3 (wrap64 ((l0_0.length : Int) - 1)) (x4_3.set ((rd ((rd_T122 l0_0 x33_2).f4) x44_3) : Int).toNat (wrap64 ((rd x4_3 (rd ((rd_T122 l0_0 x33_2).f4) x44_3)) + 1))) x33_2 l0_0 (l0_0.length : Int) x33_2 ((rd_T122 l0_0 x33_2).f4) (((rd_T122 l0_0 x33_2).f4).length : Int) (wrap64 (x44_3 + 1))) else (none)) else (none)) = some r := by rw [if_pos rfl] at H; exact H
                                    clear H
                                    have H := H1
                                    clear H1
                                    by_cases c31 : 0 ≤ (rd ((rd_T122 l0_0 x33_2).f4) x44_3)
                                    · rw [if_pos c31] at H
                                      have c31b0 : decide (0 ≤ (rd ((rd_T122 l0_0 x33_2).f4) x44_3)) = true := decide_eq_true c31
                                      clear c31
                                      by_cases c32 : (rd ((rd_T122 l0_0 x33_2).f4) x44_3) < (x4_3.length : Int)
                                      · rw [if_pos c32] at H
                                        have c32b0 : decide ((rd ((rd_T122 l0_0 x33_2).f4) x44_3) < (x4_3.length : Int)) = true := decide_eq_true c32
                                        clear c32
                                        obtain ⟨y259, hy259⟩ : ∃ y_ : List Int, y_ = (x4_3.set ((rd ((rd_T122 l0_0 x33_2).f4) x44_3) : Int).toNat (wrap64 ((rd x4_3 (rd ((rd_T122 l0_0 x33_2).f4) x44_3)) + 1))) := ⟨_, rfl⟩
                                        replace H : (impl_ProgOk.l1 k3 (wrap64 ((l0_0.length : Int) - 1)) y259 x33_2 l0_0 (l0_0.length : Int) x33_2 ((rd_T122 l0_0 x33_2).f4) (((rd_T122 l0_0 x33_2).f4).length : Int) (wrap64 (x44_3 + 1))) = some r := by first | (rw [hy259]; with_reducible exact H) | (have H2_ := (Option.bind_some _ _).symm.trans H; rw [hy259]; with_reducible exact H2_) | (have H2_ := (Option.bind_some _ _).symm.trans H; with_reducible exact H2_) | with_reducible exact H | (rw [hy259]; exact H) | exact H
                                        have Ny259 := Aside0.mk hy259
                                        clear hy259
                                        have H' := Aside0.mk H
                                        clear H
                                        have p256 : 0 ≤ (x44_3 : Int) := of_decide_eq_true (by first | (with_reducible assumption) | assumption)
                                        have q256 : x44_3 < (((rd_T122 l0_0 x33_2).f4).length : Int) := of_decide_eq_true (by first | (with_reducible assumption) | assumption)
                                        obtain ⟨ad256, e256, hx256_0⟩ := Kd.at_int HR253_4.out x44_3 p256 q256
                                        cases e256
                                        first | replace hx256_0 := (HB.out.cell (World.block_lt_of_cell? w _ hx256_0)).trans hx256_0 | skip
                                        replace p256 := eq_true p256
                                        replace q256 := eq_true q256
                                        go_wp2_with (first | ((with_reducible refine gate_callee (f := 49) rfl ?_); refine goesL_ (some 51) rfl rfl Tryd.func49 (by kernel_rfl) rfl #[.int .i64 (rd ((rd_T122 l0_0 x33_2).f4) x44_3), .int .i64 0, .int .i64 (wrap64 (x33_2 - 1))] rfl (by (try simp only [List.map_toArray, List.map_cons, List.map_nil]); first | done | rfl | (simp only [List.length_drop, List.length_take]; rfl)) ?_; (with_reducible refine (impl_inRange.calls (rd ((rd_T122 l0_0 x33_2).f4) x44_3) 0 (wrap64 (x33_2 - 1)) true _ A29.out).mono ?_); rintro e w' ⟨rfl, ⟨nd, rfl⟩⟩; refine ⟨_, rfl, ?_⟩; (try (rw [drewN_self wr]; generalize hq_ : World.drewN wr _ = wr; have n0_ : Aside0 (Kd.R (Kd.int .i64) 3 wr w.heap.size (fun _ => True) v251 x4_3) := ⟨by rw [← hq_]; exact (by (with_reducible repeat (first | apply Kd.R_alloc | apply Kd.R_drewN | apply Kd.R_drew)); exact HO_4.out)⟩; have n1_ : Aside0 (wr.heap[gb248]? = some (.cells #[.slice (some ad253) l0_0.length c0_0, .int .i64 a0_1] 66 (0, 0))) := ⟨by rw [← hq_]; exact (by (with_reducible repeat (first | refine blk_drewN ?_ _ | refine blk_drew ?_ | refine blk_alloc ?_ _)); exact BK248.out)⟩; have n2_ : Aside0 (wr.heap[gb254]? = some (.cells #[.int .i64 ((rd_T122 l0_0 x33_2).f0), .int .i64 ((rd_T122 l0_0 x33_2).f1), .string ((rd_T122 l0_0 x33_2).f2), .slice A253_3 ((rd_T122 l0_0 x33_2).f3).length c253_3, .slice (some ad256) ((rd_T122 l0_0 x33_2).f4).length c253_4] 122 (0, 0))) := ⟨by rw [← hq_]; exact (by (with_reducible repeat (first | refine blk_drewN ?_ _ | refine blk_drew ?_ | refine blk_alloc ?_ _)); exact BK254.out)⟩; have n3_ : Aside0 (Below w.heap.size w wr) := ⟨by rw [← hq_]; exact (by repeat (first | (with_reducible first | exact HB.out | apply below_alloc | apply pw_below_drewN | apply below_drew1 | refine below_set ?_ GE248.out | refine below_set ?_ GE254.out) | exact HB.out))⟩; clear HO_4 BK248 BK254 HB hq_; have HO_4 := n0_; have BK248 := n1_; have BK254 := n2_; have HB := n3_; clear n0_ n1_ n2_ n3_)); obtain ⟨Ao34, co34, eo34⟩ := Kd.R_slice HO_4.out; subst eo34; have p258 : 0 ≤ ((rd ((rd_T122 l0_0 x33_2).f4) x44_3) : Int) := of_decide_eq_true (by first | (with_reducible assumption) | assumption); have q258 : (rd ((rd_T122 l0_0 x33_2).f4) x44_3) < (x4_3.length : Int) := of_decide_eq_true (by first | (with_reducible assumption) | assumption); obtain ⟨ad258, e258, hx258_0⟩ := Kd.at_int (Kd.R_reads' HO_4.out).2.2 (rd ((rd_T122 l0_0 x33_2).f4) x44_3) p258 q258; cases e258; replace p258 := eq_true p258; replace q258 := eq_true q258; have p33 : 0 ≤ ((rd ((rd_T122 l0_0 x33_2).f4) x44_3) : Int) := of_decide_eq_true (by first | (with_reducible assumption) | assumption); have q33 : ((rd ((rd_T122 l0_0 x33_2).f4) x44_3) : Int) < ((x4_3.length : Int) : Int) := of_decide_eq_true (by first | (with_reducible assumption) | assumption); obtain ⟨go33, co33, eo33, gb33, gl33, cl33, HG33⟩ := Kd.R_form HO_4.out (by omega); (first | cases eo33 | (injection eo33 with ea_ en_ ec_; (first | subst ea_ | (injection ea_ with ea_; subst ea_)); subst ec_; clear en_)); have GB33 := Aside0.mk gb33; have GG33 := Aside0.mk HG33; clear gb33 gl33 HG33; (first | simp only [add_plain] at hx258_0 | skip); obtain ⟨hx33_0, hf33_0⟩ := Kd.R_celln 0 HO_4.out ((rd ((rd_T122 l0_0 x33_2).f4) x44_3) : Int) p33 q33; replace p33 := eq_true p33; replace q33 := eq_true q33; obtain ⟨hy35_, hz35_⟩ := Kd.R_celln 0 HO_4.out ((rd ((rd_T122 l0_0 x33_2).f4) x44_3) : Int) (of_decide_eq_true (by first | (with_reducible assumption) | assumption)) (of_decide_eq_true (by first | (with_reducible assumption) | assumption)); have HP35 := Kd.R_putg HO_4.out ((rd ((rd_T122 l0_0 x33_2).f4) x44_3) : Int) (wrap64 ((rd x4_3 (rd ((rd_T122 l0_0 x33_2).f4) x44_3)) + 1))) | ((with_reducible refine gate_store (t := 3) (p := 58) rfl ?_); refine store_event (t := 3) (p := 58) (v := ?vo_w36) (w1 := (wr.setCell ⟨go33, ((rd ((rd_T122 l0_0 x33_2).f4) x44_3) : Int).toNat, none⟩ (.int .i64 (wrap64 ((rd x4_3 (rd ((rd_T122 l0_0 x33_2).f4) x44_3)) + 1))))) ?hg ?ho ?hn ?hr ?_; (case ho => rfl); (case hg => rfl); (case hn => rfl); (case hr => first | (go_simp; done) | (go_simp; rfl)); intro w36 hw; have hg : wr.grownBy w36 (some go33) := (by rw [hw]; exact HP35.2); have hp_ : Kd.R (Kd.int .i64) 3 w36 w.heap.size (fun _ => True) (.slice (some ⟨go33, 0, none⟩) x4_3.length co34) y259 := (by rw [hw, Ny259.out]; exact HP35.1); clear HP35; have n0_ := Aside0.mk (hp_); have n1_ := Aside0.mk (blk_grown (g := gb248) (o := .cells #[.slice (some ad253) l0_0.length c0_0, .int .i64 a0_1] 66 (0, 0)) (by (with_reducible repeat (first | refine blk_drewN ?_ _ | refine blk_drew ?_ | refine blk_alloc ?_ _)); exact BK248.out) hg (Kd.R_ne HO_4.out BK248.out (by decide))); have n2_ := Aside0.mk (blk_grown (g := gb254) (o := .cells #[.int .i64 ((rd_T122 l0_0 x33_2).f0), .int .i64 ((rd_T122 l0_0 x33_2).f1), .string ((rd_T122 l0_0 x33_2).f2), .slice A253_3 ((rd_T122 l0_0 x33_2).f3).length c253_3, .slice (some ad256) ((rd_T122 l0_0 x33_2).f4).length c253_4] 122 (0, 0)) (by (with_reducible repeat (first | refine blk_drewN ?_ _ | refine blk_drew ?_ | refine blk_alloc ?_ _)); exact BK254.out) hg (Kd.R_ne HO_4.out BK254.out (by decide))); have n3_ := Aside0.mk ((by rw [hw]; exact below_set (HB.out) GB33.out : Below w.heap.size w w36)); clear HO_4; clear BK248; clear BK254; clear HB; have HO_4 := n0_; have BK248 := n1_; have BK254 := n2_; have HB := n3_; clear n0_ n1_ n2_ n3_; clear hg hw hp_))
                                        go_roundg k3
                                        case measure => have := HJ1.out; have := HK2.out; have := HK3.out; omega
                                        case rel => exact ⟨(y259), (wrap64 (x44_3 + 1)), (by first | rfl | (simp; done) | (simp [*]; done) | (simp [*]; rw [Bool.eq_iff_iff]; simp; done)), H', ⟨by have := HJ1.out; have := HK2.out; have := HK3.out; omega⟩, ⟨by (with_reducible repeat (first | apply Kd.R_alloc | apply Kd.R_drewN | apply Kd.R_drew)); exact HO_4.out⟩, ⟨by (with_reducible repeat (first | refine blk_drewN ?_ _ | refine blk_drew ?_ | refine blk_alloc ?_ _)); exact BK248.out⟩, ⟨by (with_reducible repeat (first | refine blk_drewN ?_ _ | refine blk_drew ?_ | refine blk_alloc ?_ _)); exact BK254.out⟩, ⟨by repeat (first | (with_reducible first | exact HB.out | apply below_alloc | apply pw_below_drewN | apply below_drew1 | refine below_set ?_ GE248.out | refine below_set ?_ GE254.out) | exact HB.out)⟩⟩
                                      · rw [if_neg c32] at H
                                        exact absurd H (by simp)
                                    · rw [if_neg c31] at H
                                      exact absurd H (by simp)
                                  · replace c30 := Bool.eq_false_iff.mpr c30
                                    subst c30
                                    have H1 : (some false) = some r := by rw [if_neg (show ¬ (false = true) by decide)] at H; exact H
                                    clear H
                                    have H := H1
                                    clear H1
                                    obtain rfl := Option.some.inj H
                                    have p256 : 0 ≤ (x44_3 : Int) := of_decide_eq_true (by first | (with_reducible assumption) | assumption)
                                    have q256 : x44_3 < (((rd_T122 l0_0 x33_2).f4).length : Int) := of_decide_eq_true (by first | (with_reducible assumption) | assumption)
                                    obtain ⟨ad256, e256, hx256_0⟩ := Kd.at_int HR253_4.out x44_3 p256 q256
                                    cases e256
                                    first | replace hx256_0 := (HB.out.cell (World.block_lt_of_cell? w _ hx256_0)).trans hx256_0 | skip
                                    replace p256 := eq_true p256
                                    replace q256 := eq_true q256
                                    go_wp2_with (first | ((with_reducible refine gate_callee (f := 49) rfl ?_); refine goesL_ (some 51) rfl rfl Tryd.func49 (by kernel_rfl) rfl #[.int .i64 (rd ((rd_T122 l0_0 x33_2).f4) x44_3), .int .i64 0, .int .i64 (wrap64 (x33_2 - 1))] rfl (by (try simp only [List.map_toArray, List.map_cons, List.map_nil]); first | done | rfl | (simp only [List.length_drop, List.length_take]; rfl)) ?_; (with_reducible refine (impl_inRange.calls (rd ((rd_T122 l0_0 x33_2).f4) x44_3) 0 (wrap64 (x33_2 - 1)) false _ A29.out).mono ?_); rintro e w' ⟨rfl, ⟨nd, rfl⟩⟩; refine ⟨_, rfl, ?_⟩))
                                    go_ret
                                    exact ⟨by first | rfl | (simp [errW_none, errW_some] <;> rfl) | (simp [*, errW_none, errW_some] <;> rfl), by repeat (first | (with_reducible first | exact HB.out | apply below_alloc | apply pw_below_drewN | apply below_drew1 | refine below_set ?_ GE248.out | refine below_set ?_ GE254.out) | exact HB.out)⟩
                                · rw [if_neg c28] at H
                                  exact absurd H (by simp)
                              · rw [if_neg c27] at H
                                exact absurd H (by simp)
                            · rw [if_neg c26] at H
                              have c26b0 : decide (x44_3 < (((rd_T122 l0_0 x33_2).f4).length : Int)) = false := decide_eq_false c26
                              clear c26
                              have H' := Aside0.mk H
                              clear H
                              go_wp2
                              go_roundg k3
                              case measure => have := HJ1.out; have := HK2.out; have := HK3.out; omega
                              case rel => exact ⟨(x4_3), (wrap64 (x33_2 + 1)), (by first | rfl | (simp; done) | (simp [*]; done) | (simp [*]; rw [Bool.eq_iff_iff]; simp; done)), H', ⟨by have := HJ1.out; have := HK2.out; have := HK3.out; omega⟩, ⟨by (with_reducible repeat (first | apply Kd.R_alloc | apply Kd.R_drewN | apply Kd.R_drew)); exact HO_4.out⟩, ⟨by (with_reducible repeat (first | refine blk_drewN ?_ _ | refine blk_drew ?_ | refine blk_alloc ?_ _)); exact BK248.out⟩, ⟨by repeat (first | (with_reducible first | exact HB.out | apply below_alloc | apply pw_below_drewN | apply below_drew1 | refine below_set ?_ GE248.out | refine below_set ?_ GE254.out) | exact HB.out)⟩⟩
                      · replace c20 := Bool.eq_false_iff.mpr c20
                        subst c20
                        have H1 : (some false) = some r := by rw [if_neg (show ¬ (false = true) by decide)] at H; exact H
                        clear H
                        have H := H1
                        clear H1
                        obtain rfl := Option.some.inj H
                        have p253 : 0 ≤ (x33_2 : Int) := of_decide_eq_true (by first | (with_reducible assumption) | assumption)
                        have q253 : x33_2 < (l0_0.length : Int) := of_decide_eq_true (by first | (with_reducible assumption) | assumption)
                        obtain ⟨ad253, A253_3, c253_3, A253_4, c253_4, e253, hx253_0, hx253_1, hx253_2, hx253_3, hx253_4, hl253_3, hi253_3, hl253_4, hi253_4⟩ := at_T122 HR0_0.out x33_2 p253 q253
                        cases e253
                        first | replace hx253_0 := (HB.out.cell (World.block_lt_of_cell? w _ hx253_0)).trans hx253_0 | skip
                        first | replace hx253_1 := (HB.out.cell (World.block_lt_of_cell? w _ hx253_1)).trans hx253_1 | skip
                        first | replace hx253_2 := (HB.out.cell (World.block_lt_of_cell? w _ hx253_2)).trans hx253_2 | skip
                        first | replace hx253_3 := (HB.out.cell (World.block_lt_of_cell? w _ hx253_3)).trans hx253_3 | skip
                        first | replace hx253_4 := (HB.out.cell (World.block_lt_of_cell? w _ hx253_4)).trans hx253_4 | skip
                        have HR253_3 := Aside0.mk hi253_3
                        have HC253_3 := Aside0.mk hl253_3
                        clear hi253_3 hl253_3
                        have HR253_4 := Aside0.mk hi253_4
                        have HC253_4 := Aside0.mk hl253_4
                        clear hi253_4 hl253_4
                        replace p253 := eq_true p253
                        replace q253 := eq_true q253
                        go_wp2_with (first | ((with_reducible refine gate_dst (N := 6) rfl ?_); refine box_event ?hg (N := 6) ?hd (cs := #[.int .i64 0, .int .i64 0, .string (⟨#[]⟩ : ByteArray), .slice none 0 0, .slice none 0 0]) (t := 122) ?hr ?_; (case hd => rfl); (case hg => rfl); (case hr => first | (go_simp; done) | (go_simp; rfl)); intro gb254 hg w37 hbox hb; have n0_ := Aside0.mk (Kd.R_below (by (with_reducible repeat (first | apply Kd.R_alloc | apply Kd.R_drewN | apply Kd.R_drew)); exact HO_4.out) hb); have n1_ := Aside0.mk (blk_below (g := gb248) (o := .cells #[.slice (some ad253) l0_0.length c0_0, .int .i64 a0_1] 66 (0, 0)) (by (with_reducible repeat (first | refine blk_drewN ?_ _ | refine blk_drew ?_ | refine blk_alloc ?_ _)); exact BK248.out) hb); have n2_ := Aside0.mk (below_step (by repeat (first | (with_reducible first | exact HB.out | apply below_alloc | apply pw_below_drewN | apply below_drew1 | refine below_set ?_ GE248.out) | exact HB.out)) hb); have n3_ := Aside0.mk (hbox); have n4_ := Aside0.mk ((by rw [hg]; exact (below_size (by repeat (first | (with_reducible first | exact HB.out | apply below_alloc | apply pw_below_drewN | apply below_drew1 | refine below_set ?_ GE248.out) | exact HB.out))) : w.heap.size ≤ gb254)); have n5_ := Aside0.mk ((by rw [hg]; exact (below_size (by repeat (first | (with_reducible first | exact HB.out | apply below_alloc | apply pw_below_drewN | apply below_drew1 | refine below_set ?_ GE248.out) | exact HB.out))) : w.heap.size ≤ gb254)); have n6_ := Aside0.mk ((by rw [hg]; exact Nat.ne_of_lt (blk_lt (g := gb248) (o := .cells #[.slice (some ad253) l0_0.length c0_0, .int .i64 a0_1] 66 (0, 0)) (by (with_reducible repeat (first | refine blk_drewN ?_ _ | refine blk_drew ?_ | refine blk_alloc ?_ _)); exact BK248.out)) : gb248 ≠ gb254)); have n7_ := Aside0.mk ((by rw [hg]; exact Nat.ne_of_gt (blk_lt (g := gb248) (o := .cells #[.slice (some ad253) l0_0.length c0_0, .int .i64 a0_1] 66 (0, 0)) (by (with_reducible repeat (first | refine blk_drewN ?_ _ | refine blk_drew ?_ | refine blk_alloc ?_ _)); exact BK248.out)) : gb254 ≠ gb248)); clear HO_4; clear BK248; clear HB; have HO_4 := n0_; have BK248 := n1_; have HB := n2_; have BK254 := n3_; have GW254 := n4_; have GE254 := n5_; have NB248_254 := n6_; have NB254_248 := n7_; clear n0_ n1_ n2_ n3_ n4_ n5_ n6_ n7_; clear hb hbox hg; have hnb38 := NB254_248.out; have hnc38 := NB248_254.out; obtain ⟨hcz39_0, hcz39_1, hcz39_2, hcz39_3, hcz39_4, hfz39_0, hfz39_1, hfz39_2, hfz39_3, hfz39_4⟩ := blk5 BK254.out) | ((with_reducible refine gate_callee (f := 90) rfl ?_); refine goesL_ (some 39) rfl rfl Tryd.func90 (by kernel_rfl) rfl #[.agg #[.int .i64 ((rd_T122 l0_0 x33_2).f0), .int .i64 ((rd_T122 l0_0 x33_2).f1), .string ((rd_T122 l0_0 x33_2).f2), .slice A253_3 ((rd_T122 l0_0 x33_2).f3).length c253_3, .slice A253_4 ((rd_T122 l0_0 x33_2).f4).length c253_4]] rfl (by (try simp only [List.map_toArray, List.map_cons, List.map_nil]); first | done | rfl | (simp only [List.length_drop, List.length_take]; rfl)) ?_; (with_reducible refine (impl_nodeOk.calls (hL := ?sideL) k2 ((rd_T122 l0_0 x33_2).f0) ((rd_T122 l0_0 x33_2).f1) ((rd_T122 l0_0 x33_2).f2) _ _ ((rd_T122 l0_0 x33_2).f3) _ _ ((rd_T122 l0_0 x33_2).f4) false _ ?side1 ?side2 ?side3 ?side4 A19.out).mono ?_); (case sideL => (first | exact HL.out | (refine Laid.below HL.out ?_; repeat (first | (with_reducible first | exact HB.out | exact Below.refl _ _ | apply below_alloc | apply pw_below_drewN | apply below_drew1) | exact HB.out | (refine below_set ?_ (Aside0.out (by assumption))))) | (refine Laid.drawn HL.out ?_; repeat (first | exact Drawn0.refl _ | apply Drawn0.step)))); (case side1 => exact Kd.C_below HR253_3.out (by repeat (first | (with_reducible first | exact HB.out | apply below_alloc | apply pw_below_drewN | apply below_drew1 | refine below_set ?_ GE248.out | refine below_set ?_ GE254.out) | exact HB.out))); (case side2 => exact HC253_3.out); (case side3 => exact Kd.C_below HR253_4.out (by repeat (first | (with_reducible first | exact HB.out | apply below_alloc | apply pw_below_drewN | apply below_drew1 | refine below_set ?_ GE248.out | refine below_set ?_ GE254.out) | exact HB.out))); (case side4 => exact HC253_4.out); rintro e w40 ⟨rfl, hb⟩; refine ⟨_, rfl, ?_⟩; have n0_ := Aside0.mk (Kd.R_below (by (with_reducible repeat (first | apply Kd.R_alloc | apply Kd.R_drewN | apply Kd.R_drew)); exact (Kd.R_mono (Kd.R_far (p := ⟨gb254, 4, none⟩) (Kd.R_far (p := ⟨gb254, 3, none⟩) (Kd.R_far (p := ⟨gb254, 2, none⟩) (Kd.R_far (p := ⟨gb254, 1, none⟩) (Kd.R_far (p := ⟨gb254, 0, none⟩) (Kd.R_types HO_4.out BK254.out (by decide)) (fun _ hk => hk.2) (.int .i64 ((rd_T122 l0_0 x33_2).f0))) (fun _ hk => hk.2) (.int .i64 ((rd_T122 l0_0 x33_2).f1))) (fun _ hk => hk.2) (.string ((rd_T122 l0_0 x33_2).f2))) (fun _ hk => hk.2) (.slice A253_3 ((rd_T122 l0_0 x33_2).f3).length c253_3)) (fun _ hk => hk.2) (.slice A253_4 ((rd_T122 l0_0 x33_2).f4).length c253_4)) (fun _ h_ => h_.1))) hb); have n1_ := Aside0.mk (blk_below (g := gb248) (o := .cells #[.slice (some ad253) l0_0.length c0_0, .int .i64 a0_1] 66 (0, 0)) (by (with_reducible repeat (first | refine blk_drewN ?_ _ | refine blk_drew ?_ | refine blk_alloc ?_ _)); refine blk_far ?_ NB248_254.out _; (with_reducible repeat (first | refine blk_drewN ?_ _ | refine blk_drew ?_ | refine blk_alloc ?_ _)); refine blk_far ?_ NB248_254.out _; (with_reducible repeat (first | refine blk_drewN ?_ _ | refine blk_drew ?_ | refine blk_alloc ?_ _)); refine blk_far ?_ NB248_254.out _; (with_reducible repeat (first | refine blk_drewN ?_ _ | refine blk_drew ?_ | refine blk_alloc ?_ _)); refine blk_far ?_ NB248_254.out _; (with_reducible repeat (first | refine blk_drewN ?_ _ | refine blk_drew ?_ | refine blk_alloc ?_ _)); refine blk_far ?_ NB248_254.out _; (with_reducible repeat (first | refine blk_drewN ?_ _ | refine blk_drew ?_ | refine blk_alloc ?_ _)); exact BK248.out) hb); have n2_ := Aside0.mk (blk_below (g := gb254) (o := .cells #[.int .i64 ((rd_T122 l0_0 x33_2).f0), .int .i64 ((rd_T122 l0_0 x33_2).f1), .string ((rd_T122 l0_0 x33_2).f2), .slice A253_3 ((rd_T122 l0_0 x33_2).f3).length c253_3, .slice A253_4 ((rd_T122 l0_0 x33_2).f4).length c253_4] 122 (0, 0)) (by (with_reducible repeat (first | refine blk_drewN ?_ _ | refine blk_drew ?_ | refine blk_alloc ?_ _)); refine blk_put (cs := #[.int .i64 ((rd_T122 l0_0 x33_2).f0), .int .i64 ((rd_T122 l0_0 x33_2).f1), .string ((rd_T122 l0_0 x33_2).f2), .slice A253_3 ((rd_T122 l0_0 x33_2).f3).length c253_3, .slice none 0 0]) ?_ 4 _ rfl; (with_reducible repeat (first | refine blk_drewN ?_ _ | refine blk_drew ?_ | refine blk_alloc ?_ _)); refine blk_put (cs := #[.int .i64 ((rd_T122 l0_0 x33_2).f0), .int .i64 ((rd_T122 l0_0 x33_2).f1), .string ((rd_T122 l0_0 x33_2).f2), .slice none 0 0, .slice none 0 0]) ?_ 3 _ rfl; (with_reducible repeat (first | refine blk_drewN ?_ _ | refine blk_drew ?_ | refine blk_alloc ?_ _)); refine blk_put (cs := #[.int .i64 ((rd_T122 l0_0 x33_2).f0), .int .i64 ((rd_T122 l0_0 x33_2).f1), .string (⟨#[]⟩ : ByteArray), .slice none 0 0, .slice none 0 0]) ?_ 2 _ rfl; (with_reducible repeat (first | refine blk_drewN ?_ _ | refine blk_drew ?_ | refine blk_alloc ?_ _)); refine blk_put (cs := #[.int .i64 ((rd_T122 l0_0 x33_2).f0), .int .i64 0, .string (⟨#[]⟩ : ByteArray), .slice none 0 0, .slice none 0 0]) ?_ 1 _ rfl; (with_reducible repeat (first | refine blk_drewN ?_ _ | refine blk_drew ?_ | refine blk_alloc ?_ _)); refine blk_put (cs := #[.int .i64 0, .int .i64 0, .string (⟨#[]⟩ : ByteArray), .slice none 0 0, .slice none 0 0]) ?_ 0 _ rfl; (with_reducible repeat (first | refine blk_drewN ?_ _ | refine blk_drew ?_ | refine blk_alloc ?_ _)); exact BK254.out) hb); have n3_ := Aside0.mk (below_step (by repeat (first | (with_reducible first | exact HB.out | apply below_alloc | apply pw_below_drewN | apply below_drew1 | refine below_set ?_ GE248.out | refine below_set ?_ GE254.out) | exact HB.out)) hb); clear HO_4; clear BK248; clear BK254; clear HB; have HO_4 := n0_; have BK248 := n1_; have BK254 := n2_; have HB := n3_; clear n0_ n1_ n2_ n3_; (try clear hb); (try clear hb2); (try clear hk); (try clear hi)))
                        go_ret
                        exact ⟨by first | rfl | (simp [errW_none, errW_some] <;> rfl) | (simp [*, errW_none, errW_some] <;> rfl), by repeat (first | (with_reducible first | exact HB.out | apply below_alloc | apply pw_below_drewN | apply below_drew1 | refine below_set ?_ GE248.out | refine below_set ?_ GE254.out) | exact HB.out)⟩
                    · rw [if_neg c18] at H
                      exact absurd H (by simp)
                  · rw [if_neg c17] at H
                    exact absurd H (by simp)
                · rw [if_neg c16] at H
                  have c16b0 : decide (x33_2 < (l0_0.length : Int)) = false := decide_eq_false c16
                  clear c16
                  obtain ⟨ji41, hji41⟩ : ∃ j_ : Int, (wrap64 ((l0_0.length : Int) - 1)) = j_ := ⟨_, rfl⟩
                  replace H : (if 0 ≤ (ji41) then (if (ji41) ≤ (x4_2.length : Int) then ((some (x4_2.take ((ji41) : Int).toNat : List Int)).bind fun y260 => (impl_ProgOk.l2 k2 (ji41) x4_2 y260 (y260.length : Int) 0)) else (none)) else (none)) = some r := by first | (rw [hji41] at H; exact H) | (simp only [hji41] at H ⊢; exact H)
                  have hji41w : (IntKind.i64.wrap ((l0_0.length : Int) - 1)) = ji41 := (i64_w _).trans hji41
                  by_cases c42 : 0 ≤ (ji41)
                  · rw [if_pos c42] at H
                    have c42b0 := eq_true c42
                    have c42b1 : decide (0 ≤ (ji41)) = true := decide_eq_true c42
                    clear c42
                    by_cases c43 : (ji41) ≤ (x4_2.length : Int)
                    · rw [if_pos c43] at H
                      have c43b0 := eq_true c43
                      have c43b1 : decide ((ji41) ≤ (x4_2.length : Int)) = true := decide_eq_true c43
                      clear c43
                      obtain ⟨y260, hy260⟩ : ∃ y_ : List Int, y_ = (x4_2.take ((ji41) : Int).toNat) := ⟨_, rfl⟩
                      replace H : (impl_ProgOk.l2 k2 (ji41) x4_2 y260 (y260.length : Int) 0) = some r := by first | (rw [hy260]; with_reducible exact H) | (have H2_ := (Option.bind_some _ _).symm.trans H; rw [hy260]; with_reducible exact H2_) | (have H2_ := (Option.bind_some _ _).symm.trans H; with_reducible exact H2_) | with_reducible exact H | (rw [hy260]; exact H) | exact H
                      have Ny260 := Aside0.mk hy260
                      clear hy260
                      have H' := Aside0.mk H
                      clear H
                      obtain ⟨Ao45, co45, eo45⟩ := Kd.R_slice HO_4.out
                      subst eo45
                      have q44 : ((ji41) : Int) ≤ ((x4_2.length : Int) : Int) := of_decide_eq_true (by first | (with_reducible assumption) | assumption)
                      obtain ⟨i044, hi044, _, hsz44, _⟩ := info_parts info3
                      have hroom44 : x4_2.length ≤ co45 := (Kd.R_reads' HO_4.out).2.1
                      have hC44 : Kd.C (Kd.int .i64) _ Ao45 x4_2.length x4_2 := (Kd.R_reads' HO_4.out).2.2
                      have hcut44 := cut_to (P := Tryd.prog) 50 3 .i64 Tryd.underlying50 hi044 Ao45 x4_2.length co45 (ji41) (of_decide_eq_true (by first | (with_reducible assumption) | assumption)) q44 hroom44
                      have hr44 := Kd.C_take (m := ((ji41) : Int).toNat) hC44 (by omega)
                      have hy44 : y260.length = ((ji41) : Int).toNat := (by rw [Ny260.out, List.length_take]; omega)
                      rw [← Ny260.out] at hr44
                      rw [← hy44] at hcut44
                      have HR263 := Aside0.mk hr44
                      have HC263 := Aside0.mk (show y260.length ≤ co45 from by omega)
                      clear hr44 hC44 hroom44 hi044 hsz44
                      have KY44 := Aside0.mk hy44
                      clear hy44
                      have KL44 := Aside0.mk (show ((ji41) : Int).toNat ≤ x4_2.length from by omega)
                      replace q44 := eq_true q44
                      go_wp2
                      go_loopg [65] k2 (fun kq v65 w' => ∃ (x65_3 : Int), v65 = .int .i64 x65_3 ∧ Aside0 (impl_ProgOk.l2 kq (ji41) x4_2 y260 (y260.length : Int) x65_3 = some r) ∧ Aside0 (kq ≤ k2) ∧ Aside0 (Kd.R (Kd.int .i64) 3 w' w.heap.size (fun _ => True) (.slice Ao45 x4_2.length co45) x4_2) ∧ Aside0 (w'.heap[gb248]? = some (.cells #[(.slice A0_0 l0_0.length c0_0), .int .i64 a0_1] 66 (0, 0))) ∧ Aside0 (Kd.C (Kd.int .i64) w' Ao45 y260.length y260) ∧ Aside0 (Below w.heap.size w w'))
                      case atStart => exact ⟨(0), (by first | rfl | (simp; done) | (simp [*]; done) | (simp [*]; rw [Bool.eq_iff_iff]; simp; done)), H', ⟨Nat.le_refl _⟩, ⟨by (with_reducible repeat (first | apply Kd.R_alloc | apply Kd.R_drewN | apply Kd.R_drew)); exact HO_4.out⟩, ⟨by (with_reducible repeat (first | refine blk_drewN ?_ _ | refine blk_drew ?_ | refine blk_alloc ?_ _)); exact BK248.out⟩, ⟨by repeat (first | (with_reducible exact HR263.out) | (with_reducible refine Kd.C_alloc ?_ _) | (with_reducible refine Kd.C_drewN ?_ _) | (with_reducible refine Kd.C_drew ?_) | exact HR263.out)⟩, ⟨by repeat (first | (with_reducible first | exact HB.out | apply below_alloc | apply pw_below_drewN | apply below_drew1 | refine below_set ?_ GE248.out) | exact HB.out)⟩⟩
                      case round =>
                        clear H'
                        try clear c1
                        try clear c2
                        try clear p2
                        try clear q2
                        try clear hx2
                        try clear c3
                        try clear p3
                        try clear q3
                        try clear hx3
                        try clear hf3
                        try clear c4
                        try clear q4
                        try clear c6
                        try clear p6
                        try clear c9
                        try clear c10
                        try clear c10b0
                        try clear c10b1
                        try clear c11
                        try clear c11b0
                        try clear c11b1
                        try clear c16
                        try clear c16b0
                        try clear c17
                        try clear c17b0
                        try clear c18
                        try clear c18b0
                        try clear c20
                        try clear c22
                        try clear c25
                        try clear p25
                        try clear q25
                        try clear hx25
                        try clear c26
                        try clear c26b0
                        try clear c27
                        try clear c27b0
                        try clear c28
                        try clear c28b0
                        try clear c30
                        try clear c31
                        try clear c31b0
                        try clear c32
                        try clear c32b0
                        try clear p33
                        try clear q33
                        try clear hx33
                        try clear hf33
                        try clear c38
                        try clear c42
                        try clear c42b0
                        try clear c42b1
                        try clear c43
                        try clear c43b0
                        try clear c43b1
                        try clear q44
                        try clear hcz12_0
                        try clear hcz12_1
                        try clear hcz15_0
                        try clear hcz15_1
                        try clear hcz23_0
                        try clear hcz23_1
                        try clear hcz23_2
                        try clear hcz23_3
                        try clear hcz23_4
                        try clear hcz25_0
                        try clear hcz25_1
                        try clear hcz25_2
                        try clear hcz25_3
                        try clear hcz25_4
                        try clear hcz39_0
                        try clear hcz39_1
                        try clear hcz39_2
                        try clear hcz39_3
                        try clear hcz39_4
                        try clear hcz4_0
                        try clear hcz4_1
                        try clear hcz7_0
                        try clear hcz7_1
                        try clear hcz8_0
                        try clear hcz8_1
                        try clear hfz12_0
                        try clear hfz12_1
                        try clear hfz15_0
                        try clear hfz15_1
                        try clear hfz23_0
                        try clear hfz23_1
                        try clear hfz23_2
                        try clear hfz23_3
                        try clear hfz23_4
                        try clear hfz25_0
                        try clear hfz25_1
                        try clear hfz25_2
                        try clear hfz25_3
                        try clear hfz25_4
                        try clear hfz39_0
                        try clear hfz39_1
                        try clear hfz39_2
                        try clear hfz39_3
                        try clear hfz39_4
                        try clear hfz4_0
                        try clear hfz4_1
                        try clear hfz7_0
                        try clear hfz7_1
                        try clear hfz8_0
                        try clear hfz8_1
                        try clear hx253_0
                        try clear hx253_1
                        try clear hx253_2
                        try clear hx253_3
                        try clear hx253_4
                        try clear hx256_0
                        try clear hx258_0
                        try clear hx33_0
                        try clear p2
                        try clear p25
                        try clear p253
                        try clear p256
                        try clear p258
                        try clear p33
                        try clear p6
                        try clear q2
                        try clear q25
                        try clear q253
                        try clear q256
                        try clear q258
                        try clear q33
                        try clear q44
                        obtain ⟨x65_3, rfl, HA, HK3, HO_4, BK248, HR263, HB⟩ := hrel
                        cases gk with
                        | zero => exact absurd HA.out (by simp [impl_ProgOk.l2])
                        | succ k3 =>
                          have H := HA.out
                          clear HA
                          simp only [impl_ProgOk.l2] at H
                          by_cases c46 : x65_3 < (y260.length : Int)
                          · rw [if_pos c46] at H
                            have c46b0 : decide (x65_3 < (y260.length : Int)) = true := decide_eq_true c46
                            clear c46
                            by_cases c47 : 0 ≤ x65_3
                            · rw [if_pos c47] at H
                              have c47b0 : decide (0 ≤ x65_3) = true := decide_eq_true c47
                              clear c47
                              by_cases c48 : x65_3 < (y260.length : Int)
                              · rw [if_pos c48] at H
                                have c48b0 : decide (x65_3 < (y260.length : Int)) = true := decide_eq_true c48
                                clear c48
                                by_cases c49 : (rd y260 x65_3) = 1
                                · rw [if_pos c49] at H
                                  have c49b0 : ((rd y260 x65_3) == 1) = true := beq_iff_eq.mpr c49
                                  have c49b1 : ((rd y260 x65_3) != 1) = false := bne_eq_false_iff_eq.mpr c49
                                  clear c49
                                  have H' := Aside0.mk H
                                  clear H
                                  have p264 : 0 ≤ (x65_3 : Int) := of_decide_eq_true (by first | (with_reducible assumption) | assumption)
                                  have q264 : x65_3 < (y260.length : Int) := of_decide_eq_true (by first | (with_reducible assumption) | assumption)
                                  obtain ⟨ad264, e264, hx264_0⟩ := Kd.at_int HR263.out x65_3 p264 q264
                                  cases e264
                                  first | replace hx264_0 := (HB.out.cell (World.block_lt_of_cell? w _ hx264_0)).trans hx264_0 | skip
                                  replace p264 := eq_true p264
                                  replace q264 := eq_true q264
                                  go_wp2
                                  go_roundg k3
                                  case measure => have := HJ1.out; have := HK2.out; have := HK3.out; omega
                                  case rel => exact ⟨(wrap64 (x65_3 + 1)), (by first | rfl | (simp; done) | (simp [*]; done) | (simp [*]; rw [Bool.eq_iff_iff]; simp; done)), H', ⟨by have := HJ1.out; have := HK2.out; have := HK3.out; omega⟩, ⟨by (with_reducible repeat (first | apply Kd.R_alloc | apply Kd.R_drewN | apply Kd.R_drew)); exact HO_4.out⟩, ⟨by (with_reducible repeat (first | refine blk_drewN ?_ _ | refine blk_drew ?_ | refine blk_alloc ?_ _)); exact BK248.out⟩, ⟨by repeat (first | (with_reducible exact HR263.out) | (with_reducible refine Kd.C_alloc ?_ _) | (with_reducible refine Kd.C_drewN ?_ _) | (with_reducible refine Kd.C_drew ?_) | exact HR263.out)⟩, ⟨by repeat (first | (with_reducible first | exact HB.out | apply below_alloc | apply pw_below_drewN | apply below_drew1 | refine below_set ?_ GE248.out) | exact HB.out)⟩⟩
                                · rw [if_neg c49] at H
                                  have c49b0 : ((rd y260 x65_3) == 1) = false := beq_eq_false_iff_ne.mpr c49
                                  have c49b1 : ((rd y260 x65_3) != 1) = true := bne_iff_ne.mpr c49
                                  obtain rfl := Option.some.inj H
                                  have p264 : 0 ≤ (x65_3 : Int) := of_decide_eq_true (by first | (with_reducible assumption) | assumption)
                                  have q264 : x65_3 < (y260.length : Int) := of_decide_eq_true (by first | (with_reducible assumption) | assumption)
                                  obtain ⟨ad264, e264, hx264_0⟩ := Kd.at_int HR263.out x65_3 p264 q264
                                  cases e264
                                  first | replace hx264_0 := (HB.out.cell (World.block_lt_of_cell? w _ hx264_0)).trans hx264_0 | skip
                                  replace p264 := eq_true p264
                                  replace q264 := eq_true q264
                                  go_wp2
                                  go_ret
                                  exact ⟨by first | rfl | (simp [errW_none, errW_some] <;> rfl) | (simp only [← hji41]; first | rfl | (simp [errW_none, errW_some] <;> rfl)) | (simp [*, errW_none, errW_some] <;> rfl), by repeat (first | (with_reducible first | exact HB.out | apply below_alloc | apply pw_below_drewN | apply below_drew1 | refine below_set ?_ GE248.out) | exact HB.out)⟩
                              · rw [if_neg c48] at H
                                exact absurd H (by simp)
                            · rw [if_neg c47] at H
                              exact absurd H (by simp)
                          · rw [if_neg c46] at H
                            have c46b0 : decide (x65_3 < (y260.length : Int)) = false := decide_eq_false c46
                            clear c46
                            by_cases c50 : 0 ≤ (ji41)
                            · rw [if_pos c50] at H
                              have c50b0 : decide (0 ≤ (ji41)) = true := decide_eq_true c50
                              clear c50
                              by_cases c51 : (ji41) < (x4_2.length : Int)
                              · rw [if_pos c51] at H
                                have c51b0 : decide ((ji41) < (x4_2.length : Int)) = true := decide_eq_true c51
                                clear c51
                                obtain rfl := Option.some.inj H
                                have p265 : 0 ≤ ((ji41) : Int) := of_decide_eq_true (by first | (with_reducible assumption) | assumption)
                                have q265 : (ji41) < (x4_2.length : Int) := of_decide_eq_true (by first | (with_reducible assumption) | assumption)
                                obtain ⟨ad265, e265, hx265_0⟩ := Kd.at_int (Kd.R_reads' HO_4.out).2.2 (ji41) p265 q265
                                cases e265
                                replace p265 := eq_true p265
                                replace q265 := eq_true q265
                                go_wp2
                                go_ret
                                exact ⟨by first | rfl | (simp [errW_none, errW_some] <;> rfl) | (simp only [← hji41]; first | rfl | (simp [errW_none, errW_some] <;> rfl)) | (simp [*, errW_none, errW_some] <;> rfl), by repeat (first | (with_reducible first | exact HB.out | apply below_alloc | apply pw_below_drewN | apply below_drew1 | refine below_set ?_ GE248.out) | exact HB.out)⟩
                              · rw [if_neg c51] at H
                                exact absurd H (by simp)
                            · rw [if_neg c50] at H
                              exact absurd H (by simp)
                    · rw [if_neg c43] at H
                      exact absurd H (by simp)
                  · rw [if_neg c42] at H
                    exact absurd H (by simp)
          · rw [if_neg c11] at H
            exact absurd H (by simp)
        · rw [if_neg c10] at H
          exact absurd H (by simp)

end Go.Proofs.YtgfejfeafppagaaDoor.PFnExactProgOk
