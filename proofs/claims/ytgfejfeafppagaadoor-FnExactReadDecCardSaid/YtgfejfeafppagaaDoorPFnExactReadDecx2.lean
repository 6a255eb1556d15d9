-- Written by a program of this session (mk.py over the kit's print).
import Derived.Test.YtgfejfeafppagaaDoorPFnExactReadDecx0
import Derived.Test.YtgfejfeafppagaaDoorPFnExactReadDecx1
namespace Go.Proofs.YtgfejfeafppagaaDoor.PFnExactReadDec
open Go.RowKit Go.Proofs.YtgfejfeafppagaaDoorW.PrintWords Go.Proofs.YtgfejfeafppagaaDoorW.PrintLast Go.Proofs.YtgfejfeafppagaaDoorW.PrintMore
attribute [local go_sem] max2_int min2_int max_two min_two max_three min_three max_four min_four   -- for this text's walks alone
set_option linter.unusedVariables false
set_option linter.unusedSimpArgs false

/-! ### impl_ReadDec: function 12 -/
/-- The number that a text of at most nine digits tells, if it is written as one writes it. -/
def impl_ReadDec.f (a0 : ByteArray) : Option (Int × Bool) :=
  (strings_TrimPrefix.f a0 (⟨#[45]⟩ : ByteArray)).bind fun d => (impl_inRange.f (d.size : Int) 1 9).bind fun b =>
    if b = true then
      (if a0.size ≤ 140737488351232 then
        (match Lib.atoiAll a0.data.toList with
          | .ok v => (impl_Dec.f v).bind fun t => if t.toList = a0.toList then some (v, true) else some (0, false)
          | _ => some (0, false))
       else none)
    else some (0, false)
set_option maxHeartbeats 1000000 in
theorem impl_ReadDec.short (a0 d : ByteArray) (w : World) (hd : strings_TrimPrefix.f a0 (⟨#[45]⟩ : ByteArray) = some d) (hb : impl_inRange.f (d.size : Int) 1 9 = some false) :
    Calls Tryd.prog 12 #[.string a0] w fun e w' => e = .returned (.tuple #[.int .i64 0, .bool false]) ∧ Below w.heap.size w w' := by
  have hd' := Aside0.mk hd
  have hb' := Aside0.mk hb
  clear hd hb
  go_enter Tryd.func12, Tryd.ntmps12
  go_wp2_with fail
  refine (strings_TrimPrefix.calls a0 _ d _ hd'.out).mono ?_
  rintro e w1 ⟨rfl, hw1⟩
  have HB := Aside0.mk hw1.below
  clear hw1
  go_wp2_with fail
  refine (impl_inRange.calls _ 1 9 false _ hb'.out).mono ?_
  rintro e w2 ⟨rfl, hw2⟩
  have HB2 := Aside0.mk (below_then HB.out HB.out.size hw2.below)
  clear hw2
  go_wp2_with fail
  go_ret2
  exact ⟨rfl, HB2.out⟩
set_option maxHeartbeats 1000000 in
theorem impl_ReadDec.failed (a0 d : ByteArray) (w : World) (hL : Laid w) (hs : a0.size ≤ 140737488351232) (hd : strings_TrimPrefix.f a0 (⟨#[45]⟩ : ByteArray) = some d) (hb : impl_inRange.f (d.size : Int) 1 9 = some true)
    (hA : ∀ v, Lib.atoiAll a0.data.toList ≠ .ok v) :
    Calls Tryd.prog 12 #[.string a0] w fun e w' => e = .returned (.tuple #[.int .i64 0, .bool false]) ∧ Below w.heap.size w w' := by
  have hat : ∀ W : World, Laid W → Calls Tryd.prog 50 #[.string a0] W fun e w' => ∃ (x : Int) (u : Nat) (N : Nat), e = .returned (.tuple #[.int .i64 x, .iface u (.pointer (some ⟨N, 0, none⟩))]) ∧ Below W.heap.size W w' := by
    intro W hLW
    by_cases hr : Lib.atoiAll a0.data.toList = .range
    rotate_left
    · obtain ⟨tp, p, hv⟩ := hLW.esyn
      refine (Tryd.strconv_Atoi_syntax_var a0 (by omega) hA hr tp p W hv).mono ?_
      rintro e w' ⟨N, rfl, _, _, hB⟩
      exact ⟨_, _, N, rfl, hB⟩
    · obtain ⟨tp, p, hv⟩ := hLW.eran
      refine (Tryd.strconv_Atoi_range_var a0 (by omega) hr tp p W hv).mono ?_
      rintro e w' ⟨N, rfl, _, _, hB⟩
      exact ⟨_, _, N, rfl, hB⟩
  have hat' := Aside0.mk hat
  have hd' := Aside0.mk hd
  have hb' := Aside0.mk hb
  have hL' := Aside0.mk hL
  clear hd hb hat hA hL
  go_enter Tryd.func12, Tryd.ntmps12
  go_wp2_with fail
  refine (strings_TrimPrefix.calls a0 _ d _ hd'.out).mono ?_
  rintro e w1 ⟨rfl, hw1⟩
  have HB := Aside0.mk hw1.below
  clear hw1
  go_wp2_with fail
  refine (impl_inRange.calls _ 1 9 true _ hb'.out).mono ?_
  rintro e w2 ⟨rfl, hw2⟩
  have HB2 := Aside0.mk (below_then HB.out HB.out.size hw2.below)
  clear hw2
  go_wp2_with fail
  refine (hat'.out _ (hL'.out.below HB2.out)).mono ?_
  rintro e w3 ⟨x, u, N, rfl, hB3⟩
  have HB3 := Aside0.mk (below_then HB2.out HB2.out.size hB3)
  clear hB3
  go_wp2_with fail
  go_ret2
  exact ⟨rfl, HB3.out⟩
set_option maxHeartbeats 1000000 in
theorem impl_ReadDec.told (a0 d t : ByteArray) (v : Int) (w : World) (hL : Laid w) (hs : a0.size ≤ 140737488351232) (hd : strings_TrimPrefix.f a0 (⟨#[45]⟩ : ByteArray) = some d) (hb : impl_inRange.f (d.size : Int) 1 9 = some true)
    (hA : Lib.atoiAll a0.data.toList = .ok v) (ht : impl_Dec.f v = some t) :
    Calls Tryd.prog 12 #[.string a0] w fun e w' => e = .returned (if t.toList = a0.toList then .tuple #[.int .i64 v, .bool true] else .tuple #[.int .i64 0, .bool false]) ∧ Below w.heap.size w w' := by
  have hat : ∀ W : World, Calls Tryd.prog 50 #[.string a0] W fun e w' => e = .returned (.tuple #[.int .i64 v, .nilIface]) ∧ Below W.heap.size W w' := by
    intro W
    refine (Tryd.strconv_Atoi_ok a0 (by omega) v hA W).mono ?_
    rintro e w' ⟨rfl, hW⟩
    refine ⟨rfl, ?_⟩
    rcases hW with rfl | ⟨t, rfl⟩
    · exact Below.refl _ _
    · exact Lib.bytesWorld_below _ _ _
  have hat' := Aside0.mk hat
  have hd' := Aside0.mk hd
  have hb' := Aside0.mk hb
  have hL' := Aside0.mk hL
  have ht' := Aside0.mk ht
  clear hd hb hat hA hL ht
  by_cases he : t.toList = a0.toList
  · rw [if_pos he]
    have e0 : (t.toList == a0.toList) = true := by simpa using he
    have e1 : (t.toList != a0.toList) = false := by simpa using he
    clear he
    go_enter Tryd.func12, Tryd.ntmps12
    go_wp2_with fail
    refine (strings_TrimPrefix.calls a0 _ d _ hd'.out).mono ?_
    rintro e w1 ⟨rfl, hw1⟩
    have HB := Aside0.mk hw1.below
    clear hw1
    go_wp2_with fail
    refine (impl_inRange.calls _ 1 9 true _ hb'.out).mono ?_
    rintro e w2 ⟨rfl, hw2⟩
    have HB2 := Aside0.mk (below_then HB.out HB.out.size hw2.below)
    clear hw2
    go_wp2_with fail
    refine (hat'.out _).mono ?_
    rintro e w3 ⟨rfl, hB3⟩
    have HB3 := Aside0.mk (below_then HB2.out HB2.out.size hB3)
    clear hB3
    go_wp2_with fail
    refine (impl_Dec.calls v t _ (hL'.out.below HB3.out) ht'.out).mono ?_
    rintro e w4 ⟨rfl, hB4⟩
    have HB4 := Aside0.mk (below_then HB3.out HB3.out.size hB4)
    clear hB4
    go_wp2_with fail
    go_ret2
    exact ⟨rfl, HB4.out⟩
  · rw [if_neg he]
    have e0 : (t.toList == a0.toList) = false := by simpa using he
    have e1 : (t.toList != a0.toList) = true := by simpa using he
    clear he
    go_enter Tryd.func12, Tryd.ntmps12
    go_wp2_with fail
    refine (strings_TrimPrefix.calls a0 _ d _ hd'.out).mono ?_
    rintro e w1 ⟨rfl, hw1⟩
    have HB := Aside0.mk hw1.below
    clear hw1
    go_wp2_with fail
    refine (impl_inRange.calls _ 1 9 true _ hb'.out).mono ?_
    rintro e w2 ⟨rfl, hw2⟩
    have HB2 := Aside0.mk (below_then HB.out HB.out.size hw2.below)
    clear hw2
    go_wp2_with fail
    refine (hat'.out _).mono ?_
    rintro e w3 ⟨rfl, hB3⟩
    have HB3 := Aside0.mk (below_then HB2.out HB2.out.size hB3)
    clear hB3
    go_wp2_with fail
    refine (impl_Dec.calls v t _ (hL'.out.below HB3.out) ht'.out).mono ?_
    rintro e w4 ⟨rfl, hB4⟩
    have HB4 := Aside0.mk (below_then HB3.out HB3.out.size hB4)
    clear hB4
    go_wp2_with fail
    go_ret2
    exact ⟨rfl, HB4.out⟩
theorem impl_ReadDec.calls (a0 : ByteArray) (r1 : Int) (r2 : Bool) (w : World) (hL : Laid w) (h : impl_ReadDec.f a0 = some (r1, r2)) :
    Calls Tryd.prog 12 #[.string a0] w fun e w' => e = .returned (.tuple #[.int .i64 r1, .bool r2]) ∧ Below w.heap.size w w' := by
  unfold impl_ReadDec.f at h
  obtain ⟨d, hd, h⟩ := Option.bind_eq_some_iff.mp h
  obtain ⟨b, hb, h⟩ := Option.bind_eq_some_iff.mp h
  cases b with
  | false =>
    have h' : (some (0, false) : Option (Int × Bool)) = some (r1, r2) := h
    simp only [Option.some.injEq, Prod.mk.injEq] at h'
    obtain ⟨rfl, rfl⟩ := h'
    exact impl_ReadDec.short a0 d w hd hb
  | true =>
    rw [if_pos rfl] at h
    by_cases hs : a0.size ≤ 140737488351232
    · rw [if_pos hs] at h
      rcases hA : Lib.atoiAll a0.data.toList with v | _ | _
      rotate_left
      ·
        rw [hA] at h
        simp only [Option.some.injEq, Prod.mk.injEq] at h
        obtain ⟨rfl, rfl⟩ := h
        exact impl_ReadDec.failed a0 d w hL hs hd hb (fun v hv => by rw [hA] at hv; cases hv)
      ·
        rw [hA] at h
        simp only [Option.some.injEq, Prod.mk.injEq] at h
        obtain ⟨rfl, rfl⟩ := h
        exact impl_ReadDec.failed a0 d w hL hs hd hb (fun v hv => by rw [hA] at hv; cases hv)
      ·
        rw [hA] at h
        obtain ⟨t, ht, h⟩ := Option.bind_eq_some_iff.mp h
        refine (impl_ReadDec.told a0 d t v w hL hs hd hb hA ht).mono ?_
        rintro e w' ⟨rfl, hB⟩
        refine ⟨?_, hB⟩
        by_cases he : t.toList = a0.toList
        · rw [if_pos he] at h ⊢
          simp only [Option.some.injEq, Prod.mk.injEq] at h
          obtain ⟨rfl, rfl⟩ := h
          rfl
        · rw [if_neg he] at h ⊢
          simp only [Option.some.injEq, Prod.mk.injEq] at h
          obtain ⟨rfl, rfl⟩ := h
          rfl
    · rw [if_neg hs] at h
      cases h


/-! ### laws_FnExactReadDec: function 3 -/
def laws_FnExactReadDec.f (k : Nat) (a0 : ByteArray) : Option (Bool) := if (a0.size : Int) > 1048576 then (some true) else ((spec_ReadDec.f k a0).bind fun bt112 => ((impl_ReadDec.f a0).bind fun bt114 => (if bt114.1 = bt112.1 then (if (bt114.2 != bt112.2) = true then (some false) else (some true)) else (some false))))
theorem laws_FnExactReadDec.mono : ∀ a0 k, LeO (laws_FnExactReadDec.f k a0) (laws_FnExactReadDec.f (k + 1) a0) := by
  intro a0 k
  unfold laws_FnExactReadDec.f
  repeat' first
      | (with_reducible exact spec_ReadDec.mono _ _)
      | (with_reducible exact LeO.refl _)
      | (with_reducible exact LeO.none _)
      | (with_reducible refine LeO.ite ?_ ?_)
      | (with_reducible refine LeO.bind ?_ (fun _ => ?_))
      | exact spec_ReadDec.mono _ _
      | exact LeO.none _
      | refine LeO.ite ?_ ?_
      | refine LeO.bind ?_ (fun _ => ?_)
set_option maxHeartbeats 8000000 in
set_option maxRecDepth 100000 in
theorem laws_FnExactReadDec.calls (k : Nat) (a0 : ByteArray) (r : Bool) (w : World) (hL : Laid w) (h : laws_FnExactReadDec.f k a0 = some r) :
    Calls Tryd.prog 3 #[.string a0] w fun e w' => e = .returned (.bool r) ∧ Below w.heap.size w w' := by
  have HL := Aside0.mk hL
  clear hL
  have HB := Aside0.mk (Below.refl w.heap.size w)
  have H : (if (a0.size : Int) > 1048576 then (some true) else ((spec_ReadDec.f k a0).bind fun bt112 => ((impl_ReadDec.f a0).bind fun bt114 => (if bt114.1 = bt112.1 then (if (bt114.2 != bt112.2) = true then (some false) else (some true)) else (some false))))) = some r := h
  clear h
  by_cases c2 : (a0.size : Int) > 1048576
  · rw [if_pos c2] at H
    have c2b0 : decide (1048576 < (a0.size : Int)) = true := decide_eq_true c2
    have c2b1 : decide (1048576 < a0.size) = true := decide_eq_true (by omega)
    clear c2
    obtain rfl := Option.some.inj H
    go_enter Tryd.func3, Tryd.ntmps3
    go_wp2
    go_ret
    exact ⟨by first | rfl | (simp [errW_none, errW_some] <;> rfl) | (simp [*, errW_none, errW_some] <;> rfl), by repeat (first | (with_reducible first | exact HB.out | apply below_alloc | apply pw_below_drewN | apply below_drew1) | exact HB.out)⟩
  · rw [if_neg c2] at H
    have c2b0 : decide (1048576 < (a0.size : Int)) = false := decide_eq_false c2
    have c2b1 : decide (1048576 < a0.size) = false := decide_eq_false (by omega)
    clear c2
    replace H := Option.bind_eq_some_iff.mp H
    obtain ⟨⟨t112, t113⟩, A30, H⟩ := H
    replace H : ((impl_ReadDec.f a0).bind fun bt114 => (if bt114.1 = t112 then (if (bt114.2 != t113) = true then (some false) else (some true)) else (some false))) = some r := H
    have A3 := Aside0.mk A30
    clear A30
    replace H := Option.bind_eq_some_iff.mp H
    obtain ⟨⟨t114, t115⟩, A40, H⟩ := H
    replace H : (if t114 = t112 then (if (t115 != t113) = true then (some false) else (some true)) else (some false)) = some r := H
    have A4 := Aside0.mk A40
    clear A40
    by_cases c5 : t114 = t112
    · rw [if_pos c5] at H
      have c5b0 : (t114 == t112) = true := beq_iff_eq.mpr c5
      have c5b1 : (t114 != t112) = false := bne_eq_false_iff_eq.mpr c5
      clear c5
      by_cases c6 : (t115 != t113) = true
      · rw [if_pos c6] at H
        have c6b0 : (t115 != t113) = true := c6
        (try (have c6b1 : decide (t115 = t113) = false := by simpa using c6))
        (try (have c6b2 : (t115 == t113) = false := by simpa using c6))
        (try (have c6b3 : ¬ (t115 = t113) := by simpa using c6))
        clear c6
        obtain rfl := Option.some.inj H
        go_enter Tryd.func3, Tryd.ntmps3
        go_wp2_with (first | ((with_reducible refine gate_callee (f := 11) rfl ?_); refine goesL_ (some 12) rfl rfl Tryd.func11 (by kernel_rfl) rfl #[.string a0] rfl (by (try simp only [List.map_toArray, List.map_cons, List.map_nil]); first | done | rfl | (simp only [List.length_drop, List.length_take]; rfl)) ?_; (with_reducible refine (spec_ReadDec.calls k a0 t112 t113 _ A3.out).mono ?_); rintro e w7 ⟨rfl, hb⟩; refine ⟨_, rfl, ?_⟩; have n0_ := Aside0.mk (below_step (by repeat (first | (with_reducible first | exact HB.out | apply below_alloc | apply pw_below_drewN | apply below_drew1) | exact HB.out)) hb); clear HB; have HB := n0_; clear n0_; (try clear hb); (try clear hb2); (try clear hk); (try clear hi)) | ((with_reducible refine gate_callee (f := 12) rfl ?_); refine goesL_ (some 17) rfl rfl Tryd.func12 (by kernel_rfl) rfl #[.string a0] rfl (by (try simp only [List.map_toArray, List.map_cons, List.map_nil]); first | done | rfl | (simp only [List.length_drop, List.length_take]; rfl)) ?_; (with_reducible refine (impl_ReadDec.calls (hL := ?sideL) a0 t114 t115 _ A4.out).mono ?_); (case sideL => (first | exact HL.out | (refine Laid.below HL.out ?_; repeat (first | (with_reducible first | exact HB.out | exact Below.refl _ _ | apply below_alloc | apply pw_below_drewN | apply below_drew1) | exact HB.out | (refine below_set ?_ (Aside0.out (by assumption))))) | (refine Laid.drawn HL.out ?_; repeat (first | exact Drawn0.refl _ | apply Drawn0.step)))); rintro e w8 ⟨rfl, hb⟩; refine ⟨_, rfl, ?_⟩; have n0_ := Aside0.mk (below_step (by repeat (first | (with_reducible first | exact HB.out | apply below_alloc | apply pw_below_drewN | apply below_drew1) | exact HB.out)) hb); clear HB; have HB := n0_; clear n0_; (try clear hb); (try clear hb2); (try clear hk); (try clear hi)))
        go_ret
        exact ⟨by first | rfl | (simp [errW_none, errW_some] <;> rfl) | (simp [*, errW_none, errW_some] <;> rfl), by repeat (first | (with_reducible first | exact HB.out | apply below_alloc | apply pw_below_drewN | apply below_drew1) | exact HB.out)⟩
      · rw [if_neg c6] at H
        have c6b0 : (t115 != t113) = false := by simpa using c6
        (try (have c6b1 : decide (t115 = t113) = true := by simpa using c6))
        (try (have c6b2 : (t115 == t113) = true := by simpa using c6))
        clear c6
        obtain rfl := Option.some.inj H
        go_enter Tryd.func3, Tryd.ntmps3
        go_wp2_with (first | ((with_reducible refine gate_callee (f := 11) rfl ?_); refine goesL_ (some 12) rfl rfl Tryd.func11 (by kernel_rfl) rfl #[.string a0] rfl (by (try simp only [List.map_toArray, List.map_cons, List.map_nil]); first | done | rfl | (simp only [List.length_drop, List.length_take]; rfl)) ?_; (with_reducible refine (spec_ReadDec.calls k a0 t112 t113 _ A3.out).mono ?_); rintro e w9 ⟨rfl, hb⟩; refine ⟨_, rfl, ?_⟩; have n0_ := Aside0.mk (below_step (by repeat (first | (with_reducible first | exact HB.out | apply below_alloc | apply pw_below_drewN | apply below_drew1) | exact HB.out)) hb); clear HB; have HB := n0_; clear n0_; (try clear hb); (try clear hb2); (try clear hk); (try clear hi)) | ((with_reducible refine gate_callee (f := 12) rfl ?_); refine goesL_ (some 17) rfl rfl Tryd.func12 (by kernel_rfl) rfl #[.string a0] rfl (by (try simp only [List.map_toArray, List.map_cons, List.map_nil]); first | done | rfl | (simp only [List.length_drop, List.length_take]; rfl)) ?_; (with_reducible refine (impl_ReadDec.calls (hL := ?sideL) a0 t114 t115 _ A4.out).mono ?_); (case sideL => (first | exact HL.out | (refine Laid.below HL.out ?_; repeat (first | (with_reducible first | exact HB.out | exact Below.refl _ _ | apply below_alloc | apply pw_below_drewN | apply below_drew1) | exact HB.out | (refine below_set ?_ (Aside0.out (by assumption))))) | (refine Laid.drawn HL.out ?_; repeat (first | exact Drawn0.refl _ | apply Drawn0.step)))); rintro e w10 ⟨rfl, hb⟩; refine ⟨_, rfl, ?_⟩; have n0_ := Aside0.mk (below_step (by repeat (first | (with_reducible first | exact HB.out | apply below_alloc | apply pw_below_drewN | apply below_drew1) | exact HB.out)) hb); clear HB; have HB := n0_; clear n0_; (try clear hb); (try clear hb2); (try clear hk); (try clear hi)))
        go_ret
        exact ⟨by first | rfl | (simp [errW_none, errW_some] <;> rfl) | (simp [*, errW_none, errW_some] <;> rfl), by repeat (first | (with_reducible first | exact HB.out | apply below_alloc | apply pw_below_drewN | apply below_drew1) | exact HB.out)⟩
    · rw [if_neg c5] at H
      have c5b0 : (t114 == t112) = false := beq_eq_false_iff_ne.mpr c5
      have c5b1 : (t114 != t112) = true := bne_iff_ne.mpr c5
      obtain rfl := Option.some.inj H
      go_enter Tryd.func3, Tryd.ntmps3
      go_wp2_with (first | ((with_reducible refine gate_callee (f := 11) rfl ?_); refine goesL_ (some 12) rfl rfl Tryd.func11 (by kernel_rfl) rfl #[.string a0] rfl (by (try simp only [List.map_toArray, List.map_cons, List.map_nil]); first | done | rfl | (simp only [List.length_drop, List.length_take]; rfl)) ?_; (with_reducible refine (spec_ReadDec.calls k a0 t112 t113 _ A3.out).mono ?_); rintro e w11 ⟨rfl, hb⟩; refine ⟨_, rfl, ?_⟩; have n0_ := Aside0.mk (below_step (by repeat (first | (with_reducible first | exact HB.out | apply below_alloc | apply pw_below_drewN | apply below_drew1) | exact HB.out)) hb); clear HB; have HB := n0_; clear n0_; (try clear hb); (try clear hb2); (try clear hk); (try clear hi)) | ((with_reducible refine gate_callee (f := 12) rfl ?_); refine goesL_ (some 17) rfl rfl Tryd.func12 (by kernel_rfl) rfl #[.string a0] rfl (by (try simp only [List.map_toArray, List.map_cons, List.map_nil]); first | done | rfl | (simp only [List.length_drop, List.length_take]; rfl)) ?_; (with_reducible refine (impl_ReadDec.calls (hL := ?sideL) a0 t114 t115 _ A4.out).mono ?_); (case sideL => (first | exact HL.out | (refine Laid.below HL.out ?_; repeat (first | (with_reducible first | exact HB.out | exact Below.refl _ _ | apply below_alloc | apply pw_below_drewN | apply below_drew1) | exact HB.out | (refine below_set ?_ (Aside0.out (by assumption))))) | (refine Laid.drawn HL.out ?_; repeat (first | exact Drawn0.refl _ | apply Drawn0.step)))); rintro e w12 ⟨rfl, hb⟩; refine ⟨_, rfl, ?_⟩; have n0_ := Aside0.mk (below_step (by repeat (first | (with_reducible first | exact HB.out | apply below_alloc | apply pw_below_drewN | apply below_drew1) | exact HB.out)) hb); clear HB; have HB := n0_; clear n0_; (try clear hb); (try clear hb2); (try clear hk); (try clear hi)))
      go_ret
      exact ⟨by first | rfl | (simp [errW_none, errW_some] <;> rfl) | (simp [*, errW_none, errW_some] <;> rfl), by repeat (first | (with_reducible first | exact HB.out | apply below_alloc | apply pw_below_drewN | apply below_drew1) | exact HB.out)⟩

end Go.Proofs.YtgfejfeafppagaaDoor.PFnExactReadDec
