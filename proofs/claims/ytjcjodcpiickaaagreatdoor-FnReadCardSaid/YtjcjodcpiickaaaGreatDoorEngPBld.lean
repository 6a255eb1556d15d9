/- strings.Builder: what its methods do to a builder that is handed on by its pointer. -/
import Derived.Test.YtjcjodcpiickaaaGreatDoorEngDoor
import Derived.Test.YtjcjodcpiickaaaGreatDoorEngBuilder
import Derived.Test.YtjcjodcpiickaaaGreatDoorEngBldR
import Derived.Lib.Hide
import Derived.OwnWalk
namespace Go.Proofs.YtjcjodcpiickaaaGreatDoor
open Go Go.VS Go.RowKit
set_option linter.unusedVariables false
set_option linter.unusedSimpArgs false
/-- Behind copyCheck the builder holds its own address. -/
theorem cc_calls {b : Nat} {p v : Value} {l : List UInt8} {w : World} (h : Bld w 114 5 b p v l) :
    Calls Tryz.prog 160 #[.pointer (some ⟨b, 0, none⟩)] w fun r w' => r = .returned (.tuple #[]) ∧ Bld w' 114 5 b (.pointer (some ⟨b, 0, none⟩)) v l ∧ Turn w w' (fun k => k = b ∨ ownB v k) (fun k => k = b ∨ ownB v k) := by
  rcases h.ptr with rfl | rfl
  · refine (Any.Builder_copyCheck_fresh Tryz.bl240 Tryz.blX.toX72 b w ?_ ?_ ?_).mono ?_
    · rw [cell_of h.at_]; rfl
    · simp [World.shape?, h.at_]
      rfl
    · simp [World.frozen?, h.at_]
    rintro r w' ⟨rfl, rfl⟩
    refine ⟨rfl, ⟨?_, .inr rfl, owns_world h.own fun g hg => Below.heap_setCell _ _ _ _ fun he => h.ne (by rw [hg]; exact congrArg some he), h.ne⟩, rfl, rfl, rfl, by simp [World.setCell], fun k hk hno => Below.heap_setCell _ _ _ _ fun he => hno (.inl he), fun k hk => .inl hk⟩
    simp [World.setCell, Array.getElem?_modify, h.at_]
  · refine (Any.Builder_copyCheck_used Tryz.bl240 Tryz.blX.toX72 b w ?_).mono ?_
    · rw [cell_of h.at_]; rfl
    rintro r w' ⟨rfl, rfl⟩
    exact ⟨rfl, h, Turn.refl _⟩
theorem byte_info : ∃ i, Tryz.prog.info? 5 = some i ∧ i.zero = some (.int .u8 0) ∧ i.size = 1 ∧ i.bytes = 1 := info_parts Tryz.blX.infoByte
theorem bytes_append (l : List UInt8) (s : ByteArray) : Go.Lib.byteCells l ++ (s.data.toList.map fun x => Value.int .u8 x.toNat) = Go.Lib.byteCells (l ++ s.data.toList) := by simp [Go.Lib.byteCells]
set_option maxHeartbeats 2000000 in
set_option maxRecDepth 100000 in
theorem ws_calls (l : List UInt8) (s : ByteArray) (hlen : l.length + s.size ≤ 1000000000) (b : Nat) (p v : Value) (w : World) (h : Bld w 114 5 b p v l) :
    Calls Tryz.prog 157 [.pointer (some ⟨b, 0, none⟩), .string s].toArray w fun r w' => r = .returned (.tuple #[.int .i64 s.size, .nilIface]) ∧ ∃ v', Bld w' 114 5 b (.pointer (some ⟨b, 0, none⟩)) v' (l ++ s.data.toList) ∧ Turn w w' (fun k => k = b ∨ ownB v k) (fun k => k = b ∨ ownB v' k) := by
  obtain ⟨i, hi, hz, hs1, hby⟩ := byte_info
  go_enter Tryz.func157, Tryz.ntmps157
  go_wp2_with (go_at_call 160; refine (cc_calls h).mono ?_)
  rintro r w1 ⟨rfl, h1, t1⟩
  have c1 : w1.cell? ⟨b, 1, none⟩ = some v := by rw [cell_of h1.at_]; rfl
  obtain ⟨v', w2, a1, a2, a3⟩ := app_bts (ty := 22) (u := 9) (x := .string s) Tryz.underlying22 hi hz rfl hs1 (source_str Tryz.underlying9) h1.own (by unfold maxLen; omega) (by rw [hby]; omega) h1.own_lt
  rw [bytes_append] at a2
  obtain ⟨q1, q2⟩ := h1.put (l' := l ++ s.data.toList) a3 (by simpa using a2)
  have hb2 : w2.heap[b]? = some (.cells #[.pointer (some ⟨b, 0, none⟩), v] 114 (0, 0)) := (a3.kept b h1.lt h1.ne).trans h1.at_
  have c2 : w2.cell? ⟨b, 1, none⟩ = some v := by rw [cell_of hb2]; rfl
  have f2 : w2.frozen? ⟨b, 1, none⟩ = false := by simp [World.frozen?, hb2]
  obtain ⟨ao, n', cap, rfl⟩ : ∃ ao n' cap, v' = .slice ao n' cap := by
    rcases a2.2 with ⟨hv, _⟩ | ⟨g, cap, cur, hv, _⟩ <;> exact ⟨_, _, _, hv⟩
  have t2 := t1.trans q2
  go_wp2_with (at_builtin; refine wpList_plain rfl fun _ hK => oper_value (v := .slice ao n' cap) (w' := w2) ?ca (hK _ _ ?_))
  case ca => simp [execOp, resolve, invoke, builtin, Act.eval, a1]
  go_ret2
  exact ⟨rfl, _, q1, t2⟩
theorem bytes_snoc (l : List UInt8) (c : UInt8) : Go.Lib.byteCells l ++ [Value.int .u8 c.toNat] = Go.Lib.byteCells (l ++ [c]) := by simp [Go.Lib.byteCells]
set_option maxHeartbeats 2000000 in
set_option maxRecDepth 100000 in
theorem wb_calls (l : List UInt8) (c : UInt8) (hlen : l.length + 1 ≤ 1000000000) (b : Nat) (p v : Value) (w : World) (h : Bld w 114 5 b p v l) :
    Calls Tryz.prog 70 [.pointer (some ⟨b, 0, none⟩), .int .u8 c.toNat].toArray w fun r w' => r = .returned .nilIface ∧ ∃ v', Bld w' 114 5 b (.pointer (some ⟨b, 0, none⟩)) v' (l ++ [c]) ∧ Turn w w' (fun k => k = b ∨ ownB v k) (fun k => k = b ∨ ownB v' k) := by
  obtain ⟨i, hi, hz, hs1, hby⟩ := byte_info
  go_enter Tryz.func70, Tryz.ntmps70
  go_wp2_with (go_at_call 160; refine (cc_calls h).mono ?_)
  rintro r w1 ⟨rfl, h1, t1⟩
  have c1 : w1.cell? ⟨b, 1, none⟩ = some v := by rw [cell_of h1.at_]; rfl
  have hlt := h1.lt
  obtain ⟨wa, hwa⟩ : ∃ wa, w1.alloc (.cells #[.int .u8 c.toNat] 5) = wa := ⟨_, rfl⟩
  have ha : Bld wa 114 5 b (.pointer (some ⟨b, 0, none⟩)) v l := by
    rw [← hwa]
    refine h1.world fun k hk => Below.heap_alloc w1 _ k ?_
    rcases hk with rfl | hk
    · exact hlt
    · exact h1.own_lt k hk
  have ta : Turn w1 wa (fun k => k = b ∨ ownB v k) (fun k => k = b ∨ ownB v k) := by rw [← hwa]; exact Turn.alloc _ _
  have hc : CellsAt wa (.slice (some ⟨w1.heap.size, 0, none⟩) 1 1) 1 1 [.int .u8 c.toNat] := by
    refine ⟨rfl, _, _, rfl, .inr ⟨_, _, rfl, fun j u hj => ?_⟩⟩
    match j, hj with
    | 0, hj =>
      simp at hj
      subst hj
      rw [← hwa, cell_of (new_at w1 _)]
      rfl
    | j + 1, hj => simp at hj
  obtain ⟨v', w2, a1, a2, a3⟩ := app_bts (ty := 22) (u := 22) Tryz.underlying22 hi hz rfl hs1 (source_slice Tryz.underlying22 hc (by simp; rfl)) ha.own (by unfold maxLen; omega) (by rw [hby]; omega) ha.own_lt
  rw [bytes_snoc] at a2
  obtain ⟨q1, q2⟩ := ha.put (l' := l ++ [c]) a3 (by simpa using a2)
  have hb2 : w2.heap[b]? = some (.cells #[.pointer (some ⟨b, 0, none⟩), v] 114 (0, 0)) := (a3.kept b ha.lt ha.ne).trans ha.at_
  have c2 : w2.cell? ⟨b, 1, none⟩ = some v := by rw [cell_of hb2]; rfl
  have f2 : w2.frozen? ⟨b, 1, none⟩ = false := by simp [World.frozen?, hb2]
  obtain ⟨ao, n', cap, rfl⟩ : ∃ ao n' cap, v' = .slice ao n' cap := by
    rcases a2.2 with ⟨hv, _⟩ | ⟨g, cap, cur, hv, _⟩ <;> exact ⟨_, _, _, hv⟩
  have t2 := (t1.trans ta).trans q2
  go_wp2_with (at_builtin; refine wpList_plain rfl fun _ hK => oper_value (v := .slice ao n' cap) (w' := w2) ?ca (hK _ _ ?_))
  case ca => simp [execOp, resolve, invoke, builtin, Act.eval, a1, hwa]
  go_ret
  exact ⟨rfl, _, q1, t2⟩
/-- String: the bytes as a text; what they lay in is given up. -/
theorem us_none (W : World) (q : Option Addr) : (Builtin.unsafeString_ #[190, 3] 9 #[.pointer q, .int .i64 0]).run Tryz.prog W = .ok (.string .empty) W := Any.unsafeString_none Tryz.bl169 Tryz.blX W q
theorem mixed : Tryz.prog.follows Departure.mixedOrders = true := by kernel_rfl
set_option maxHeartbeats 2000000 in
set_option maxRecDepth 100000 in
theorem bs_nil {b : Nat} {p : Value} {w : World} (hbk : w.heap[b]? = some (.cells #[p, .slice none 0 0] 114 (0, 0))) :
    Calls Tryz.prog 71 #[.pointer (some ⟨b, 0, none⟩)] w fun e w' => e = .returned (.string ⟨#[]⟩) ∧ w' = w.drew := by
  have hUS := us_none
  have hmx := mixed
  have c1 : w.drew.cell? ⟨b, 1, none⟩ = some (.slice none 0 0) := by
    have : w.drew.heap[b]? = some (.cells #[p, .slice none 0 0] 114 (0, 0)) := hbk
    rw [cell_of this]; rfl
  have hSD : (Builtin.unsafeSliceData_ #[22] 190 #[.slice none 0 0]).run Tryz.prog w.drew = .ok (.pointer none) w.drew := rfl
  go_enter Tryz.func71, Tryz.ntmps71
  go_wp2
  go_region_o
  all_goals (go_wp2; go_ret; exact ⟨rfl, rfl⟩)
set_option maxHeartbeats 2000000 in
set_option maxRecDepth 100000 in
theorem bs_noroom {b g : Nat} {p : Value} {cur : Array Value} {w : World} (hbk : w.heap[b]? = some (.cells #[p, .slice (some ⟨g, 0, none⟩) 0 0] 114 (0, 0))) (hg : w.heap[g]? = some (.cells cur 5 (0, 0))) :
    Calls Tryz.prog 71 #[.pointer (some ⟨b, 0, none⟩)] w fun e w' => e = .returned (.string ⟨#[]⟩) ∧ (w' = w.drew.alloc (.view ⟨g, 0, none⟩ 5) ∨ w' = (w.alloc (.view ⟨g, 0, none⟩ 5)).drew) := by
  have hUS := us_none
  have hmx := mixed
  have hlt : b < w.heap.size := by
    rcases Nat.lt_or_ge b w.heap.size with h' | h'
    · exact h'
    · simp [Array.getElem?_eq_none h'] at hbk
  have c1 : w.drew.cell? ⟨b, 1, none⟩ = some (.slice (some ⟨g, 0, none⟩) 0 0) := by
    have : w.drew.heap[b]? = some (.cells #[p, .slice (some ⟨g, 0, none⟩) 0 0] 114 (0, 0)) := hbk
    rw [cell_of this]; rfl
  have hSD : (Builtin.unsafeSliceData_ #[22] 190 #[.slice (some ⟨g, 0, none⟩) 0 0]).run Tryz.prog w.drew = .ok (.pointer (some ⟨w.drew.heap.size, 0, none⟩)) (w.drew.alloc (.view ⟨g, 0, none⟩ 5)) :=
    Lib.run_unsafeSliceData_zero w.drew _ _ 5 Tryz.bl169.t127 ⟨g, 0, none⟩ 0 (5, cur.size) (by have hg' : w.drew.heap[g]? = some (.cells cur 5 (0, 0)) := hg; simp [World.shape?, hg'])
  have c2 : (w.drew.alloc (.view ⟨g, 0, none⟩ 5)).cell? ⟨b, 1, none⟩ = some (.slice (some ⟨g, 0, none⟩) 0 0) := by
    have : (w.drew.alloc (.view ⟨g, 0, none⟩ 5)).heap[b]? = _ := (Lib.alloc_old w.drew _ b hlt).trans hbk
    rw [cell_of this]; rfl
  have c3 : (w.alloc (.view ⟨g, 0, none⟩ 5)).drew.cell? ⟨b, 1, none⟩ = some (.slice (some ⟨g, 0, none⟩) 0 0) := c2
  have c0 : w.cell? ⟨b, 1, none⟩ = some (.slice (some ⟨g, 0, none⟩) 0 0) := c1
  go_enter Tryz.func71, Tryz.ntmps71
  go_wp2
  go_region_o
  all_goals (go_wp2; go_ret; exact ⟨rfl, by first | exact .inl rfl | exact .inr rfl⟩)
set_option maxHeartbeats 2000000 in
set_option maxRecDepth 100000 in
theorem bs_room {b g cap : Nat} {p : Value} {w : World} (hc0 : cap ≠ 0) (hbk : w.heap[b]? = some (.cells #[p, .slice (some ⟨g, 0, none⟩) 0 cap] 114 (0, 0))) :
    Calls Tryz.prog 71 #[.pointer (some ⟨b, 0, none⟩)] w fun e w' => e = .returned (.string ⟨#[]⟩) ∧ w' = w.drew := by
  have hUS := us_none
  have hmx := mixed
  have c1 : w.drew.cell? ⟨b, 1, none⟩ = some (.slice (some ⟨g, 0, none⟩) 0 cap) := by
    have : w.drew.heap[b]? = some (.cells #[p, .slice (some ⟨g, 0, none⟩) 0 cap] 114 (0, 0)) := hbk
    rw [cell_of this]; rfl
  have hSD : (Builtin.unsafeSliceData_ #[22] 190 #[.slice (some ⟨g, 0, none⟩) 0 cap]).run Tryz.prog w.drew = .ok (.pointer (some ⟨g, 0, none⟩)) w.drew :=
    Lib.run_unsafeSliceData_row _ _ _ _ _ _ hc0
  clear hc0
  go_enter Tryz.func71, Tryz.ntmps71
  go_wp2
  go_region_o
  all_goals (go_wp2; go_ret; exact ⟨rfl, rfl⟩)
set_option maxHeartbeats 2000000 in
set_option maxRecDepth 100000 in
theorem bs_some {b g cap : Nat} {p : Value} {w : World} {cur : Array Value} {l : List UInt8} (h0 : l ≠ []) (hbk : w.heap[b]? = some (.cells #[p, .slice (some ⟨g, 0, none⟩) l.length cap] 114 (0, 0))) (hg : w.heap[g]? = some (.cells cur 5 (0, 0)))
    (hnc : l.length ≤ cap) (hcm : cap ≤ maxLen) (hcs : cur.size = cap * 1) (htake : cur.toList.take (l.length * 1) = Lib.byteCells l) :
    Calls Tryz.prog 71 #[.pointer (some ⟨b, 0, none⟩)] w fun e w' => e = .returned (.string ⟨l.toArray⟩) ∧ w' = w.drew.freeze ⟨g, 0, none⟩ l.length := by
  have hmx := mixed
  have hl0 : l.length ≠ 0 := by simpa using h0
  have c1 : w.drew.cell? ⟨b, 1, none⟩ = some (.slice (some ⟨g, 0, none⟩) l.length cap) := by
    have : w.drew.heap[b]? = some (.cells #[p, .slice (some ⟨g, 0, none⟩) l.length cap] 114 (0, 0)) := hbk
    rw [cell_of this]; rfl
  have hSD : (Builtin.unsafeSliceData_ #[22] 190 #[.slice (some ⟨g, 0, none⟩) l.length cap]).run Tryz.prog w.drew = .ok (.pointer (some ⟨g, 0, none⟩)) w.drew :=
    Lib.run_unsafeSliceData_row _ _ _ _ _ _ (by omega)
  have hUS : (Builtin.unsafeString_ #[190, 3] 9 #[.pointer (some ⟨g, 0, none⟩), .int .i64 l.length]).run Tryz.prog w.drew = .ok (.string ⟨l.toArray⟩) (w.drew.freeze ⟨g, 0, none⟩ l.length) := by
    refine Lib.run_unsafeString_row w.drew 190 3 9 5 Tryz.bl169.t127 Tryz.blX.cellsByte g cur.size (by have hg' : w.drew.heap[g]? = some (.cells cur 5 (0, 0)) := hg; simp [World.shape?, hg']) l h0 (by omega) (by unfold maxLen at hcm; omega) ?_
    intro j x hx
    have hg' : w.drew.heap[g]? = some (.cells cur 5 (0, 0)) := hg
    have h1 : (cur.toList.take (l.length * 1))[j]? = some (.int .u8 x.toNat) := by rw [htake]; simp [Lib.byteCells, hx]
    rw [List.getElem?_take] at h1
    split at h1
    · rw [show (⟨g, 0, none⟩ : Addr).add j = ⟨g, j, none⟩ by simp [Addr.add]; exact fun h => h.symm, cell_of hg', ← Array.getElem?_toList]
      exact h1
    · cases h1
  go_enter Tryz.func71, Tryz.ntmps71
  go_wp2
  go_region_o
  all_goals (go_wp2; go_ret; exact ⟨rfl, rfl⟩)
theorem bs_calls (l : List UInt8) (b : Nat) (p v : Value) (w : World) (h : Bld w 114 5 b p v l) :
    Calls Tryz.prog 71 #[.pointer (some ⟨b, 0, none⟩)] w fun r w' => r = .returned (.string ⟨l.toArray⟩) ∧ Turn w w' (ownB v) (fun _ => False) := by
  have hat := h.at_
  have drew : Turn w w.drew (ownB v) (fun _ => False) := ⟨rfl, rfl, rfl, Nat.le_refl _, fun _ _ _ => rfl, fun _ h => h.elim⟩
  rcases h.own.2 with ⟨rfl, h0⟩ | ⟨g, cap, cur, rfl, _, hg, hnc, hcm, hcs, htake⟩
  · obtain rfl : l = [] := List.length_eq_zero_iff.1 h0
    refine (bs_nil hat).mono ?_
    rintro r w' ⟨rfl, rfl⟩
    exact ⟨rfl, drew⟩
  · by_cases hl : l = []
    · subst hl
      by_cases hc0 : cap = 0
      · subst hc0
        refine (bs_noroom hat hg).mono ?_
        rintro r w' ⟨rfl, h2⟩
        refine ⟨rfl, ?_⟩
        rcases h2 with rfl | rfl
        · exact ⟨rfl, rfl, rfl, by simp, fun k hk _ => Below.heap_alloc w.drew _ k hk, fun _ h => h.elim⟩
        · exact ⟨rfl, rfl, rfl, by simp, fun k hk _ => Below.heap_alloc w _ k hk, fun _ h => h.elim⟩
      · refine (bs_room hc0 hat).mono ?_
        rintro r w' ⟨rfl, rfl⟩
        exact ⟨rfl, drew⟩
    · refine (bs_some hl hat hg hnc hcm hcs htake).mono ?_
      rintro r w' ⟨rfl, rfl⟩
      have d2 : Turn w w.drew (ownB (.slice (some ⟨g, 0, none⟩) l.length cap)) (ownB (.slice (some ⟨g, 0, none⟩) l.length cap)) := ⟨rfl, rfl, rfl, Nat.le_refl _, fun _ _ _ => rfl, fun _ h => .inl h⟩
      exact ⟨rfl, d2.trans (turn_freeze w.drew g l.length rfl)⟩
def runWS : List CV → Option (List CV × List CV)
  | [.box [.self T, .bts e l], .leaf (.str s)] => if (T = 114 ∧ e = 5) ∧ l.length + s.size ≤ 1000000000 then some ([.leaf (.int .i64 s.size), .gone], [.box [.self T, .bts e (l ++ s.data.toList)], .gone]) else none
  | _ => none
def runWB : List CV → Option (List CV × List CV)
  | [.box [.self T, .bts e l], .leaf (.int .u8 c)] => if (T = 114 ∧ e = 5) ∧ l.length + 1 ≤ 1000000000 ∧ 0 ≤ c ∧ c ≤ 255 then some ([.gone], [.box [.self T, .bts e (l ++ [UInt8.ofNat c.toNat])], .gone]) else none
  | _ => none
def runBS : List CV → Option (List CV × List CV)
  | [.box [.self T, .bts e l]] => if T = 114 ∧ e = 5 then some ([.leaf (.str ⟨l.toArray⟩)], [.box [.self T, .bad]]) else none
  | _ => none
theorem okWS : ∀ W, LaidX W → ∀ cs res outs, runWS cs = some (res, outs) → Answers Tryz.prog W 157 cs res outs ∧ ((⟨[.M, .V], true⟩ : Sig).own = true → res.all CV.free = true ∧ outs.all CV.free = true) := by
  intro W hX cs res outs h
  unfold runWS at h
  split at h
  · rename_i T e l s
    split at h
    · rename_i hc
      obtain ⟨⟨rfl, rfl⟩, hl⟩ := hc
      simp only [Option.some.injEq, Prod.mk.injEq] at h
      obtain ⟨rfl, rfl⟩ := h
      refine ⟨bld_answers (rv := .tuple #[.int .i64 s.size, .nilIface]) (vs := [.string s]) (more := [.leaf (.str s)]) rfl (fun b p v w hB => ws_calls l s hl b p v w hB) fun arg w I S => ?_, fun _ => ⟨rfl, rfl⟩⟩
      refine ⟨_, rfl, rfl, fun _ _ => False, fun _ _ h => h.elim, fun _ _ _ h => h.elim, fun j c hj => ?_⟩
      match j, hj with
      | 0, hj => obtain rfl := (Option.some.inj hj).symm; exact ⟨_, rfl, rfl, .int ..⟩
      | 1, hj => obtain rfl := (Option.some.inj hj).symm; exact ⟨_, rfl, trivial⟩
      | j + 2, hj => simp at hj
    · cases h
  · cases h
theorem okWB : ∀ W, LaidX W → ∀ cs res outs, runWB cs = some (res, outs) → Answers Tryz.prog W 70 cs res outs ∧ ((⟨[.M, .V], true⟩ : Sig).own = true → res.all CV.free = true ∧ outs.all CV.free = true) := by
  intro W hX cs res outs h
  unfold runWB at h
  split at h
  · rename_i T e l c
    split at h
    · rename_i hc
      obtain ⟨⟨rfl, rfl⟩, hl, c0, c1⟩ := hc
      simp only [Option.some.injEq, Prod.mk.injEq] at h
      obtain ⟨rfl, rfl⟩ := h
      have ec : (((UInt8.ofNat c.toNat).toNat : Nat) : Int) = c := by rw [UInt8.toNat_ofNat']; omega
      refine ⟨bld_answers (rv := .nilIface) (vs := [.int .u8 c]) (more := [.leaf (.int .u8 c)]) rfl (fun b p v w hB => ?_) fun arg w I S => trivial, fun _ => ⟨rfl, rfl⟩⟩
      have := wb_calls l (UInt8.ofNat c.toNat) hl b p v w hB
      rwa [ec] at this
    · cases h
  · cases h
theorem okBS : ∀ W, LaidX W → ∀ cs res outs, runBS cs = some (res, outs) → Answers Tryz.prog W 71 cs res outs ∧ ((⟨[.M], true⟩ : Sig).own = true → res.all CV.free = true ∧ outs.all CV.free = true) := by
  intro W hX cs res outs h
  unfold runBS at h
  split at h
  · rename_i T e l
    split at h
    · rename_i hc
      obtain ⟨rfl, rfl⟩ := hc
      simp only [Option.some.injEq, Prod.mk.injEq] at h
      obtain ⟨rfl, rfl⟩ := h
      exact ⟨bstr_answers fun b p v w hB => bs_calls l b p v w hB, fun _ => ⟨rfl, rfl⟩⟩
    · cases h
  · cases h
def prim_strings_Builder_WriteString : PEntry Tryz.prog LaidX := ⟨157, ⟨[.M, .V], true⟩, runWS, by kernel_rfl, okWS⟩
def prim_strings_Builder_WriteByte : PEntry Tryz.prog LaidX := ⟨70, ⟨[.M, .V], true⟩, runWB, by kernel_rfl, okWB⟩
def prim_strings_Builder_String : PEntry Tryz.prog LaidX := ⟨71, ⟨[.M], true⟩, runBS, by kernel_rfl, okBS⟩
end Go.Proofs.YtjcjodcpiickaaaGreatDoor
