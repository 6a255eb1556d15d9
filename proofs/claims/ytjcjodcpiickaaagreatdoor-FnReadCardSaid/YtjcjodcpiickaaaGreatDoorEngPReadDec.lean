/- impl.ReadDec: a walk, over what TrimPrefix, inRange and Dec answer. -/
import Derived.Test.YtjcjodcpiickaaaGreatDoorPreTab
import Derived.Test.YtjcjodcpiickaaaGreatDoorEngPItoa
import Derived.Test.YtjcjodcpiickaaaGreatDoorEngM7
import Derived.Lib.Hide
import Derived.Tactics
import Derived.WalkKit
namespace Go.Proofs.YtjcjodcpiickaaaGreatDoor
open Go Go.VS Go.RowKit
set_option linter.unusedVariables false
set_option linter.unusedSimpArgs false
structure Aside0 (p : Prop) : Prop where mk :: (out : p)
theorem below_then {B : Nat} {w w1 w2 : World} (h : Below B w w1) (hB : B ≤ w1.heap.size) (k : Below w1.heap.size w1 w2) : Below B w w2 :=
 ⟨k.os.trans h.os, k.tape.trans h.tape, k.output.trans h.output, Nat.le_trans h.size k.size, fun i hi => (k.block i (Nat.lt_of_lt_of_le hi hB)).trans (h.block i hi)⟩
/-- A text without the minus that it begins with. -/
def trimMinus (s : ByteArray) : ByteArray := if 1 ≤ s.size ∧ s.extract 0 1 = ⟨#[45]⟩ then s.extract 1 s.size else s
namespace Pre
theorem inRange (n lo hi : Int) : A 99 [.leaf (.int .i64 n), .leaf (.int .i64 lo), .leaf (.int .i64 hi)] = some ([.leaf (.bool (decide (lo ≤ n) && decide (n ≤ hi)))], [.gone, .gone, .gone]) := by
 refine run_impl_inRange ?_
 by_cases h : lo ≤ n
 ·simp [impl_inRange.b, h]
 ·simp [impl_inRange.b, h]
theorem hasPrefix (s : ByteArray) : A 287 [.leaf (.str s), .leaf (.str ⟨#[45]⟩)] = some ([.leaf (.bool (decide (1 ≤ s.size ∧ s.extract 0 1 = ⟨#[45]⟩)))], [.gone, .gone]) := by
 refine run_i_stringslite_HasPrefix ?_
 by_cases h : 1 ≤ s.size
 ·have h' : (1 : Int) ≤ s.size := by omega
  simp [i_stringslite_HasPrefix.b, h, h']
 ·have h' : ¬ (1 : Int) ≤ s.size := by omega
  simp [i_stringslite_HasPrefix.b, h, h']
theorem trim0 (s : ByteArray) : A 272 [.leaf (.str s), .leaf (.str ⟨#[45]⟩)] = some ([.leaf (.str (trimMinus s))], [.gone, .gone]) := by
 refine run_i_stringslite_TrimPrefix ?_
 by_cases h : 1 ≤ s.size ∧ s.extract 0 1 = ⟨#[45]⟩
 ·simp [i_stringslite_TrimPrefix.b, hasPrefix, trimMinus, h]
 ·simp [i_stringslite_TrimPrefix.b, hasPrefix, trimMinus, h]
theorem trim (s : ByteArray) : A 254 [.leaf (.str s), .leaf (.str ⟨#[45]⟩)] = some ([.leaf (.str (trimMinus s))], [.gone, .gone]) := by
 refine run_strings_TrimPrefix ?_
 simp [strings_TrimPrefix.b, trim0]
theorem itoa (n : Int) (h : -9223372036854775808 ≤ n ∧ n ≤ 9223372036854775807) : A 218 [.leaf (.int .i64 n)] = some ([.leaf (.str ⟨(Lib.itoa n).toArray⟩)], [.gone]) :=
 A_prim T_strconv_Itoa (by simp only [ptab, tabP, prim_strconv_Itoa, if_true, runItoa, if_pos h])
theorem dec (n : Int) (h : -9223372036854775808 ≤ n ∧ n ≤ 9223372036854775807) : A 158 [.leaf (.int .i64 n)] = some ([.leaf (.str ⟨(Lib.itoa n).toArray⟩)], [.gone]) := by
 refine run_impl_Dec ?_
 simp [impl_Dec.b, itoa, h]
theorem trim_calls (s d : ByteArray) (hs : s.size ≤ 140737488351232) (w : World) (hX : LaidX w) (hd : trimMinus s = d) : Calls Tryz.prog 254 #[.string s, .string ⟨#[45]⟩] w fun e w' => e = .returned (.string d) ∧ Below w.heap.size w w' := by
 subst hd
 exact calls_scal (cs := [.leaf (.str s), .leaf (.str ⟨#[45]⟩)]) (res := [.leaf (.str (trimMinus s))]) (rs := [.string (trimMinus s)]) (A_answers hX G_254 (trim s)) rfl rfl
theorem range_calls (n : Nat) (b : Bool) (w : World) (hX : LaidX w) (hb : decide (1 ≤ n ∧ n ≤ 9) = b) : Calls Tryz.prog 99 #[.int .i64 n, .int .i64 1, .int .i64 9] w fun e w' => e = .returned (.bool b) ∧ Below w.heap.size w w' := by
 subst hb
 have h := inRange n 1 9
 have e : (decide ((1 : Int) ≤ n) && decide ((n : Int) ≤ 9)) = decide (1 ≤ n ∧ n ≤ 9) := by
  rw [Bool.eq_iff_iff]; simp; omega
 rw [e] at h
 exact calls_scal (cs := [.leaf (.int .i64 n), .leaf (.int .i64 1), .leaf (.int .i64 9)]) (res := [.leaf (.bool (decide (1 ≤ n ∧ n ≤ 9)))]) (rs := [.bool (decide (1 ≤ n ∧ n ≤ 9))]) (A_answers hX G_99 h) rfl rfl
theorem dec_calls (v : Int) (t : ByteArray) (hv : -9223372036854775808 ≤ v ∧ v ≤ 9223372036854775807) (ht : t = ⟨(Lib.itoa v).toArray⟩) (w : World) (hX : LaidX w) : Calls Tryz.prog 158 #[.int .i64 v] w fun e w' => e = .returned (.string t) ∧ Below w.heap.size w w' := by
 subst ht
 exact calls_scal (cs := [.leaf (.int .i64 v)]) (res := [.leaf (.str ⟨(Lib.itoa v).toArray⟩)]) (rs := [.string ⟨(Lib.itoa v).toArray⟩]) (A_answers hX G_158 (dec v hv)) rfl rfl
end Pre
set_option maxHeartbeats 1000000 in
theorem readDec.short (a0 d : ByteArray) (w : World) (hL : LaidX w) (hd : trimMinus a0 = d) (hs : a0.size ≤ 140737488351232) (hb : ¬ (1 ≤ d.size ∧ d.size ≤ 9)) :
  Calls Tryz.prog 222 #[.string a0] w fun e w' => e = .returned (.tuple #[.int .i64 0, .bool false]) ∧ Below w.heap.size w w' := by
 have hd' := Aside0.mk hd
 have hb' := Aside0.mk hb
 have hL' := Aside0.mk hL
 clear hd hb hL
 go_enter Tryz.func222, Tryz.ntmps222
 go_wp2_with fail
 refine (Pre.trim_calls a0 d hs _ (hL'.out) hd'.out).mono ?_
 rintro e w1 ⟨rfl, hw1⟩
 have HB := Aside0.mk hw1
 clear hw1
 go_wp2_with fail
 refine (Pre.range_calls d.size false _ (hL'.out.below HB.out) (by simp only [decide_eq_false hb'.out])).mono ?_
 rintro e w2 ⟨rfl, hw2⟩
 have HB2 := Aside0.mk (below_then HB.out HB.out.size hw2)
 clear hw2
 go_wp2_with fail
 go_ret2
 exact ⟨rfl, HB2.out⟩
set_option maxHeartbeats 1000000 in
theorem readDec.failed (a0 d : ByteArray) (w : World) (hL : LaidX w) (hs : a0.size ≤ 140737488351232) (hd : trimMinus a0 = d) (hb : 1 ≤ d.size ∧ d.size ≤ 9)
  (hA : ∀ v, Lib.atoiAll a0.data.toList ≠ .ok v) :
  Calls Tryz.prog 222 #[.string a0] w fun e w' => e = .returned (.tuple #[.int .i64 0, .bool false]) ∧ Below w.heap.size w w' := by
 have hat : ∀ W : World, LaidX W → Calls Tryz.prog 255 #[.string a0] W fun e w' => ∃ (x : Int) (u : Nat) (N : Nat), e = .returned (.tuple #[.int .i64 x, .iface u (.pointer (some ⟨N, 0, none⟩))]) ∧ Below W.heap.size W w' := by
  intro W hLW
  by_cases hr : Lib.atoiAll a0.data.toList = .range
  rotate_left
  ·obtain ⟨tp, p, hv⟩ := hLW.esyn
   refine (Tryz.strconv_Atoi_syntax_var a0 (by omega) hA hr tp p W hv).mono ?_
   rintro e w' ⟨N, rfl, _, _, hB⟩
   exact ⟨_, _, N, rfl, hB⟩
  ·obtain ⟨tp, p, hv⟩ := hLW.eran
   refine (Tryz.strconv_Atoi_range_var a0 (by omega) hr tp p W hv).mono ?_
   rintro e w' ⟨N, rfl, _, _, hB⟩
   exact ⟨_, _, N, rfl, hB⟩
 have hat' := Aside0.mk hat
 have hd' := Aside0.mk hd
 have hb' := Aside0.mk hb
 have hL' := Aside0.mk hL
 clear hd hb hat hA hL
 go_enter Tryz.func222, Tryz.ntmps222
 go_wp2_with fail
 refine (Pre.trim_calls a0 d hs _ (hL'.out) hd'.out).mono ?_
 rintro e w1 ⟨rfl, hw1⟩
 have HB := Aside0.mk hw1
 clear hw1
 go_wp2_with fail
 refine (Pre.range_calls d.size true _ (hL'.out.below HB.out) (by simp only [decide_eq_true hb'.out])).mono ?_
 rintro e w2 ⟨rfl, hw2⟩
 have HB2 := Aside0.mk (below_then HB.out HB.out.size hw2)
 clear hw2
 go_wp2_with fail
 refine (hat'.out _ (hL'.out.below HB2.out)).mono ?_
 rintro e w3 ⟨x, u, N, rfl, hB3⟩
 have HB3 := Aside0.mk (below_then HB2.out HB2.out.size hB3)
 clear hB3
 go_wp2_with fail
 go_ret2
 exact ⟨rfl, HB3.out⟩
set_option maxHeartbeats 1000000 in
theorem readDec.told (a0 d t : ByteArray) (v : Int) (w : World) (hL : LaidX w) (hs : a0.size ≤ 140737488351232) (hd : trimMinus a0 = d) (hb : 1 ≤ d.size ∧ d.size ≤ 9)
  (hA : Lib.atoiAll a0.data.toList = .ok v) (hv : -9223372036854775808 ≤ v ∧ v ≤ 9223372036854775807) (ht : t = ⟨(Lib.itoa v).toArray⟩) :
  Calls Tryz.prog 222 #[.string a0] w fun e w' => e = .returned (if t.toList = a0.toList then .tuple #[.int .i64 v, .bool true] else .tuple #[.int .i64 0, .bool false]) ∧ Below w.heap.size w w' := by
 have hat : ∀ W : World, Calls Tryz.prog 255 #[.string a0] W fun e w' => e = .returned (.tuple #[.int .i64 v, .nilIface]) ∧ Below W.heap.size W w' := by
  intro W
  refine (Tryz.strconv_Atoi_ok a0 (by omega) v hA W).mono ?_
  rintro e w' ⟨rfl, hW⟩
  refine ⟨rfl, ?_⟩
  rcases hW with rfl | ⟨t, rfl⟩
  ·exact Below.refl _ _
  ·exact Lib.bytesWorld_below _ _ _
 have hat' := Aside0.mk hat
 have hd' := Aside0.mk hd
 have hb' := Aside0.mk hb
 have hL' := Aside0.mk hL
 have ht' := Aside0.mk ht
 clear hd hb hat hA hL ht
 by_cases he : t.toList = a0.toList
 ·rw [if_pos he]
  have e0 : (t.toList == a0.toList) = true := by simpa using he
  have e1 : (t.toList != a0.toList) = false := by simpa using he
  clear he
  go_enter Tryz.func222, Tryz.ntmps222
  go_wp2_with fail
  refine (Pre.trim_calls a0 d hs _ (hL'.out) hd'.out).mono ?_
  rintro e w1 ⟨rfl, hw1⟩
  have HB := Aside0.mk hw1
  clear hw1
  go_wp2_with fail
  refine (Pre.range_calls d.size true _ (hL'.out.below HB.out) (by simp only [decide_eq_true hb'.out])).mono ?_
  rintro e w2 ⟨rfl, hw2⟩
  have HB2 := Aside0.mk (below_then HB.out HB.out.size hw2)
  clear hw2
  go_wp2_with fail
  refine (hat'.out _).mono ?_
  rintro e w3 ⟨rfl, hB3⟩
  have HB3 := Aside0.mk (below_then HB2.out HB2.out.size hB3)
  clear hB3
  go_wp2_with fail
  refine (Pre.dec_calls v t hv ht'.out _ (hL'.out.below HB3.out)).mono ?_
  rintro e w4 ⟨rfl, hB4⟩
  have HB4 := Aside0.mk (below_then HB3.out HB3.out.size hB4)
  clear hB4
  go_wp2_with fail
  go_ret2
  exact ⟨rfl, HB4.out⟩
 ·rw [if_neg he]
  have e0 : (t.toList == a0.toList) = false := by simpa using he
  have e1 : (t.toList != a0.toList) = true := by simpa using he
  clear he
  go_enter Tryz.func222, Tryz.ntmps222
  go_wp2_with fail
  refine (Pre.trim_calls a0 d hs _ (hL'.out) hd'.out).mono ?_
  rintro e w1 ⟨rfl, hw1⟩
  have HB := Aside0.mk hw1
  clear hw1
  go_wp2_with fail
  refine (Pre.range_calls d.size true _ (hL'.out.below HB.out) (by simp only [decide_eq_true hb'.out])).mono ?_
  rintro e w2 ⟨rfl, hw2⟩
  have HB2 := Aside0.mk (below_then HB.out HB.out.size hw2)
  clear hw2
  go_wp2_with fail
  refine (hat'.out _).mono ?_
  rintro e w3 ⟨rfl, hB3⟩
  have HB3 := Aside0.mk (below_then HB2.out HB2.out.size hB3)
  clear hB3
  go_wp2_with fail
  refine (Pre.dec_calls v t hv ht'.out _ (hL'.out.below HB3.out)).mono ?_
  rintro e w4 ⟨rfl, hB4⟩
  have HB4 := Aside0.mk (below_then HB3.out HB3.out.size hB4)
  clear hB4
  go_wp2_with fail
  go_ret2
  exact ⟨rfl, HB4.out⟩

/-- The number that a text of at most nine digits tells, if it is written as one writes it. -/
def readDecR (s : ByteArray) : Option (Int × Bool) :=
 if 1 ≤ (trimMinus s).size ∧ (trimMinus s).size ≤ 9 then
  match Lib.atoiAll s.data.toList with
  | .ok v => if -9223372036854775808 ≤ v ∧ v ≤ 9223372036854775807 then (if (⟨(Lib.itoa v).toArray⟩ : ByteArray) = s then some (v, true) else some (0, false)) else none
  | _ => some (0, false)
 else some (0, false)
def runReadDec : List CV → Option (List CV × List CV)
 | [.leaf (.str s)] => if s.size ≤ 140737488351232 then (readDecR s).map fun q => ([.leaf (.int .i64 q.1), .leaf (.bool q.2)], [.gone]) else none
 | _ => none
theorem readDec_calls (s : ByteArray) (q : Int × Bool) (hs : s.size ≤ 140737488351232) (w : World) (hL : LaidX w) (h : readDecR s = some q) : Calls Tryz.prog 222 #[.string s] w fun e w' => e = .returned (.tuple #[.int .i64 q.1, .bool q.2]) ∧ Below w.heap.size w w' := by
 unfold readDecR at h
 by_cases hb : 1 ≤ (trimMinus s).size ∧ (trimMinus s).size ≤ 9
 ·rw [if_pos hb] at h
  rcases hA : Lib.atoiAll s.data.toList with v | _ | _
  rotate_left
  ·rw [hA] at h
   obtain rfl := Option.some.inj h
   exact readDec.failed s _ w hL hs rfl hb (fun v hv => by rw [hA] at hv; cases hv)
  ·rw [hA] at h
   obtain rfl := Option.some.inj h
   exact readDec.failed s _ w hL hs rfl hb (fun v hv => by rw [hA] at hv; cases hv)
  ·rw [hA] at h
   simp only at h
   split at h
   ·rename_i hv
    refine (readDec.told s _ _ v w hL hs rfl hb hA hv rfl).mono ?_
    rintro e w' ⟨rfl, hB⟩
    refine ⟨?_, hB⟩
    by_cases he : (⟨(Lib.itoa v).toArray⟩ : ByteArray) = s
    ·rw [if_pos he] at h
     obtain rfl := Option.some.inj h
     rw [if_pos (by rw [he])]
    ·rw [if_neg he] at h
     obtain rfl := Option.some.inj h
     rw [if_neg (fun hh => he (toList_injE.1 hh))]
   ·cases h
 ·rw [if_neg hb] at h
  obtain rfl := Option.some.inj h
  exact readDec.short s _ w hL rfl hs hb
theorem okReadDec : ∀ W, LaidX W → ∀ cs res outs, runReadDec cs = some (res, outs) → Answers Tryz.prog W 222 cs res outs ∧ ((⟨[.V], true⟩ : Sig).own = true → res.all CV.free = true ∧ outs.all CV.free = true) := by
 intro W hX cs res outs h
 unfold runReadDec at h
 split at h
 ·rename_i s
  split at h
  ·rename_i hs
   rw [Option.map_eq_some_iff] at h
   obtain ⟨q, hq, h⟩ := h
   simp only [Prod.mk.injEq] at h
   obtain ⟨rfl, rfl⟩ := h
   exact ⟨answers_scal (cs := [.leaf (.str s)]) (vs := [.string s]) (rs := [.int .i64 q.1, .bool q.2]) rfl rfl fun w hw => readDec_calls s q hs w (hX.below hw) hq, fun _ => ⟨rfl, rfl⟩⟩
  ·cases h
 ·cases h
def prim_impl_ReadDec : PEntry Tryz.prog LaidX := ⟨222, ⟨[.V], true⟩, runReadDec, by kernel_rfl, okReadDec⟩
end Go.Proofs.YtjcjodcpiickaaaGreatDoor
