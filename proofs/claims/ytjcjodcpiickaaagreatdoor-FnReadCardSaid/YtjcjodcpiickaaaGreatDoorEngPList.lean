/- (*reader).list: a walk of the range over slices.Backward, over what (*reader).put answers. -/
import Derived.Test.YtjcjodcpiickaaaGreatDoorPreRTab
import Derived.Test.YtjcjodcpiickaaaGreatDoorEngDoor
import Derived.Test.YtjcjodcpiickaaaGreatDoorEngTrim
import Derived.RangeFuncBox
import Derived.RangeFuncLeaves
import Derived.RangeFuncCalls
import Derived.RangeFuncNested
import Derived.Shelf.Abstract
import Derived.WalkKit
import Derived.OwnWalkIn
import Derived.TacticsInMore
import Derived.LoopNIn
import Derived.LoopIn
namespace Go.Proofs.YtjcjodcpiickaaaGreatDoor
open Go Go.VS Go.RowKit Go.Shelf
set_option linter.unusedVariables false
set_option linter.unusedSimpArgs false
attribute [local go_sem] Oper.semAt_some
abbrev rdR (s : ByteArray) (n p : Int) (t : ByteArray) (rows : List (List L)) (bad : Bool) : List L := [.str s, .int .i64 n, .int .i64 p, .str t, .sl true 5 rows, .bool bad]
abbrev pairL (l e : Int) : List L := [.int .i64 5, .int .i64 0, .str ⟨#[]⟩, .int .i64 l, .int .i64 e]
namespace PreR
theorem put_full (s : ByteArray) (n p : Int) (t : ByteArray) (rows : List (List L)) (bad : Bool) (l e : Int) (h : 1000 ≤ rows.length) : A 214 [.box (rdR s n p t rows bad), .agg (pairL l e)] = some ([.leaf (.int .i64 0)], [.box (rdR s n p t rows true), .gone]) := by
 refine run_impl_reader_put ?_
 have h1 : (1000 : Int) ≤ rows.length := by omega
 simp (maxSteps := 1000000) (disch := omega) [ip, wr, impl_reader_put.b, h1]
theorem put_room (s : ByteArray) (n p : Int) (t : ByteArray) (rows : List (List L)) (bad : Bool) (l e : Int) (h : rows.length < 1000) : A 214 [.box (rdR s n p t rows bad), .agg (pairL l e)] = some ([.leaf (.int .i64 rows.length)], [.box (rdR s n p t (rows ++ [pairL l e]) bad), .gone]) := by
 refine run_impl_reader_put ?_
 have h1 : ¬ (1000 : Int) ≤ rows.length := by omega
 simp (maxSteps := 1000000) (disch := omega) [ip, wr, impl_reader_put.b, h1]
end PreR
/-! slices.Backward. -/
/-- What has come when k rounds are over. -/
def downTo (zs : List Int) (k : Nat) : List (Int × Int) := (List.range k).map fun j : Nat => (((zs.length : Int) - 1 - j), zs[zs.length - 1 - j]?.getD 0)
theorem downTo_succ (zs : List Int) (k : Nat) : downTo zs (k + 1) = downTo zs k ++ [((zs.length : Int) - 1 - k, zs[zs.length - 1 - k]?.getD 0)] := by simp [downTo, List.range_succ]
theorem downTo_length (zs : List Int) (k : Nat) : (downTo zs k).length = k := by simp [downTo]
theorem downTo_snd (zs : List Int) : (downTo zs zs.length).map (·.2) = zs.reverse := by
 apply List.ext_getElem
 ·simp [downTo]
 ·intro i h1 h2
  have h3 : i < zs.length := by simpa [downTo] using h1
  have h4 : zs.length - 1 - i < zs.length := by omega
  simp only [downTo, List.map_map, List.getElem_map, List.getElem_range, Function.comp_apply, List.getElem_reverse]
  rw [List.getElem?_eq_getElem h4]
  rfl
theorem downTo_pre (zs : List Int) {k : Nat} (hk : k ≤ zs.length) : ∃ rest, downTo zs zs.length = downTo zs k ++ rest := by
 obtain ⟨m, hm⟩ : ∃ m, zs.length = k + m := ⟨zs.length - k, by omega⟩
 have key : ∀ m, ∃ rest, downTo zs (k + m) = downTo zs k ++ rest := by
  intro m
  induction m with
  | zero => exact ⟨[], by simp⟩
  | succ m ih =>
   obtain ⟨r, hr⟩ := ih
   exact ⟨r ++ [_], by rw [← Nat.add_assoc, downTo_succ, hr, List.append_assoc]⟩
 rw [hm]
 have := key m
 rw [← hm] at this ⊢
 exact this
/-- Blocks that stay as they are. -/
def Same (K : Nat → Prop) (A B : World) : Prop := ∀ k, K k → B.heap[k]? = A.heap[k]?
set_option maxHeartbeats 1000000 in
theorem back_in (F : Fence) (n : Nat) (h70 : F.fn 252) (hro : F.round = none) (a : Option Addr) (len cap : Nat) (w : World) :
  CallsIn F n Tryz.prog 252 #[.slice a len cap] w fun e w' => e = .returned (.func (.func 270) #[] #[.pointer (some ⟨w.heap.size, 0, none⟩)]) ∧ w' = w.alloc (.cells #[.slice a len cap] 26) := by
 refine callsIn_of_wp Tryz.func252 rfl h70 ?_ hro
 simp only [Tryz.ntmps252, List.size_toArray, List.length_cons, List.length_nil, Nat.reduceAdd, Nat.reduceSub, Array.replicate_succ, Array.replicate_zero, List.push_toArray, List.append_toArray, List.nil_append, List.cons_append]
 gi_wp2
 go_ret
 exact ⟨rfl, rfl⟩
set_option maxRecDepth 100000 in
set_option maxHeartbeats 4000000 in
/-- The closure of slices.Backward, at a row that is there. -/
theorem back1_in (F : Fence) (n : Nat) (h75 : F.fn 270) (hro : F.round = none) (hn : 1 ≤ n) (l Bs b off cap : Nat) (zs : List Int) (hreach : zs.length * 8 ≤ 140737488351232) (K : Nat → Prop) (hKs : K Bs) (hKb : K b) (J Jx : List (Int × Int) → World → Prop)
  (hY : ∀ pre x W, J pre W → pre.length < zs.length → YieldAt F (n - 1) Tryz.prog l #[.int .i64 x.1, .int .i64 x.2] W fun e W' =>
   (e = .returned (.bool true) ∧ J (pre ++ [x]) W' ∧ Same K W W') ∨ (e = .returned (.bool false) ∧ Jx (pre ++ [x]) W'))
  (W : World) (hBs : W.cell? ⟨Bs, 0, none⟩ = some (.slice (some ⟨b, off, none⟩) zs.length cap)) (hc : ∀ j, j < zs.length → W.cell? ⟨b, off + j, none⟩ = some (.int .i64 (zs[j]?.getD 0))) (h0 : J [] W) :
  CallsIn F n Tryz.prog 270 #[.func (.yield l) #[] #[], .pointer (some ⟨Bs, 0, none⟩)] W fun e W' => (∃ v, e = .returned v) ∧
   ((∃ ys, ys = downTo zs zs.length ∧ J ys W') ∨ (∃ pre, (∃ k, k ≤ zs.length ∧ pre = downTo zs k) ∧ Jx pre W')) := by
 refine callsIn_of_wp Tryz.func270 rfl h75 ?_ hro
 simp only [Tryz.ntmps270, List.size_toArray, List.length_cons, List.length_nil, Nat.reduceAdd, Nat.reduceSub, Array.replicate_succ, Array.replicate_zero, List.push_toArray, List.append_toArray, List.nil_append, List.cons_append]
 gi_wp2
 gi_loopw [3] (fun i wr => ∃ k : Nat, k ≤ zs.length ∧ i = .int .i64 ((zs.length : Int) - 1 - k) ∧ J (downTo zs k) wr ∧ Same K W wr)
  (fun i _ => (RowKit.intOf i + 1).toNat)
 case atStart => exact ⟨0, Nat.zero_le _, by go_num, h0, fun _ _ => rfl⟩
 case round =>
  obtain ⟨k, hk, rfl, hJs, hnx⟩ := hrel
  have hBx : wr.cell? ⟨Bs, 0, none⟩ = some (.slice (some ⟨b, off, none⟩) zs.length cap) := (World.cell?_of_block (hnx Bs hKs)).trans hBs
  by_cases hlt : k < zs.length
  ·have hcx : wr.cell? ⟨b, off + (zs.length - 1 - k), none⟩ = some (.int .i64 (zs[zs.length - 1 - k]?.getD 0)) := (World.cell?_of_block (hnx b hKb)).trans (hc _ (by omega))
   obtain ⟨fn, tmps, assign, body, hy, hR⟩ := hY _ ((zs.length : Int) - 1 - k, zs[zs.length - 1 - k]?.getD 0) wr hJs (by rw [downTo_length]; exact hlt)
   dsimp only at hy
   have ei : ((zs.length : Int) - 1 - k) = ((zs.length - 1 - k : Nat) : Int) := by omega
   rw [ei] at hy hR ⊢
   generalize hm : zs.length - 1 - k = m at *
   gi_wp2
   refine hR.mono ?_
   rintro e W3 (⟨rfl, hJ3, hk3⟩ | ⟨rfl, hJx3⟩)
   ·gi_wp2
    go_roundw
    case rel => exact ⟨k + 1, by omega, by go_num, by rw [downTo_succ, hm, ei]; exact hJ3, fun j hj => (hk3 j hj).trans (hnx j hj)⟩
    case measure => simp [RowKit.intOf] <;> omega
   ·gi_wp2
    refine bodyPost_ret (results_none rfl _ _ _) rfl ?_
    exact ⟨⟨_, rfl⟩, .inr ⟨_, ⟨k + 1, by omega, by rw [downTo_succ, hm, ei]⟩, hJx3⟩⟩
  ·obtain rfl : k = zs.length := by omega
   gi_wp2
   go_end0
   exact ⟨⟨_, rfl⟩, .inl ⟨_, rfl, hJs⟩⟩
set_option maxRecDepth 100000 in
set_option maxHeartbeats 1000000 in
theorem back1_nil_in (F : Fence) (n : Nat) (h75 : F.fn 270) (hro : F.round = none) (l Bs : Nat) (a : Option Addr) (cap : Nat) (J : List (Int × Int) → World → Prop) (W : World) (hBs : W.cell? ⟨Bs, 0, none⟩ = some (.slice a 0 cap)) (h0 : J [] W) :
  CallsIn F n Tryz.prog 270 #[.func (.yield l) #[] #[], .pointer (some ⟨Bs, 0, none⟩)] W fun e W' => (∃ v, e = .returned v) ∧ J [] W' := by
 refine callsIn_of_wp Tryz.func270 rfl h75 ?_ hro
 simp only [Tryz.ntmps270, List.size_toArray, List.length_cons, List.length_nil, Nat.reduceAdd, Nat.reduceSub, Array.replicate_succ, Array.replicate_zero, List.push_toArray, List.append_toArray, List.nil_append, List.cons_append]
 gi_wp2
 gi_loopw [3] (fun i wr => i = .int .i64 (-1) ∧ J [] wr) (fun _ _ => 0)
 case atStart => exact ⟨by go_num, h0⟩
 case round =>
  obtain ⟨rfl, hJs⟩ := hrel
  gi_wp2
  go_end0
  exact ⟨⟨_, rfl⟩, hJs⟩
/-- A slice value with these ints, in a block below n₀; or none. -/
def IntsAt (K : Nat → Prop) (W : World) (sv : Value) (zs : List Int) : Prop :=
 (∃ a cap, sv = .slice a 0 cap ∧ zs = []) ∨ ∃ b off cap, sv = .slice (some ⟨b, off, none⟩) zs.length cap ∧ K b ∧ ∀ j, j < zs.length → W.cell? ⟨b, off + j, none⟩ = some (.int .i64 (zs[j]?.getD 0))
theorem back_stops (F : Fence) (n : Nat) (h75 : F.fn 270) (hro : F.round = none) (hn : 1 ≤ n) (Bs : Nat) (sv : Value) (zs : List Int) (hreach : zs.length * 8 ≤ 140737488351232) (w : World) (K : Nat → Prop) (hKs : K Bs) (hKw : ∀ k, K k → k < w.heap.size)
  (hc : w.cell? ⟨Bs, 0, none⟩ = some sv) (hI : IntsAt K w sv zs) :
  SeqStopsK F n Tryz.prog 270 #[.pointer (some ⟨Bs, 0, none⟩)] (fun x : Int × Int => #[Value.int .i64 x.1, Value.int .i64 x.2]) (Same K) (fun ys => ys = downTo zs zs.length)
   (fun pre => ∃ k, k ≤ zs.length ∧ pre = downTo zs k) zs.length w := fun l J Jx W hW _ _ hY h0 => by
 have hs : ∀ k, K k → W.heap[k]? = w.heap[k]? := fun k hk => hW.block k (hKw k hk)
 have hc' : W.cell? ⟨Bs, 0, none⟩ = some sv := (World.cell?_of_block (hs Bs hKs)).trans hc
 rcases hI with ⟨a, cap, rfl, rfl⟩ | ⟨b, off, cap, rfl, hb, hcs⟩
 ·exact (back1_nil_in F n h75 hro l Bs a cap J W hc' h0).mono fun e W' ⟨he, hj⟩ => ⟨he, .inl ⟨_, rfl, hj⟩⟩
 ·exact back1_in F n h75 hro hn l Bs b off cap zs hreach K hKs hb J Jx hY W hc' (fun j hj => (World.cell?_of_block (hs b hb)).trans (hcs j hj)) h0
/-! The list. -/
/-- Pairs behind all, for the parts from the last on. -/
def goL : List Int → List (List L) → Bool → Int → List (List L) × Bool × Int
 | [], rows, bad, e => (rows, bad, e)
 | p :: ps, rows, bad, e => if bad = true then (rows, true, 0) else if 1000 ≤ rows.length then goL ps rows true 0 else goL ps (rows ++ [pairL p e]) bad rows.length
/-- What lies where, between two rounds. -/
structure LI (W0 w : World) (I A0 : Nat → Prop) (u : Value) (s : ByteArray) (n p : Int) (t : ByteArray) (rows : List (List L)) (bad : Bool) (e : Int) (W : World) : Prop where
 bel : Below W0.heap.size W0 W
 size : w.heap.size + 4 ≤ W.heap.size
 kept : ∀ k, k < w.heap.size → ¬ A0 k → W.heap[k]? = w.heap[k]?
 b3 : Boxed W w.heap.size 179 u
 b5 : Boxed W (w.heap.size + 1) 3 (.int .i64 e)
 b6 : Boxed W (w.heap.size + 2) 3 (.int .i64 0)
 free : freeRR rows = true
 box : ∃ T : Nat → Prop, RepC (fun _ => undef) W (fun _ => False) (.box (rdR s n p t rows bad)) u T ∧ ∀ x, T x → CellsIn W x ∧ (A0 x ∨ w.heap.size + 4 ≤ x)
variable {W0 w W W' : World} {I A0 : Nat → Prop} {u : Value} {s : ByteArray} {n p : Int} {t : ByteArray} {rows rows' : List (List L)} {bad bad' : Bool} {e e' : Int}
theorem LI.grown (h : LI W0 w I A0 u s n p t rows bad e W) (h0 : W0.heap.size ≤ w.heap.size) {row : Option Nat} (hg : W.grownBy W' row) (hr : ∀ r, row = some r → w.heap.size + 4 ≤ r ∧ ∃ o : Obj, W.heap[r]? = some o ∧ o.isCells = false) : LI W0 w I A0 u s n p t rows bad e W' := by
 obtain ⟨T, hT, hT2⟩ := h.box
 have hlow : ∀ k, k < w.heap.size + 4 → W'.heap[k]? = W.heap[k]? := fun k hk => hg.block k (by have := h.size; omega) fun he => by have := (hr k he.symm).1; omega
 have hcell : ∀ x, CellsIn W x → W'.heap[x]? = W.heap[x]? := fun x hx => by
  obtain ⟨cs, e, f, hx⟩ := hx
  refine hg.block x (Array.getElem?_eq_some_iff.1 hx).1 fun he => ?_
  obtain ⟨_, o, ho, hc⟩ := hr x he.symm
  rw [hx] at ho
  cases ho
  cases hc
 refine ⟨⟨hg.os.trans h.bel.os, hg.tape.trans h.bel.tape, hg.output.trans h.bel.output, Nat.le_trans h.bel.size hg.size, fun k hk => (hlow k (by omega)).trans (h.bel.block k hk)⟩, Nat.le_trans h.size hg.size, fun k hk ha => (hlow k (by omega)).trans (h.kept k hk ha), (hlow _ (by omega)).trans h.b3, (hlow _ (by omega)).trans h.b5, (hlow _ (by omega)).trans h.b6, h.free, T, hT.world fun x hx => ?_, fun x hx => ?_⟩
 ·rcases hx with hx | hx
  ·exact hcell x (hT2 x hx).1
  ·exact hx.elim
 ·obtain ⟨cs, e, f, hx'⟩ := (hT2 x hx).1
  exact ⟨⟨cs, e, f, (hcell x (hT2 x hx).1).trans hx'⟩, (hT2 x hx).2⟩
/-- The reader's cells, in words. -/
theorem LI.ptr (h : LI W0 w I A0 u s n p t rows bad e W) : ∃ b, u = .pointer (some ⟨b, 0, none⟩) ∧ W.cell? ⟨b, 5, none⟩ = some (.bool bad) := by
 obtain ⟨T, ⟨b, cs, ty, h1, h2, h3, h4, ⟨D, d1, d2, d3⟩, _⟩, _⟩ := h.box
 refine ⟨b, h1, ?_⟩
 obtain ⟨v, v1, v2, v3⟩ := d3 5 (.bool bad) rfl
 cases v3
 rw [cell_of h3]
 exact v1
def stepL (rows : List (List L)) (bad : Bool) (l e : Int) : List (List L) × Bool × Int := if 1000 ≤ rows.length then (rows, true, 0) else (rows ++ [pairL l e], bad, rows.length)
theorem put_list (hX : LaidX W0) (h0 : W0.heap.size ≤ w.heap.size) (hA0 : ∀ k, A0 k → ¬ I k ∧ k < w.heap.size) (hold : ∀ k, k < W0.heap.size → I k) (h : LI W0 w I A0 u s n p t rows bad e W) (l e1 : Int) :
  Calls Tryz.prog 214 #[u, .agg #[.int .i64 5, .int .i64 0, .string ⟨#[]⟩, .int .i64 l, .int .i64 e1]] W fun r W' => r = .returned (.int .i64 (stepL rows bad l e1).2.2) ∧ LI W0 w I A0 u s n p t (stepL rows bad l e1).1 (stepL rows bad l e1).2.1 e W' ∧ (∀ k, k < W.heap.size → ¬ (A0 k ∨ w.heap.size + 4 ≤ k ∧ CellsIn W k) → W'.heap[k]? = W.heap[k]?) ∧ W.heap.size ≤ W'.heap.size ∧ ∀ k, k < W.heap.size → ¬ CellsIn W k → W'.heap[k]? = W.heap[k]? := by
 obtain ⟨T, hT, hT2⟩ := h.box
 have hput : ∃ res outs, PreR.A 214 [.box (rdR s n p t rows bad), .agg (pairL l e1)] = some (res, outs) ∧ res = [.leaf (.int .i64 (stepL rows bad l e1).2.2)] ∧ outs = [.box (rdR s n p t (stepL rows bad l e1).1 (stepL rows bad l e1).2.1), .gone] := by
  unfold stepL
  by_cases hc : 1000 ≤ rows.length
  ·rw [if_pos hc]
   exact ⟨_, _, PreR.put_full s n p t rows bad l e1 hc, rfl, rfl⟩
  ·rw [if_neg hc]
   exact ⟨_, _, PreR.put_room s n p t rows bad l e1 (by omega), rfl, rfl⟩
 have hfree : freeRR (stepL rows bad l e1).1 = true := by
  unfold stepL
  split
  ·exact h.free
  ·have key : ∀ a b : List (List L), freeRR a = true → freeRR b = true → freeRR (a ++ b) = true := by
    intro a b ha hb
    induction a with
    | nil => exact hb
    | cons x a ih =>
     simp only [List.cons_append, freeRR, Bool.and_eq_true] at ha ⊢
     exact ⟨ha.1, ih ha.2⟩
   exact key _ _ h.free rfl
 generalize stepL rows bad l e1 = q at hput hfree ⊢
 obtain ⟨rows1, bad1, e2⟩ := q
 obtain ⟨res, outs, hput, rfl, rfl⟩ := hput
 have hTlt : ∀ x, T x → x < W.heap.size := fun x hx => by
  obtain ⟨cs, e, f, hx'⟩ := (hT2 x hx).1
  exact (Array.getElem?_eq_some_iff.1 hx').1
 have hTold : ∀ x, T x → ¬ x < W0.heap.size := fun x hx hlt => by
  rcases (hT2 x hx).2 with h1 | h1
  ·exact (hA0 x h1).1 (hold x hlt)
  ·omega
 refine PreR.A_answers hX PreR.G_214 hput W (fun k => k < W0.heap.size) (fun j x => j = 0 ∧ T x) _ _ h.bel (fun _ h => h) (fun k hk => Nat.lt_of_lt_of_le hk h.bel.size) rfl (fun j x hx => ⟨hTlt x hx.2, hTold x hx.2⟩) (fun j j' x hx hx' => hx.1.trans hx'.1.symm) (fun j c hj arg => ?_) (fun v W' I' R A' ha => ?_)
 ·match j, hj with
  | 0, hj =>
   obtain rfl := (Option.some.inj hj).symm
   exact RepC.mono (I' := fun k => k < W0.heap.size) (S' := fun x => 0 = 0 ∧ T x) hT (fun _ h => h.elim) fun x hx => ⟨rfl, hx⟩
  | 1, hj =>
   obtain rfl := (Option.some.inj hj).symm
   refine ⟨_, rfl, rfl, fun _ _ => False, fun _ _ h => h.elim, fun _ _ _ h => h.elim, fun j l hj => ?_⟩
   match j, hj with
   | 0, hj => obtain rfl := (Option.some.inj hj).symm; exact ⟨_, rfl, rfl, .int ..⟩
   | 1, hj => obtain rfl := (Option.some.inj hj).symm; exact ⟨_, rfl, rfl, .int ..⟩
   | 2, hj => obtain rfl := (Option.some.inj hj).symm; exact ⟨_, rfl, rfl, .str ..⟩
   | 3, hj => obtain rfl := (Option.some.inj hj).symm; exact ⟨_, rfl, rfl, .int ..⟩
   | 4, hj => obtain rfl := (Option.some.inj hj).symm; exact ⟨_, rfl, rfl, .int ..⟩
   | j + 5, hj => simp at hj
  | j + 2, hj => simp at hj
 ·have hres := ha.res (fun _ => undef)
  have hv : v = .int .i64 e2 := by
   obtain ⟨_, h2⟩ := (show RepC (fun _ => undef) W' I' (.leaf (.int .i64 e2)) v R from hres)
   cases h2
   rfl
  have hbox := box_trim (ha.outs 0 _ rfl (fun _ => undef)) (by simp [freeR, L.free, hfree])
  have hkeep : ∀ k, k < W.heap.size → ¬ T k → W'.heap[k]? = W.heap[k]? := fun k hk hno => ha.kept k hk fun j hj => hno hj.2
  have hlow : ∀ k, k < w.heap.size + 4 → ¬ A0 k → W'.heap[k]? = W.heap[k]? := fun k hk hno => hkeep k (by have := h.size; omega) fun hx => by
   rcases (hT2 k hx).2 with h1 | h1
   ·exact hno h1
   ·omega
  have hA4 : ∀ k, w.heap.size ≤ k → ¬ A0 k := fun k hk ha => by have := (hA0 k ha).2; omega
  refine ⟨by rw [hv], ⟨ha.bel, Nat.le_trans h.size ha.size, fun k hk hno => (hlow k (by omega) hno).trans (h.kept k hk hno), (hlow _ (by omega) (hA4 _ (by omega))).trans h.b3, (hlow _ (by omega) (hA4 _ (by omega))).trans h.b5, (hlow _ (by omega) (hA4 _ (by omega))).trans h.b6, hfree, _, hbox, fun x hx => ⟨hx.2, ?_⟩⟩, fun k hk hno => hkeep k hk fun hx => hno ?_, ha.size, fun k hk hno => hkeep k hk fun hx => hno (hT2 k hx).1⟩
  ·rcases ha.got x (.inr (.inl ⟨0, hx.1⟩)) with ⟨j, hj⟩ | hj | hj
   ·exact (hT2 x hj.2).2
   ·exact absurd hx.1 fun h1 => (ha.alt 0 x h1).2 (ha.imm x hj)
   ·exact .inr (by have := h.size; omega)
  ·rcases (hT2 k hx).2 with h1 | h1
   ·exact .inl h1
   ·exact .inr ⟨h1, (hT2 k hx).1⟩
theorem LI.set5 (h : LI W0 w I A0 u s n p t rows bad e W) (h0 : W0.heap.size ≤ w.heap.size) (hA0 : ∀ k, A0 k → ¬ I k ∧ k < w.heap.size) (e2 : Int) : LI W0 w I A0 u s n p t rows bad e2 (W.setCell ⟨w.heap.size + 1, 0, none⟩ (.int .i64 e2)) := by
 obtain ⟨T, hT, hT2⟩ := h.box
 have hk : ∀ k, k ≠ w.heap.size + 1 → (W.setCell ⟨w.heap.size + 1, 0, none⟩ (.int .i64 e2)).heap[k]? = W.heap[k]? := fun k hk => Below.heap_setCell _ _ _ k hk
 have hTn : ∀ x, T x → x ≠ w.heap.size + 1 := fun x hx he => by
  rcases (hT2 x hx).2 with h1 | h1
  ·have := (hA0 x h1).2; omega
  ·omega
 refine ⟨h.bel.setCell (p := ⟨w.heap.size + 1, 0, none⟩) (by simp only; omega) _, Nat.le_trans h.size (KeepsOthers.setCell W _ _).size, fun k hlt ha => (hk k (by omega)).trans (h.kept k hlt ha), (hk _ (by omega)).trans h.b3, h.b5.set _, (hk _ (by omega)).trans h.b6, h.free, T, hT.world fun x hx => ?_, fun x hx => ?_⟩
 ·rcases hx with hx | hx
  ·exact hk x (hTn x hx)
  ·exact hx.elim
 ·obtain ⟨cs, ty, f, hc⟩ := (hT2 x hx).1
  exact ⟨⟨cs, ty, f, (hk x (hTn x hx)).trans hc⟩, (hT2 x hx).2⟩
theorem LI.set6 (h : LI W0 w I A0 u s n p t rows bad e W) (h0 : W0.heap.size ≤ w.heap.size) (hA0 : ∀ k, A0 k → ¬ I k ∧ k < w.heap.size) : LI W0 w I A0 u s n p t rows bad e (W.setCell ⟨w.heap.size + 1 + 1, 0, none⟩ (.int .i64 0)) := by
 obtain ⟨T, hT, hT2⟩ := h.box
 have hk : ∀ k, k ≠ w.heap.size + 1 + 1 → (W.setCell ⟨w.heap.size + 1 + 1, 0, none⟩ (.int .i64 0)).heap[k]? = W.heap[k]? := fun k hk => Below.heap_setCell _ _ _ k hk
 have hTn : ∀ x, T x → x ≠ w.heap.size + 1 + 1 := fun x hx he => by
  rcases (hT2 x hx).2 with h1 | h1
  ·have := (hA0 x h1).2; omega
  ·omega
 refine ⟨h.bel.setCell (p := ⟨w.heap.size + 1 + 1, 0, none⟩) (by simp only; omega) _, Nat.le_trans h.size (KeepsOthers.setCell W _ _).size, fun k hlt ha => (hk k (by omega)).trans (h.kept k hlt ha), (hk _ (by omega)).trans h.b3, (hk _ (by omega)).trans h.b5, h.b6.set _, h.free, T, hT.world fun x hx => ?_, fun x hx => ?_⟩
 ·rcases hx with hx | hx
  ·exact hk x (hTn x hx)
  ·exact hx.elim
 ·obtain ⟨cs, ty, f, hc⟩ := (hT2 x hx).1
  exact ⟨⟨cs, ty, f, (hk x (hTn x hx)).trans hc⟩, (hT2 x hx).2⟩
/-- What is handed back behind the loop. -/
theorem LI.fin (h : LI W0 w I A0 u s n p t rows bad e W) (hA0 : ∀ k, A0 k → ¬ I k ∧ k < w.heap.size) {X : World} (hb : Below W0.heap.size W0 X) (hs : W.heap.size ≤ X.heap.size) (h0 : W0.heap.size ≤ w.heap.size) (hk1 : ∀ k, k ≠ w.heap.size + 1 + 1 → X.heap[k]? = W.heap[k]?) {D : Nat} {o o' : Obj} (hD : w.heap.size + 4 ≤ D) (hDo : X.heap[D]? = some o) (ho : o.isCells = false) :
  Below W0.heap.size W0 (X.putObj D o') ∧ w.heap.size ≤ (X.putObj D o').heap.size ∧ (∀ k, k < w.heap.size → ¬ A0 k → (X.putObj D o').heap[k]? = w.heap[k]?) ∧
   freeRR rows = true ∧ ∃ T : Nat → Prop, RepC (fun _ => undef) (X.putObj D o') (fun _ => False) (.box (rdR s n p t rows bad)) u T ∧ ∀ x, T x → CellsIn (X.putObj D o') x ∧ (A0 x ∨ w.heap.size ≤ x) := by
 obtain ⟨T, hT, hT2⟩ := h.box
 have hk : ∀ k, k ≠ w.heap.size + 1 + 1 → k ≠ D → (X.putObj D o').heap[k]? = W.heap[k]? := fun k hk hk2 => (World.putObj_heap_other hk2).trans (hk1 k hk)
 have hTn : ∀ x, T x → x ≠ w.heap.size + 1 + 1 := fun x hx he => by
  rcases (hT2 x hx).2 with h1 | h1
  ·have := (hA0 x h1).2; omega
  ·omega
 have hTD : ∀ x, T x → x ≠ D := fun x hx he => by
  subst he
  obtain ⟨cs, ty, f, hc⟩ := (hT2 x hx).1
  rw [hk1 x (hTn x hx), hc] at hDo
  cases hDo
  cases ho
 have hg := grownBy_putObj' X D o'
 have hsz := h.size
 refine ⟨⟨hg.os.trans hb.os, hg.tape.trans hb.tape, hg.output.trans hb.output, Nat.le_trans hb.size hg.size, fun k hk2 => (hg.block k (by have := hb.size; omega) (by simp only [ne_eq, Option.some.injEq]; omega)).trans (hb.block k hk2)⟩, by have := hg.size; omega, fun k hlt ha => (hk k (by omega) (by omega)).trans (h.kept k hlt ha), h.free, T, hT.world fun x hx => ?_, fun x hx => ?_⟩
 ·rcases hx with hx | hx
  ·exact hk x (hTn x hx) (hTD x hx)
  ·exact hx.elim
 ·obtain ⟨cs, ty, f, hc⟩ := (hT2 x hx).1
  exact ⟨⟨cs, ty, f, (hk x (hTn x hx) (hTD x hx)).trans hc⟩, (hT2 x hx).2.imp id fun h => by omega⟩
set_option maxRecDepth 100000 in
set_option maxHeartbeats 4000000 in
theorem list_in (F : Fence) (hro : F.round = none) (hF1 : F.fn 252) (hF2 : F.fn 270) (hF3 : F.fn 214) (hF4 : F.fn 215) (hFC : ∀ (n : Nat) (f : FuncId) (args : Array Value) (w : World) (R : Ending → World → Prop), Calls Tryz.prog f args w R → CallsIn F n Tryz.prog f args w R) (hX : LaidX W0) (h0 : W0.heap.size ≤ w.heap.size) (hbel : Below W0.heap.size W0 w) (hA0 : ∀ k, A0 k → ¬ I k ∧ k < w.heap.size) (hold : ∀ k, k < W0.heap.size → I k) (hilt : ∀ k, I k → k < w.heap.size) (hfree : freeRR rows = true)
  {T0 : Nat → Prop} (hbox : RepC (fun _ => undef) w (fun _ => False) (.box (rdR s n p t rows bad)) u T0) (hT0 : ∀ x, T0 x → CellsIn w x ∧ A0 x) (ad : Option Addr) (len cap : Nat) (zs : List Int) (hI : IntsAt I w (.slice ad len cap) zs) (hreach : zs.length * 8 ≤ 140737488351232) (e : Int) :
  CallsIn F 10 Tryz.prog 215 #[u, .slice ad len cap, .int .i64 e] w fun r W' => r = .returned (.int .i64 (goL zs.reverse rows bad e).2.2) ∧ Below W0.heap.size W0 W' ∧ w.heap.size ≤ W'.heap.size ∧ (∀ k, k < w.heap.size → ¬ A0 k → W'.heap[k]? = w.heap[k]?) ∧
   freeRR (goL zs.reverse rows bad e).1 = true ∧ ∃ T : Nat → Prop, RepC (fun _ => undef) W' (fun _ => False) (.box (rdR s n p t (goL zs.reverse rows bad e).1 (goL zs.reverse rows bad e).2.1)) u T ∧ ∀ x, T x → CellsIn W' x ∧ (A0 x ∨ w.heap.size ≤ x) := by
 obtain ⟨R, rfl⟩ : ∃ R, u = .pointer (some ⟨R, 0, none⟩) := by
  obtain ⟨b, _, _, h, _⟩ := hbox
  exact ⟨b, h⟩
 have h10 : 1 ≤ 10 := by decide
 refine callsIn_of_wp_marks Tryz.func215 rfl hF4 ?_ hro
 simp only [Tryz.ntmps215, List.size_toArray, List.length_cons, List.length_nil, Nat.reduceAdd, Nat.reduceSub, Array.replicate_succ, Array.replicate_zero, List.push_toArray, List.append_toArray, List.nil_append, List.cons_append]
 gi_wp2_with (gi_at_call 252; refine (back_in F _ hF1 hro _ _ _ _).mono ?_; rintro e1 w1 ⟨rfl, rfl⟩)
 obtain ⟨w1, hw1⟩ : ∃ w1, (((w.alloc (Obj.cells #[Value.pointer (some ⟨R, 0, none⟩)] 179)).alloc (Obj.cells #[Value.int IntKind.i64 e] 3)).alloc (Obj.cells #[Value.int IntKind.i64 0] 3)).alloc (Obj.cells #[Value.slice ad len cap] 26) = w1 := ⟨_, rfl⟩
 rw [hw1]
 have hsz : w1.heap.size = w.heap.size + 4 := by rw [← hw1]; simp
 have hlow : ∀ k, k < w.heap.size → w1.heap[k]? = w.heap[k]? := fun k hk => by
  rw [← hw1, Below.heap_alloc _ _ k (by simp; omega), Below.heap_alloc _ _ k (by simp; omega), Below.heap_alloc _ _ k (by simp; omega), Below.heap_alloc _ _ k (by omega)]
 have g3 : Boxed w1 w.heap.size 179 (.pointer (some ⟨R, 0, none⟩)) := by rw [← hw1]; exact (((Boxed.new w _ _).alloc _).alloc _).alloc _
 have g5 : Boxed w1 (w.heap.size + 1) 3 (.int .i64 e) := by rw [← hw1]; have := (((Boxed.new (w.alloc (Obj.cells #[Value.pointer (some ⟨R, 0, none⟩)] 179)) 3 (.int .i64 e)).alloc (Obj.cells #[Value.int IntKind.i64 0] 3)).alloc (Obj.cells #[Value.slice ad len cap] 26)); rwa [World.size_alloc] at this
 have g6 : Boxed w1 (w.heap.size + 2) 3 (.int .i64 0) := by rw [← hw1]; have := ((Boxed.new ((w.alloc (Obj.cells #[Value.pointer (some ⟨R, 0, none⟩)] 179)).alloc (Obj.cells #[Value.int IntKind.i64 e] 3)) 3 (.int .i64 0)).alloc (Obj.cells #[Value.slice ad len cap] 26)); rwa [World.size_alloc, World.size_alloc] at this
 have gB : Boxed w1 (w.heap.size + 1 + 1 + 1) 26 (.slice ad len cap) := by rw [← hw1]; have := (Boxed.new (((w.alloc (Obj.cells #[Value.pointer (some ⟨R, 0, none⟩)] 179)).alloc (Obj.cells #[Value.int IntKind.i64 e] 3)).alloc (Obj.cells #[Value.int IntKind.i64 0] 3)) 26 (.slice ad len cap)); rwa [World.size_alloc, World.size_alloc, World.size_alloc] at this
 have hbel1 : Below W0.heap.size W0 w1 := by
  rw [← hw1]
  exact (((hbel.alloc (by omega) _).alloc (by simp; omega) _).alloc (by simp; omega) _).alloc (by simp; omega) _
 have hL1 : LI W0 w I A0 (.pointer (some ⟨R, 0, none⟩)) s n p t rows bad e w1 := by
  refine ⟨hbel1, by omega, fun k hk _ => hlow k hk, g3, g5, g6, hfree, T0, hbox.world fun x hx => ?_, fun x hx => ?_⟩
  ·rcases hx with hx | hx
   ·exact hlow x (hA0 x (hT0 x hx).2).2
   ·exact hx.elim
  ·obtain ⟨cs, ty, f, hc⟩ := (hT0 x hx).1
   exact ⟨⟨cs, ty, f, (hlow x (hA0 x (hT0 x hx).2).2).trans hc⟩, .inl (hT0 x hx).2⟩
 clear hw1
 have hIw : IntsAt (fun k => k = w.heap.size + 1 + 1 + 1 ∨ I k) w1 (.slice ad len cap) zs := by
  rcases hI with ⟨a, c, h1, h2⟩ | ⟨b, off, c, h1, h2, h3⟩
  ·exact .inl ⟨a, c, h1, h2⟩
  ·exact .inr ⟨b, off, c, h1, .inr h2, fun j hj => (World.cell?_of_block (hlow b (hilt b h2))).trans (h3 j hj)⟩
 have hKw : ∀ k, k = w.heap.size + 1 + 1 + 1 ∨ I k → k < w1.heap.size := fun k hk => by
  rcases hk with rfl | hk
  ·omega
  ·have := hilt k hk; omega
 have hAK : ∀ k, k = w.heap.size + 1 + 1 + 1 ∨ I k → ¬ (A0 k ∨ w.heap.size + 4 ≤ k) := fun k hk hk2 => by
  rcases hk with rfl | hk
  ·rcases hk2 with h1 | h1
   ·have := (hA0 _ h1).2; omega
   ·omega
  ·rcases hk2 with h1 | h1
   ·exact (hA0 k h1).1 hk
   ·have := hilt k hk; omega
 refine wpIn_rangeFunc_ownG hro h10 (gf := 270) (lb := #[.pointer (some ⟨w.heap.size + 1 + 1 + 1, 0, none⟩)]) rfl hF2 (enters_of Tryz.func270 (by kernel_rfl) rfl)
  (back_stops F (10 - 1) hF2 hro (by omega) (w.heap.size + 1 + 1 + 1) (.slice ad len cap) zs hreach w1 (fun k => k = w.heap.size + 1 + 1 + 1 ∨ I k) (.inl rfl) hKw gB.cell hIw)
  (fun {A B C} hab hbc k hk => (hbc k hk).trans (hab k hk)) (fun W l o o' hl ho _ _ k hk => World.putObj_heap_other (by have := hKw k hk; omega)) (Below.refl _ _) (fun _ => rfl)
  (fun pre W => ∃ rows' bad' e', (∀ rest, goL (pre.map (·.2) ++ rest) rows bad e = goL rest rows' bad' e') ∧ LI W0 w I A0 (.pointer (some ⟨R, 0, none⟩)) s n p t rows' bad' e' W)
  (fun c pre W => c = .ret ∧ ∃ rows' bad' e', (∀ rest, goL (pre.map (·.2) ++ rest) rows bad e = (rows', bad', 0)) ∧ LI W0 w I A0 (.pointer (some ⟨R, 0, none⟩)) s n p t rows' bad' e' W)
  (fun pre A B row hs hg hr => by
   obtain ⟨r', b', e', h1, h2⟩ := hs
   exact ⟨r', b', e', h1, h2.grown h0 hg fun r hr' => by rw [← hsz]; exact hr r hr'⟩)
  (fun c pre A B row hs hg hr => by
   obtain ⟨hc, r', b', e', h1, h2⟩ := hs
   exact ⟨hc, r', b', e', h1, h2.grown h0 hg fun r hr' => by rw [← hsz]; exact hr r hr'⟩)
  ⟨rows, bad, e, fun _ => rfl, hL1⟩
  (fun x => { tmps := #[.pointer (some ⟨R, 0, none⟩), .slice ad len cap, .int .i64 e, .pointer (some ⟨w.heap.size, 0, none⟩), undef, .pointer (some ⟨w.heap.size + 1, 0, none⟩), .pointer (some ⟨w.heap.size + 1 + 1, 0, none⟩), undef, .int .i64 x.2, .slice ad len cap, .func (.func 270) #[] #[.pointer (some ⟨w.heap.size + 1 + 1 + 1, 0, none⟩)], .int .i64 x.1, .int .i64 x.2, undef, undef, undef, undef, undef, undef, undef, undef, undef, undef], defers := [] }) ?assign ?body ?done ?stop
 case assign =>
  intro l x W K hK
  gi_wp2
  exact hK
 case body =>
  rintro l pre x W ⟨rows', bad', e', hgo, hL⟩ _
  obtain ⟨b, hb, hb5⟩ := hL.ptr
  obtain rfl : R = b := by simpa using hb
  have c3 := hL.b3.cell
  have c5 := hL.b5.cell
  have c6 := hL.b6.cell
  have f6 := hL.b6.frozen
  cases bad' with
  | true =>
   gi_wp2
   refine ⟨(KeepsOthers.setCell _ _ _).from _, rfl, rows', true, e', fun rest => ?_, hL.set6 h0 hA0⟩
   have := hgo (x.2 :: rest)
   rw [List.map_append, List.append_assoc]
   rw [show [x].map (·.2) ++ rest = x.2 :: rest from rfl, this]
   simp [goL]
  | false =>
   gi_wp2_with (gi_at_call 214; refine (CallsIn.inRound l (hFC _ _ _ _ _ (put_list hX h0 hA0 hold hL x.2 e'))).mono ?_)
   rintro e1 W2 ⟨rfl, hL2, hsame, hsz2, hnc⟩
   have c5' := hL2.b5.cell
   have f5' := hL2.b5.frozen
   gi_wp2
   refine ⟨KeepsFrom.trans ⟨hsz2, fun k o _ ho hc => (hnc k (Array.getElem?_eq_some_iff.1 ho).1 fun hx => ?_).trans ho⟩ ((KeepsOthers.setCell _ _ _).from _), fun k hk => (Below.heap_setCell _ _ _ k ?_).trans (hsame k ?_ fun hx => hAK k hk (hx.imp id And.left)), _, _, _, fun rest => ?_, hL2.set5 h0 hA0 _⟩
   ·obtain ⟨cs, ty, f, hx⟩ := hx
    rw [ho] at hx
    cases hx
    cases hc
   ·rcases hk with rfl | hk
    ·show _ ≠ w.heap.size + 1; omega
    ·have := hilt k hk; show _ ≠ w.heap.size + 1; omega
   ·have := hKw k hk; have := hL.size; omega
   ·have := hgo (x.2 :: rest)
    rw [List.map_append, List.append_assoc]
    rw [show [x].map (·.2) ++ rest = x.2 :: rest from rfl, this]
    unfold stepL
    rw [goL, if_neg (by simp)]
    split <;> rfl
 case done =>
  rintro D ys W hD rfl ⟨rows', bad', e', hgo, hL⟩ hK
  have c5 := hL.b5.cell
  have c6 := hL.b6.cell
  have f6 := hL.b6.frozen
  have hgo2 := hgo []
  rw [List.append_nil, downTo_snd] at hgo2
  gi_wp2
  have hK' := (KeepsOthers.setCell W ⟨w.heap.size + 1 + 1, 0, none⟩ (.int .i64 e')).same D _ hK rfl
  refine ⟨by simp, .inl ⟨_, _, rfl, run_takeDeferred hK', ?_⟩⟩
  have hc5 := cell_kept (World.cell?_setCell_same' W ⟨w.heap.size + 1 + 1, 0, none⟩ (.int .i64 e') (by rw [c6]; rfl)) (grownBy_putObj' _ D (.deferred none)) (fun r e => by cases e; exact ⟨_, hK', rfl⟩)
  refine ⟨.int .i64 e', ?_, by rw [hgo2]; rfl, by rw [hgo2]; exact hL.fin hA0 (hL.bel.setCell (p := ⟨w.heap.size + 1 + 1, 0, none⟩) (by simp only; omega) _) (KeepsOthers.setCell W _ _).size h0 (fun k hk => Below.heap_setCell _ _ _ k hk) (by omega) hK' rfl⟩
  simp [results, Tryz.f215, go_sem, hc5]
 case stop =>
  rintro D c pre W hD ⟨k, hk, rfl⟩ ⟨rfl, rows', bad', e', hgo, hL⟩ hK
  have c6 := hL.b6.cell
  have f6 := hL.b6.frozen
  obtain ⟨rest, hrest⟩ := downTo_pre zs hk
  have hgo2 := hgo (rest.map (·.2))
  rw [← List.map_append, ← hrest, downTo_snd] at hgo2
  gi_wp2
  have hc5 := cell_kept c6 (grownBy_putObj' _ D (.deferred none)) (fun r e => by cases e; exact ⟨_, hK, rfl⟩)
  refine ⟨by simp, .inl ⟨_, _, rfl, run_takeDeferred hK, ?_⟩⟩
  refine ⟨.int .i64 0, ?_, by rw [hgo2], by rw [hgo2]; exact hL.fin hA0 hL.bel (Nat.le_refl _) h0 (fun _ _ => rfl) (by omega) hK rfl⟩
  simp [results, Tryz.f215, go_sem, hc5]
/-! The prim. -/
def intsOf : List (List L) → Option (List Int)
 | [] => some []
 | [.int .i64 n] :: r => (intsOf r).map (n :: ·)
 | _ => none
theorem intsOf_rows : ∀ {r : List (List L)} {zs : List Int}, intsOf r = some zs → r = zs.map fun n : Int => [L.int .i64 n]
 | [], zs, h => by simp [intsOf] at h; subst h; rfl
 | x :: r, zs, h => by
  unfold intsOf at h
  split at h
  ·simp_all
  ·rename_i n r' he
   obtain ⟨rfl, rfl⟩ := List.cons.inj he
   rw [Option.map_eq_some_iff] at h
   obtain ⟨a, h1, rfl⟩ := h
   rw [intsOf_rows h1]
   rfl
  ·cases h
theorem intsOf_map : ∀ zs : List Int, intsOf (zs.map fun n : Int => [L.int .i64 n]) = some zs
 | [] => rfl
 | n :: zs => by simp [intsOf, intsOf_map zs]
def runList : List CV → Option (List CV × List CV)
 | [.box [.str s, .int .i64 n, .int .i64 p, .str t, .sl true 5 rows, .bool bad], .leaf (.sl false 1 parts), .leaf (.int .i64 e)] => match intsOf parts with
  | some zs => if freeRR rows = true ∧ zs.length ≤ 1000000000 then some ([.leaf (.int .i64 (goL zs.reverse rows bad e).2.2)], [.box (rdR s n p t (goL zs.reverse rows bad e).1 (goL zs.reverse rows bad e).2.1), .gone, .gone]) else none
  | none => none
 | _ => none
theorem okList : ∀ W, LaidX W → ∀ cs res outs, runList cs = some (res, outs) → Answers Tryz.prog W 215 cs res outs ∧ ((⟨[.M, .V, .V], false⟩ : Sig).own = true → res.all CV.free = true ∧ outs.all CV.free = true) := by
 intro W0 hX cs res outs h
 unfold runList at h
 split at h
 ·rename_i s n p t rows bad parts e
  split at h
  ·rename_i zs hz
   split at h
   ·rename_i hc
    simp only [Option.some.injEq, Prod.mk.injEq] at h
    obtain ⟨rfl, rfl⟩ := h
    refine ⟨fun w I A us Q hbel hold hilt hlen hA hAd hrep hQ => ?_, fun h => by cases h⟩
    obtain rfl := intsOf_rows hz
    have q0 := hrep 0 _ rfl (fun _ => undef)
    have q1 := (hrep 1 _ rfl (fun _ => undef)).2
    have q2 := (hrep 2 _ rfl (fun _ => undef)).2
    have hus : us = #[us.getD 0 undef, us.getD 1 undef, us.getD 2 undef] := by
     refine Array.ext (by simpa using hlen) fun i h1 h2 => ?_
     match i, h1, h2 with
     | 0, h1, _ => simp [Array.getD, h1]
     | 1, h1, _ => simp [Array.getD, h1]
     | 2, h1, _ => simp [Array.getD, h1]
    have hI : ∃ ad cap, us.getD 1 undef = .slice ad zs.length cap ∧ IntsAt I w (.slice ad zs.length cap) zs := by
     generalize us.getD 1 undef = u1 at q1
     generalize hr : (zs.map fun n : Int => [L.int .i64 n]) = rs at q1
     have hrl : rs.length = zs.length := by rw [← hr, List.length_map]
     cases q1 with
     | nil o sz S a cap h0 =>
      have hz0 : zs = [] := by simpa using hr
      subst hz0
      exact ⟨a, cap, rfl, .inl ⟨a, cap, rfl, rfl⟩⟩
     | imm sz rws S b o cap cv h1 hsz hcv hrep2 hl2 =>
      rw [hrl]
      refine ⟨_, cap, rfl, .inr ⟨b, o, cap, rfl, h1, fun j hj => ?_⟩⟩
      have hjr : rs[j]? = some [.int .i64 zs[j]] := by rw [← hr, List.getElem?_map, List.getElem?_eq_getElem hj]; rfl
      have k1 := (hcv j 0 (by omega) (by decide)).1
      have k2 := hrep2 j 0 _ _ hjr rfl
      rw [Nat.mul_one, Nat.add_zero] at k1
      rw [k1, List.getElem?_eq_getElem hj]
      generalize cv j 0 = q at k2
      cases k2
      rfl
    obtain ⟨ad, cap, e1, hI⟩ := hI
    have e2 : us.getD 2 undef = .int .i64 e := by
     generalize us.getD 2 undef = u2 at q2
     cases q2
     rfl
    rw [hus, e1, e2]
    have hb := box_trim q0 (by simp [freeR, L.free, hc.1])
    refine (callsIn_wide (n := 10)).1 ((list_in Fence.wide rfl trivial trivial trivial trivial (fun n f args w R h => callsIn_wide.2 h) hX hbel.size hbel (A0 := A 0) (fun k hk => ⟨(hA 0 k hk).2, (hA 0 k hk).1⟩) hold hilt hc.1 hb (fun x hx => ⟨hx.2, hx.1⟩) ad zs.length cap zs hI (by omega) e).mono ?_)
    rintro r W' ⟨rfl, hb2, hs2, hk2, hf2, T, hT, hT2⟩
    refine hQ _ W' I (fun _ => False) (fun j x => j = 0 ∧ T x) ⟨hb2, fun _ h => h, fun b hb => Nat.lt_of_lt_of_le (hilt b hb) hs2, hs2, fun b hb hno => hk2 b hb (hno 0), fun b hb => ?_, fun b hb => hb.elim, fun j b hb => ?_, fun j j' b hb hb' => hb.1.trans hb'.1.symm, fun arg => ⟨rfl, .int ..⟩, fun j c hj arg => ?_⟩
    ·rcases hb with hb | ⟨j, hb⟩ | hb
     ·exact hb.elim
     ·rcases (hT2 b hb.2).2 with h1 | h1
      ·exact .inl ⟨0, h1⟩
      ·exact .inr (.inr h1)
     ·exact .inr (.inl hb)
    ·obtain ⟨⟨cs, ty, f, hc'⟩, h2⟩ := hT2 b hb.2
     refine ⟨(Array.getElem?_eq_some_iff.1 hc').1, fun hi => ?_⟩
     rcases h2 with h1 | h1
     ·exact (hA 0 b h1).2 hi
     ·have := hilt b hi; omega
    ·match j, hj with
     | 0, hj =>
      obtain rfl := (Option.some.inj hj).symm
      exact RepC.mono (I' := I) (S' := fun x => 0 = 0 ∧ T x) hT (fun _ h => h.elim) fun x hx => ⟨rfl, hx⟩
     | 1, hj => obtain rfl := (Option.some.inj hj).symm; trivial
     | 2, hj => obtain rfl := (Option.some.inj hj).symm; trivial
     | j + 3, hj => simp at hj
   ·cases h
  ·cases h
 ·cases h
def prim_impl_reader_list : PEntry Tryz.prog LaidX := ⟨215, ⟨[.M, .V, .V], false⟩, runList, by kernel_rfl, okList⟩
end Go.Proofs.YtjcjodcpiickaaaGreatDoor
