/- Data shown as a text: the program's and the reference's are the same. -/
import Derived.Test.YtjcjodcpiickaaaGreatDoorRANumA
import Derived.Test.YtjcjodcpiickaaaGreatDoorRAFam
import Derived.Test.YtjcjodcpiickaaaGreatDoorEngTreeP
namespace Go.Proofs.YtjcjodcpiickaaaGreatDoor.RA
open Go Go.VS Go.Lib
set_option maxRecDepth 10000
set_option maxHeartbeats 8000000
set_option linter.unusedSimpArgs false
set_option linter.unusedVariables false
/-- All counts are there, and small. -/
def SeenOk (n : Nat) (m : Int) (u : List Int) : Prop := u.length = n ∧ ∀ j : Nat, 0 ≤ u.getD j 0 ∧ u.getD j 0 ≤ m
theorem seen_at {n : Nat} {m : Int} {u : List Int} (h : SeenOk n m u) {x : Int} (h0 : 0 ≤ x) (h1 : x < n) : ∃ v, u[x.toNat]? = some v ∧ u.getD x.toNat 0 = v ∧ 0 ≤ v ∧ v ≤ m := by
 have hx : x.toNat < u.length := by have := h.1; omega
 have h2 := h.2 x.toNat
 refine ⟨u[x.toNat], List.getElem?_eq_getElem hx, ?_, ?_⟩
 ·rw [List.getD_eq_getElem?_getD, List.getElem?_eq_getElem hx]; rfl
 ·rw [List.getD_eq_getElem?_getD, List.getElem?_eq_getElem hx] at h2
  exact h2
theorem count_parts (cs : List KDatum) (j : Int) : ((cs.flatMap partsD).count j : Int) ≤ 2 * cs.length := by
 have h1 : (cs.flatMap partsD).length ≤ 2 * cs.length := by
  induction cs with
  | nil => simp
  | cons c cs ih =>
   rw [List.flatMap_cons, List.length_append, List.length_cons]
   have : (partsD c).length ≤ 2 := by unfold partsD; split <;> simp
   omega
 have h2 := List.count_le_length (a := j) (l := cs.flatMap partsD)
 omega
theorem zip_take (cs : List KDatum) (i : Nat) : cs.zipIdx.take i = (cs.take i).zipIdx := by
 apply List.ext_getElem?
 intro j
 simp only [List.getElem?_take, List.getElem?_zipIdx]
 split <;> simp
theorem seen_cells {cs : List KDatum} {i : Nat} {u : List Int} (h : (cs.zipIdx.take i).foldlM cellStep (List.replicate cs.length 0) = some u) : SeenOk cs.length (2 * cs.length) u := by
 rw [zip_take] at h
 have hl : (cs.take i).length ≤ cs.length := by rw [List.length_take]; omega
 obtain ⟨_, a2, a3⟩ := cells_seen (cs.take i) 0 _ u (by rw [List.length_replicate]; omega) h
 refine ⟨by rw [a2, List.length_replicate], fun j => ?_⟩
 have h5 : (List.replicate cs.length (0 : Int)).getD j 0 = 0 := by
  rw [List.getD_eq_getElem?_getD, List.getElem?_replicate]
  split <;> rfl
 have h6 := count_parts (cs.take i) j
 rw [a3 j, h5]
 omega
theorem seen_tops {n : Nat} {m : Int} {ts u u2 : List Int} (hu : SeenOk n m u) (i : Nat) (h : (ts.take i).foldlM topStep u = some u2) : SeenOk n (m + ts.length) u2 := by
 obtain ⟨_, b2, b3⟩ := tops_seen (ts.take i) u u2 h
 refine ⟨b2.trans hu.1, fun j => ?_⟩
 have h1 := hu.2 j
 have h2 := List.count_le_length (a := (j : Int)) (l := ts.take i)
 have h3 : (ts.take i).length ≤ ts.length := by rw [List.length_take]; omega
 rw [b3 j]
 omega
theorem bump_ok {n : Nat} {m : Int} {u : List Int} (h : SeenOk n m u) {x : Int} (h0 : 0 ≤ x) (h1 : x < n) : SeenOk n (m + 1) (bump u x) := by
 refine ⟨by rw [bump_length]; exact h.1, fun j => ?_⟩
 have h2 := h.2 j
 rw [bump_get u x h0 (by have := h.1; omega)]
 split <;> omega
theorem zip_at {cs : List KDatum} {i : Nat} {x : KDatum × Nat} (h : cs.zipIdx[i]? = some x) : ∃ c, x = (c, i) ∧ cs[i]? = some c := by
 rw [List.getElem?_zipIdx] at h
 cases hc : cs[i]? with
 | none => rw [hc] at h; cases h
 | some c => rw [hc] at h; exact ⟨c, by simpa using h.symm, rfl⟩
theorem set_row {u : List Int} {k j : Nat} {v v' : Int} (h : (u.set k v)[j]? = some v') : ((u.map fun n : Int => [L.int .i64 n]).set k [L.int .i64 v])[j]? = some [L.int .i64 v'] := by
 have e : (u.map fun n : Int => [L.int .i64 n]).set k [L.int .i64 v] = (u.set k v).map fun n : Int => [L.int .i64 n] := by rw [List.map_set]
 rw [e, List.getElem?_map, h]
 rfl
theorem wholeB_none {d : KData} (h : d.cells.zipIdx.foldlM cellStep (List.replicate d.cells.length 0) = none) : wholeB d = false := by
 unfold wholeB seenB
 rw [h]
theorem wholeB_tops {d : KData} {u : List Int} (h : d.cells.zipIdx.foldlM cellStep (List.replicate d.cells.length 0) = some u) (h2 : d.tops.foldlM topStep u = none) : wholeB d = false := by
 unfold wholeB seenB
 rw [h]
 simp only
 rw [h2]
theorem wholeB_some {d : KData} {u r : List Int} (h : d.cells.zipIdx.foldlM cellStep (List.replicate d.cells.length 0) = some u) (h2 : d.tops.foldlM topStep u = some r) : wholeB d = r.all fun n => decide (n = 1) := by
 unfold wholeB seenB
 rw [h]
 simp only
 rw [h2]
theorem implWhole (d : KData) (hl : (d.cells.length : Int) ≤ 1048576) (ht : (d.tops.length : Int) ≤ 1048576) : A 68 [.box (KData.row false d)] = some ([.leaf (.bool (wholeB d))], [.box (KData.row false d)]) := by
 obtain ⟨cs, ts⟩ := d
 simp only at hl ht
 refine run_impl_Data_isWhole ?_
 simp (maxSteps := 1000000) (disch := omega) [ip, wr, impl_Data_isWhole.b]
 refine at_foldM (fun e i (s : List Int) => (e.put 21 (.v (.leaf (.int .i64 i)))).put 3 (.v (.leaf (Kints true s)))) impl_Data_isWhole.l0.eq_1 cellStep cs.zipIdx (List.replicate cs.length 0) (by simp) (fun u g => ?_) (fun i x u u' hx hi hs hf ih => ?_) (fun i x u hx hi hs hf g => ?_)
 ·have hu := seen_cells (i := cs.zipIdx.length) (by rw [List.take_length]; exact g)
  rw [List.length_zipIdx]
  simp (maxSteps := 1000000) (disch := omega) [ip, wr, ]
  refine at_foldM (fun e i (s : List Int) => (e.put 63 (.v (.leaf (.int .i64 i)))).put 3 (.v (.leaf (Kints true s)))) impl_Data_isWhole.l1.eq_1 topStep ts u (by simp) (fun r g2 => ?_) (fun i x r r' hx hi hs hf ih => ?_) (fun i x r hx hi hs hf g2 => ?_)
  ·rw [wholeB_some g g2]
   have hr := seen_tops hu ts.length (by rw [List.take_length]; exact g2)
   have hrl : (r.length : Int) = cs.length := by rw [hr.1]
   simp (maxSteps := 1000000) (disch := omega) [ip, wr, ]
   refine at_all 85 impl_Data_isWhole.l2.eq_1 (fun n : Int => decide (n = 1)) r (by simp) (fun g3 => ?_) (fun i x hx hi hp ih => ?_) (fun i x hx hi hp g3 => ?_)
   ·rw [g3]
    simp (maxSteps := 1000000) (disch := omega) [ip, wr, ]
   ·have hp := of_decide_eq_true hp
    simp (maxSteps := 1000000) (disch := omega) [ip, wr, hi, hx, at_get hx, hp]
    exact ih
   ·have hp := of_decide_eq_false hp
    rw [g3]
    simp (maxSteps := 1000000) (disch := omega) [ip, wr, hi, hx, at_get hx, hp]
  ·unfold topStep at hf
   have hr := seen_tops hu i hs
   rw [hr.1] at hf
   split at hf
   ·rename_i hx2
    obtain rfl := (Option.some.inj hf).symm
    obtain ⟨hx0, hx1⟩ := hx2
    obtain ⟨v, e1, d1, v0, v1⟩ := seen_at hr hx0 hx1
    have hI := inRange' x 0 ((cs.length : Int) - 1)
    rw [show within 0 ((cs.length : Int) - 1) x = true by simp [within]; omega] at hI
    unfold bump at ih
    rw [d1] at ih
    have hxl : x.toNat < r.length := by have := hr.1; omega
    simp (maxSteps := 1000000) (disch := omega) [ip, wr, hi, hx, at_get hx, hI, hx0, e1, at_get e1, hxl]
    refine run_env ih ?_
    simp
   ·cases hf
  ·unfold topStep at hf
   have hr := seen_tops hu i hs
   rw [hr.1] at hf
   split at hf
   ·cases hf
   ·rename_i hx2
    rw [wholeB_tops g g2]
    have hI := inRange' x 0 ((cs.length : Int) - 1)
    rw [show within 0 ((cs.length : Int) - 1) x = false by simp [within]; omega] at hI
    simp (maxSteps := 1000000) (disch := omega) [ip, wr, hi, hx, at_get hx, hI]
 ·obtain ⟨c, rfl, hc⟩ := zip_at hx
  have hu := seen_cells hs
  rw [List.length_zipIdx] at hi
  unfold cellStep at hf
  simp only at hf
  by_cases hk : c.kind = 5
  ·rw [if_pos hk] at hf
   split at hf
   ·rename_i hlow
    obtain rfl := (Option.some.inj hf).symm
    unfold lowB at hlow
    rw [decide_eq_true_iff] at hlow
    obtain ⟨⟨l0, l1⟩, r0, r1⟩ := hlow hk
    obtain ⟨v, e1, d1, v0, v1⟩ := seen_at hu l0 (by omega)
    obtain ⟨v', e2, d2, v0', v1'⟩ := seen_at (bump_ok hu l0 (by omega)) r0 (by omega)
    have hI := inRange' c.l 0 ((i : Int) - 1)
    have hJ := inRange' c.r 0 ((i : Int) - 1)
    rw [show within 0 ((i : Int) - 1) c.l = true by simp [within]; omega] at hI
    rw [show within 0 ((i : Int) - 1) c.r = true by simp [within]; omega] at hJ
    rw [show bump (bump u c.l) c.r = (bump u c.l).set c.r.toNat (v' + 1) by unfold bump at d2 ⊢; rw [d2]] at ih
    rw [show bump u c.l = u.set c.l.toNat (v + 1) by unfold bump; rw [d1]] at ih e2
    have hul := hu.1
    have h1 : c.l.toNat < u.length := by omega
    have h2 : c.r.toNat < u.length := by omega
    have e4 := set_row e2
    simp (maxSteps := 1000000) (disch := omega) [ip, wr, hi, hc, at_get hc, hk, hI, hJ, l0, r0, e1, at_get e1, e4, h1, h2]
    refine run_env ih ?_
    simp [List.map_set]
   ·cases hf
  ·rw [if_neg hk] at hf
   obtain rfl := (Option.some.inj hf).symm
   simp (maxSteps := 1000000) (disch := omega) [ip, wr, hi, hc, at_get hc, hk]
   exact ih
 ·obtain ⟨c, rfl, hc⟩ := zip_at hx
  rw [List.length_zipIdx] at hi
  unfold cellStep at hf
  simp only at hf
  by_cases hk : c.kind = 5
  ·rw [if_pos hk] at hf
   split at hf
   ·cases hf
   ·rename_i hlow
    unfold lowB at hlow
    rw [decide_eq_true_iff] at hlow
    rw [wholeB_none g]
    have hI := inRange' c.l 0 ((i : Int) - 1)
    have hJ := inRange' c.r 0 ((i : Int) - 1)
    by_cases hcl : 0 ≤ c.l ∧ c.l < i
    ·rw [show within 0 ((i : Int) - 1) c.l = true by simp [within]; omega] at hI
     rw [show within 0 ((i : Int) - 1) c.r = false by simp [within]; intro _; refine Int.not_le.1 fun h => hlow fun _ => ⟨hcl, by omega, by omega⟩] at hJ
     simp (maxSteps := 1000000) (disch := omega) [ip, wr, hi, hc, at_get hc, hk, hI, hJ]
    ·rw [show within 0 ((i : Int) - 1) c.l = false by simp [within]; omega] at hI
     simp (maxSteps := 1000000) (disch := omega) [ip, wr, hi, hc, at_get hc, hk, hI]
  ·rw [if_neg hk] at hf
   cases hf
def KDatum.w (x : KDatum) : Nat := x.s.size
def KDatum.us : List KDatum → Nat
 | [] => 0
 | x :: xs => KDatum.w x + KDatum.us xs
end Go.Proofs.YtjcjodcpiickaaaGreatDoor.RA
