/- Are data right? The program and the reference tell the same. -/
import Derived.Test.YtjcjodcpiickaaaGreatDoorRAShowC
import Derived.Test.YtjcjodcpiickaaaGreatDoorRAReadE
namespace Go.Proofs.YtjcjodcpiickaaaGreatDoor.RA
open Go Go.VS Go.Lib
set_option maxRecDepth 10000
set_option maxHeartbeats 8000000
set_option linter.unusedSimpArgs false
set_option linter.unusedVariables false
noncomputable instance decD : DecidableEq KDatum := fun a b => Classical.propDecidable (a = b)
theorem zip_all {α : Type} [DecidableEq α] : ∀ a b : List α, a.length = b.length → ((a.zip b).all fun q => decide (q.1 = q.2)) = decide (a = b)
 | [], [], _ => by simp
 | x :: a, y :: b, h => by
  have ih := zip_all a b (by simpa using h)
  simp only [List.zip_cons_cons, List.all_cons, ih, List.cons.injEq]
  by_cases h1 : x = y <;> by_cases h2 : a = b <;> simp [h1, h2]
 | [], y :: b, h => by simp at h
 | x :: a, [], h => by simp at h
theorem zip_get {α : Type} {a b : List α} {i : Nat} {q : α × α} (h : (a.zip b)[i]? = some q) : a[i]? = some q.1 ∧ b[i]? = some q.2 := by
 rw [List.getElem?_zip_eq_some] at h
 exact h
theorem eqD (a b : KDatum) : eqLs [.int, .int, .str, .int, .int] [.int .i64 a.kind, .int .i64 a.n, .str a.s, .int .i64 a.l, .int .i64 a.r] [.int .i64 b.kind, .int .i64 b.n, .str b.s, .int .i64 b.l, .int .i64 b.r] = some (decide (a = b)) := by
 obtain ⟨k, n, s, l, r⟩ := a
 obtain ⟨k', n', s', l', r'⟩ := b
 simp only [eqLs, if_true, Option.map_some, KDatum.mk.injEq]
 congr 1
 rw [show (s.toList == s'.toList) = decide (s = s') by rw [beq_dec, decide_eq_decide, toList_injE]]
 by_cases h1 : k = k' <;> by_cases h2 : n = n' <;> by_cases h3 : s = s' <;> by_cases h4 : l = l' <;> by_cases h5 : r = r' <;> simp [h1, h2, h3, h4, h5]
theorem equalD (a b : List KDatum) (ha : (a.length : Int) ≤ 1000000000) : A 73 [.leaf (KDatum.sl false a), .leaf (KDatum.sl false b)] = some ([.leaf (.bool (decide (a = b)))], [.gone, .gone]) := by
 refine run_slices_Equal_impl_Datum_impl_Datum ?_
 by_cases hl : a.length = b.length
 ·have hl' : (a.length : Int) = b.length := by omega
  have hz : (a.zip b).length = a.length := by rw [List.length_zip]; omega
  rw [← zip_all a b hl]
  simp (maxSteps := 1000000) (disch := omega) [ip, wr, slices_Equal_impl_Datum_impl_Datum.b, hl']
  refine at_all 13 slices_Equal_impl_Datum_impl_Datum.l0.eq_1 (fun q : KDatum × KDatum => decide (q.1 = q.2)) (a.zip b) (by simp) (fun g => ?_) (fun i q hx hi hp ih => ?_) (fun i q hx hi hp g => ?_)
  ·rw [g, hz]
   simp (maxSteps := 1000000) (disch := omega) [ip, wr, hl']
  ·obtain ⟨x1, x2⟩ := zip_get hx
   rw [hz] at hi
   have hp := of_decide_eq_true hp
   have hi2 : (i : Int) < b.length := by omega
   rw [hp] at x1
   simp (maxSteps := 1000000) (disch := omega) [ip, wr, hi, hi2, x1, x2, at_get x1, at_get x2]
   exact ih
  ·obtain ⟨x1, x2⟩ := zip_get hx
   rw [hz] at hi
   have hi2 : (i : Int) < b.length := by omega
   have he := eqD q.1 q.2
   rw [hp] at he
   rw [g]
   simp (maxSteps := 1000000) (disch := omega) [ip, wr, hi, hi2, x1, x2, at_get x1, at_get x2, he]
 ·have hl' : ¬ (a.length : Int) = b.length := by omega
  rw [decide_eq_false (fun h => hl (by rw [h]))]
  simp (maxSteps := 1000000) (disch := omega) [ip, wr, slices_Equal_impl_Datum_impl_Datum.b, hl']
theorem equalI (a b : List Int) (ha : (a.length : Int) ≤ 1000000000) : A 74 [.leaf (Kints false a), .leaf (Kints false b)] = some ([.leaf (.bool (decide (a = b)))], [.gone, .gone]) := by
 refine run_slices_Equal_int_int ?_
 by_cases hl : a.length = b.length
 ·have hl' : (a.length : Int) = b.length := by omega
  have hz : (a.zip b).length = a.length := by rw [List.length_zip]; omega
  rw [← zip_all a b hl]
  simp (maxSteps := 1000000) (disch := omega) [ip, wr, slices_Equal_int_int.b, hl']
  refine at_all 13 slices_Equal_int_int.l0.eq_1 (fun q : Int × Int => decide (q.1 = q.2)) (a.zip b) (by simp) (fun g => ?_) (fun i q hx hi hp ih => ?_) (fun i q hx hi hp g => ?_)
  ·rw [g, hz]
   simp (maxSteps := 1000000) (disch := omega) [ip, wr, hl']
  ·obtain ⟨x1, x2⟩ := zip_get hx
   rw [hz] at hi
   have hp := of_decide_eq_true hp
   have hi2 : (i : Int) < b.length := by omega
   rw [hp] at x1
   simp (maxSteps := 1000000) (disch := omega) [ip, wr, hi, hi2, x1, x2, at_get x1, at_get x2]
   exact ih
  ·obtain ⟨x1, x2⟩ := zip_get hx
   rw [hz] at hi
   have hi2 : (i : Int) < b.length := by omega
   have he := of_decide_eq_false hp
   rw [g]
   simp (maxSteps := 1000000) (disch := omega) [ip, wr, hi, hi2, x1, x2, at_get x1, at_get x2, he]
 ·have hl' : ¬ (a.length : Int) = b.length := by omega
  rw [decide_eq_false (fun h => hl (by rw [h]))]
  simp (maxSteps := 1000000) (disch := omega) [ip, wr, slices_Equal_int_int.b, hl']
theorem sameD (a b : KData) (ha : (a.cells.length : Int) ≤ 1000000000) (hb : (a.tops.length : Int) ≤ 1000000000) : A 77 [.agg (KData.row false a), .agg (KData.row false b)] = some ([.leaf (.bool (decide (a = b)))], [.gone, .gone]) := by
 refine run_spec_l2Same ?_
 obtain ⟨a, s⟩ := a
 obtain ⟨b, t⟩ := b
 simp only at ha hb
 have hD : decide ((⟨a, s⟩ : KData) = ⟨b, t⟩) = (decide (a = b) && decide (s = t)) := by
  by_cases h1 : a = b <;> by_cases h2 : s = t <;> simp [h1, h2]
 rw [hD]
 by_cases hl : a.length = b.length
 ·by_cases hm : s.length = t.length
  ·have hl' : (a.length : Int) = b.length := by omega
   have hm' : (s.length : Int) = t.length := by omega
   have hz : (a.zip b).length = a.length := by rw [List.length_zip]; omega
   have hy : (s.zip t).length = s.length := by rw [List.length_zip]; omega
   rw [← zip_all a b hl]
   simp (maxSteps := 1000000) (disch := omega) [ip, wr, spec_l2Same.b, hl', hm']
   refine at_all 5 spec_l2Same.l0.eq_1 (fun q : KDatum × KDatum => decide (q.1 = q.2)) (a.zip b) (by simp) (fun g => ?_) (fun i q hx hi hp ih => ?_) (fun i q hx hi hp g => ?_)
   ·rw [g, hz, ← zip_all s t hm]
    simp (maxSteps := 1000000) (disch := omega) [ip, wr, hl']
    refine at_all 6 spec_l2Same.l1.eq_1 (fun q : Int × Int => decide (q.1 = q.2)) (s.zip t) (by simp) (fun g2 => ?_) (fun i q hx hi hp ih => ?_) (fun i q hx hi hp g2 => ?_)
    ·rw [g2, hy]
     simp (maxSteps := 1000000) (disch := omega) [ip, wr, hm']
    ·obtain ⟨x1, x2⟩ := zip_get hx
     rw [hy] at hi
     have hp := of_decide_eq_true hp
     have hi2 : (i : Int) < t.length := by omega
     rw [hp] at x1
     simp (maxSteps := 1000000) (disch := omega) [ip, wr, hi, hi2, x1, x2, at_get x1, at_get x2]
     exact ih
    ·obtain ⟨x1, x2⟩ := zip_get hx
     rw [hy] at hi
     have hi2 : (i : Int) < t.length := by omega
     have hp := of_decide_eq_false hp
     rw [g2]
     simp (maxSteps := 1000000) (disch := omega) [ip, wr, hi, hi2, x1, x2, at_get x1, at_get x2, hp]
   ·obtain ⟨x1, x2⟩ := zip_get hx
    rw [hz] at hi
    have hp := of_decide_eq_true hp
    have hi2 : (i : Int) < b.length := by omega
    have he := eqD q.1 q.2
    rw [decide_eq_true hp] at he
    simp (maxSteps := 1000000) (disch := omega) [ip, wr, hi, hi2, x1, x2, at_get x1, at_get x2, he]
    exact ih
   ·obtain ⟨x1, x2⟩ := zip_get hx
    rw [hz] at hi
    have hi2 : (i : Int) < b.length := by omega
    have he := eqD q.1 q.2
    rw [hp] at he
    rw [g]
    simp (maxSteps := 1000000) (disch := omega) [ip, wr, hi, hi2, x1, x2, at_get x1, at_get x2, he]
  ·have hl' : (a.length : Int) = b.length := by omega
   have hm' : ¬ (s.length : Int) = t.length := by omega
   rw [decide_eq_false (p := s = t) (fun h => hm (by rw [h])), Bool.and_false]
   simp (maxSteps := 1000000) (disch := omega) [ip, wr, spec_l2Same.b, hl', hm']
 ·have hl' : ¬ (a.length : Int) = b.length := by omega
  rw [decide_eq_false (p := a = b) (fun h => hl (by rw [h])), Bool.false_and]
  simp (maxSteps := 1000000) (disch := omega) [ip, wr, spec_l2Same.b, hl']
/-- Are data right: what they are shown as is read as them. -/
noncomputable def dataOkB (d : KData) : Bool := decide ((readR ⟨(showB d).toArray⟩).2 = -1) && decide ((readR ⟨(showB d).toArray⟩).1 = d)
theorem readR_at (s : ByteArray) : (readR s).2 = -1 ∨ 0 ≤ (readR s).2 := by
 rcases readR_bad s with h | ⟨h, h2, _⟩
 ·exact .inl h
 ·right; omega
theorem dataOk_size {d : KData} (h : dataOkB d = true) : d.cells.length ≤ 1000 ∧ d.tops.length ≤ 1000 ∧ ∀ c ∈ d.cells, c.s.size ≤ 16 := by
 unfold dataOkB at h
 simp only [Bool.and_eq_true, decide_eq_true_eq] at h
 have h1 := readR_size ⟨(showB d).toArray⟩
 rw [h.2] at h1
 exact h1
theorem implDataOk {d : KData} (hd : ShowOk d) (hus : KDatum.us d.cells ≤ 1048576) (ht : (d.tops.length : Int) ≤ 1048576) (hb : (showB d).length ≤ 1000000000) : A 16 [.agg (KData.row false d)] = some ([.leaf (.bool (dataOkB d))], [.gone]) := by
 refine run_impl_DataOk ?_
 by_cases hc : (1000 : Int) < d.cells.length
 ·have hf : dataOkB d = false := by
   by_cases h : dataOkB d = true
   ·have := (dataOk_size h).1; omega
   ·simpa using h
  rw [hf]
  simp (maxSteps := 1000000) (disch := omega) [ip, wr, impl_DataOk.b, hc]
 ·have hs := implShow hd hus ht
  have hr := implRead (s := ⟨(showB d).toArray⟩) (by rw [show (ByteArray.mk (showB d).toArray).size = (showB d).length from rfl]; omega)
  have hz := readR_size ⟨(showB d).toArray⟩
  unfold dataOkB
  generalize readR ⟨(showB d).toArray⟩ = z at *
  obtain ⟨⟨cs, ts⟩, n⟩ := z
  simp only at hz
  have h1 := equalD cs d.cells (by omega)
  have h2 := equalI ts d.tops (by omega)
  generalize (⟨(showB d).toArray⟩ : ByteArray) = s at *
  obtain ⟨dc, dt⟩ := d
  simp only at h1 h2 hc
  have hD : decide ((⟨cs, ts⟩ : KData) = ⟨dc, dt⟩) = (decide (cs = dc) && decide (ts = dt)) := by
   by_cases h1 : cs = dc <;> by_cases h2 : ts = dt <;> simp [h1, h2]
  simp only [hD]
  by_cases b1 : n = -1
  ·by_cases b2 : cs = dc
   ·subst b2
    simp only [b1, decide_true, Bool.true_and] at h1 ⊢
    simp (maxSteps := 1000000) (disch := omega) [ip, wr, impl_DataOk.b, hc, hs, hr, h1, h2, b1]
   ·simp only [b1, b2, decide_true, decide_false, Bool.true_and, Bool.false_and] at h1 ⊢
    simp (maxSteps := 1000000) (disch := omega) [ip, wr, impl_DataOk.b, hc, hs, hr, h1, h2, b1]
  ·simp only [b1, decide_false, Bool.false_and]
   simp (maxSteps := 1000000) (disch := omega) [ip, wr, impl_DataOk.b, hc, hs, hr, h1, h2, b1]
theorem specDataOk {d : KData} (hd : ShowOk d) (hus : KDatum.us d.cells ≤ 1048576) (ht : (d.tops.length : Int) ≤ 1048576) (hb : (showB d).length ≤ 1000000000) : A 18 [.agg (KData.row false d)] = some ([.leaf (.bool (dataOkB d))], [.gone]) := by
 refine run_spec_DataOk ?_
 have hs := specShow hd hus ht
 have hr := specRead (s := ⟨(showB d).toArray⟩) (by rw [show (ByteArray.mk (showB d).toArray).size = (showB d).length from rfl]; omega)
 have hz := readR_size ⟨(showB d).toArray⟩
 have ha := readR_at ⟨(showB d).toArray⟩
 unfold dataOkB
 generalize readR ⟨(showB d).toArray⟩ = z at *
 obtain ⟨x, n⟩ := z
 simp only at hz ha
 have h1 := sameD x d (by omega) (by omega)
 generalize (⟨(showB d).toArray⟩ : ByteArray) = s at *
 rcases ha with ha | ha
 ·subst ha
  simp (maxSteps := 1000000) (disch := omega) [ip, wr, spec_DataOk.b, hs, hr, h1]
 ·have b1 : ¬ n = -1 := by omega
  have b2 : ¬ n < 0 := by omega
  simp (maxSteps := 1000000) (disch := omega) [ip, wr, spec_DataOk.b, hs, hr, b1, b2]
end Go.Proofs.YtjcjodcpiickaaaGreatDoor.RA
