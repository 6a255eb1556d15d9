/- The laws' own functions over their structs: comparisons, marks, sizes, copies (printed by fam.py). -/
import Derived.Test.YtjcjodcpiickaaaDoorEngM7
import Derived.Test.YtjcjodcpiickaaaDoorRDFam0
namespace Go.Proofs.YtjcjodcpiickaaaDoor.RD
open Go Go.VS
set_option maxRecDepth 10000
set_option linter.unusedSimpArgs false
set_option linter.unusedVariables false

def markInts (k : Int) : List Int → List Int
  | [] => []
  | _ :: xs => k :: markInts (k + 1) xs
noncomputable def markStrs (k : Int) : List ByteArray → List ByteArray
  | [] => []
  | _ :: xs => mtext k :: markStrs (k + 1) xs
def strsU : List ByteArray → Nat
  | [] => 0
  | s :: xs => s.size + strsU xs
def strsFit : List ByteArray → Prop
  | [] => True
  | s :: xs => (s.size : Int) ≤ 1000000000000000 ∧ strsFit xs
theorem strsFit_of : ∀ {xs : List ByteArray}, (∀ s ∈ xs, s.size ≤ 140737488351232) → strsFit xs
  | [], _ => trivial
  | s :: xs, h => ⟨by have := h s (by simp); omega, strsFit_of fun y hy => h y (by simp [hy])⟩
def szR (w left : Int) : Int := if w ≤ left then left - w else -1
theorem szR_pos {w left : Int} (h : w ≤ left) : szR w left = left - w := if_pos h
theorem szR_neg {w left : Int} (h : left < w) : szR w left = -1 := if_neg (by omega)
@[simp] theorem markInts_length : ∀ (xs : List Int) (k : Int), (markInts k xs).length = xs.length
  | [], _ => rfl
  | _ :: xs, k => by simp [markInts, markInts_length xs]
@[simp] theorem markStrs_length : ∀ (xs : List ByteArray) (k : Int), (markStrs k xs).length = xs.length
  | [], _ => rfl
  | _ :: xs, k => by simp [markStrs, markStrs_length xs]
def KDatum.cnt (x : KDatum) : Nat := 5
def KDatum.cnts : List KDatum → Nat
  | [] => 0
  | x :: xs => KDatum.cnt x + KDatum.cnts xs
def KDatum.w (x : KDatum) : Nat := x.s.size
def KDatum.us : List KDatum → Nat
  | [] => 0
  | x :: xs => KDatum.w x + KDatum.us xs
def KDatum.fit (x : KDatum) : Prop := (x.s.size : Int) ≤ 1000000000000000 ∧ True
def KDatum.fits : List KDatum → Prop
  | [] => True
  | x :: xs => KDatum.fit x ∧ KDatum.fits xs
theorem KDatum.fits_of : ∀ {xs : List KDatum}, (∀ x ∈ xs, KDatum.fit x) → KDatum.fits xs
  | [], _ => trivial
  | x :: xs, h => ⟨h x (by simp), KDatum.fits_of fun y hy => h y (by simp [hy])⟩
theorem KDatum.cnts_le : ∀ xs : List KDatum, KDatum.cnts xs ≤ 5 * (xs.length + KDatum.us xs)
  | [] => by simp [KDatum.cnts]
  | x :: xs => by
    have := KDatum.cnts_le xs
    simp only [KDatum.cnts, KDatum.cnt, KDatum.us, KDatum.w, List.length_cons]; omega
noncomputable def KDatum.mark (k : Int) (x : KDatum) : KDatum := { kind := k, n := k + 1, s := mtext (k + 1 + 1), l := k + 1 + 1 + 1, r := k + 1 + 1 + 1 + 1 }
noncomputable def KDatum.marks (k : Int) : List KDatum → List KDatum
  | [] => []
  | x :: xs => KDatum.mark k x :: KDatum.marks (k + KDatum.cnt x) xs
noncomputable def KDatum.markTop (k : Int) (x : KDatum) : KDatum := { kind := x.kind, n := x.n, s := x.s, l := x.l, r := x.r }
def KDatum.top (x : KDatum) : Nat := 0
theorem KDatum.len_le : ∀ xs : List KDatum, xs.length ≤ KDatum.cnts xs
  | [] => Nat.le_refl _
  | x :: xs => by have := KDatum.len_le xs; simp only [KDatum.cnts, KDatum.cnt, List.length_cons]; omega
def KData.cnt (x : KData) : Nat := 0 + KDatum.cnts x.cells + x.tops.length
def KData.cnts : List KData → Nat
  | [] => 0
  | x :: xs => KData.cnt x + KData.cnts xs
def KData.w (x : KData) : Nat := (x.cells.length + KDatum.us x.cells) + x.tops.length
def KData.us : List KData → Nat
  | [] => 0
  | x :: xs => KData.w x + KData.us xs
def KData.fit (x : KData) : Prop := (x.cells.length : Int) ≤ 1000000000000000 ∧ KDatum.fits x.cells ∧ (x.tops.length : Int) ≤ 1000000000000000 ∧ True
def KData.fits : List KData → Prop
  | [] => True
  | x :: xs => KData.fit x ∧ KData.fits xs
theorem KData.fits_of : ∀ {xs : List KData}, (∀ x ∈ xs, KData.fit x) → KData.fits xs
  | [], _ => trivial
  | x :: xs, h => ⟨h x (by simp), KData.fits_of fun y hy => h y (by simp [hy])⟩
theorem KData.cnts_le : ∀ xs : List KData, KData.cnts xs ≤ 5 * (xs.length + KData.us xs)
  | [] => by simp [KData.cnts]
  | x :: xs => by
    have := KData.cnts_le xs
    have := KDatum.cnts_le x.cells
    simp only [KData.cnts, KData.cnt, KData.us, KData.w, List.length_cons]; omega
noncomputable def KData.mark (k : Int) (x : KData) : KData := { cells := KDatum.marks (k) x.cells, tops := markInts (k + ↑(KDatum.cnts x.cells)) x.tops }
noncomputable def KData.marks (k : Int) : List KData → List KData
  | [] => []
  | x :: xs => KData.mark k x :: KData.marks (k + KData.cnt x) xs
noncomputable def KData.markTop (k : Int) (x : KData) : KData := { cells := KDatum.marks (k) x.cells, tops := markInts (k + ↑(KDatum.cnts x.cells)) x.tops }
def KData.top (x : KData) : Nat := 0 + KDatum.cnts x.cells + x.tops.length
theorem eqIntS_loop (ks : List Fr) (Q : VX → Env → Prop) : ∀ (rest done : List Int) (i : Int), i = done.length → (done.length : Int) + (rest.length : Int) ≤ 1000000000000000 →
    Run G A (.exit 0) [(0, .v (.leaf (Kints false (done ++ rest)))), (1, .v (.leaf (Kints false (done ++ rest)))), (5, .v (.leaf (.int .i64 (done.length + rest.length)))), (14, .v (.leaf (.bool false)))] ks Q →
    Run G A (.loop laws_eqIntS.l0) [(0, .v (.leaf (Kints false (done ++ rest)))), (1, .v (.leaf (Kints false (done ++ rest)))), (5, .v (.leaf (.int .i64 i)))] ks Q := by
  intro rest
  induction rest with
  | nil =>
    intro done i hi h1 hq
    subst hi
    refine run_loop_at laws_eqIntS.l0.eq_1 ?_
    simpa using hq
  | cons x rest ih =>
    intro done i hi h1 hq
    subst hi
    simp only [List.length_cons] at h1
    have ih := ih (done ++ [x]) (done.length + 1) (by simp) (by simp; omega)
    refine run_loop_at laws_eqIntS.l0.eq_1 ?_
    simp (disch := omega) [ip, wr, get_mid]
    refine run_env (ih (run_env hq ?_)) ?_
    · simp <;> omega
    · simp
theorem eqIntS (xs : List Int) (h : (xs.length : Int) ≤ 1000000000000000) : A 25 [.leaf (Kints false (xs)), .leaf (Kints false (xs))] = some ([.leaf (.bool true)], [.gone, .gone]) := by
  refine run_laws_eqIntS ?_
  simp [laws_eqIntS.b]
  refine eqIntS_loop _ _ xs [] 0 (by simp) (by simp; omega) ?_
  simp
theorem markIntS_loop (ks : List Fr) (Q : VX → Env → Prop) : ∀ (rest done : List Int) (k i : Int), i = done.length → 0 ≤ k → k + (rest.length : Int) ≤ 1000000000000000 → (done.length : Int) + (rest.length : Int) ≤ 1000000000000000 →
    Run G A (.exit 0) [(0, .v (.leaf (Kints true (done ++ markInts k rest)))), (1, .v (.leaf (.int .i64 (k + (rest.length : Int))))), (5, .v (.leaf (.int .i64 (done.length + rest.length)))), (9, .v (.leaf (.bool false)))] ks Q →
    Run G A (.loop laws_markIntS.l0) [(0, .v (.leaf (Kints true (done ++ rest)))), (1, .v (.leaf (.int .i64 k))), (5, .v (.leaf (.int .i64 i)))] ks Q := by
  intro rest
  induction rest with
  | nil =>
    intro done k i hi h0 h1 h2 hq
    subst hi
    refine run_loop_at laws_markIntS.l0.eq_1 ?_
    simpa [markInts] using hq
  | cons x rest ih =>
    intro done k i hi h0 h1 h2 hq
    subst hi
    simp only [List.length_cons] at h1 h2
    have ih := ih (done ++ [k]) (k + 1) (done.length + 1) (by simp) (by omega) (by omega) (by simp; omega)
    refine run_loop_at laws_markIntS.l0.eq_1 ?_
    simp (disch := omega) [ip, wr, markText]
    refine run_env (ih (run_env hq ?_)) ?_
    · simp [markInts] <;> omega
    · simp [Nat.add_comm] <;> omega
theorem markIntS (xs : List Int) (k : Int) (h0 : 0 ≤ k) (h1 : k + (xs.length : Int) ≤ 1000000000000000) : A 31 [.leaf (Kints true (xs)), .leaf (.int .i64 k)] = some ([.leaf (.int .i64 (k + (xs.length : Int)))], [.leaf (Kints true (markInts k xs)), .gone]) := by
  refine run_laws_markIntS ?_
  simp [laws_markIntS.b]
  refine markIntS_loop _ _ xs [] k 0 (by simp) h0 h1 (by simp; omega) ?_
  simp
theorem heldIntS_loop (ks : List Fr) (Q : VX → Env → Prop) : ∀ (rest done : List Int) (k i : Int), i = done.length → 0 ≤ k → k + (rest.length : Int) ≤ 1000000000000000 → (done.length : Int) + (rest.length : Int) ≤ 1000000000000000 →
    Run G A (.exit 0) [(0, .v (.leaf (Kints false (done ++ markInts k rest)))), (1, .v (.leaf (.int .i64 (k + (rest.length : Int))))), (5, .v (.leaf (.int .i64 (done.length + rest.length)))), (9, .v (.leaf (.bool false)))] ks Q →
    Run G A (.loop laws_heldIntS.l0) [(0, .v (.leaf (Kints false (done ++ markInts k rest)))), (1, .v (.leaf (.int .i64 k))), (5, .v (.leaf (.int .i64 i)))] ks Q := by
  intro rest
  induction rest with
  | nil =>
    intro done k i hi h0 h1 h2 hq
    subst hi
    refine run_loop_at laws_heldIntS.l0.eq_1 ?_
    simp [markInts] at hq ⊢
    exact hq
  | cons x rest ih =>
    intro done k i hi h0 h1 h2 hq
    subst hi
    simp only [List.length_cons] at h1 h2
    have ih := ih (done ++ [k]) (k + 1) (done.length + 1) (by simp) (by omega) (by omega) (by simp; omega)
    refine run_loop_at laws_heldIntS.l0.eq_1 ?_
    simp only [markInts]
    simp (disch := omega) [ip, wr, markText]
    refine run_env (ih (run_env hq ?_)) ?_
    · simp [markInts] <;> omega
    · simp [Nat.add_comm] <;> omega
theorem heldIntS (xs : List Int) (k : Int) (h0 : 0 ≤ k) (h1 : k + (xs.length : Int) ≤ 1000000000000000) : A 33 [.leaf (Kints false (markInts k xs)), .leaf (.int .i64 k)] = some ([.leaf (.int .i64 (k + (xs.length : Int)))], [.gone, .gone]) := by
  refine run_laws_heldIntS ?_
  simp [laws_heldIntS.b]
  refine heldIntS_loop _ _ xs [] k 0 (by simp) h0 h1 (by simp; omega) ?_
  simp
theorem eqDatum (x : KDatum) : A 42 [.agg (KDatum.row false x), .agg (KDatum.row false x)] = some ([.leaf (.bool true)], [.gone, .gone]) := by
  refine run_laws_eqDatum ?_
  simp (disch := omega) [ip, wr, laws_eqDatum.b, eqIntS]
theorem eqDatumS_loop (ks : List Fr) (Q : VX → Env → Prop) : ∀ (rest done : List KDatum) (i : Int), i = done.length → (done.length : Int) + (KDatum.cnts rest : Int) ≤ 1000000000000000 →
    Run G A (.exit 0) [(0, .v (.leaf (KDatum.sl false (done ++ rest)))), (1, .v (.leaf (KDatum.sl false (done ++ rest)))), (5, .v (.leaf (.int .i64 (done.length + rest.length)))), (14, .v (.leaf (.bool false)))] ks Q →
    Run G A (.loop laws_eqDatumS.l0) [(0, .v (.leaf (KDatum.sl false (done ++ rest)))), (1, .v (.leaf (KDatum.sl false (done ++ rest)))), (5, .v (.leaf (.int .i64 i)))] ks Q := by
  intro rest
  induction rest with
  | nil =>
    intro done i hi h1 hq
    subst hi
    refine run_loop_at laws_eqDatumS.l0.eq_1 ?_
    simpa using hq
  | cons x rest ih =>
    intro done i hi h1 hq
    subst hi
    simp only [KDatum.cnts, KDatum.cnt, List.length_cons] at h1
    have := KDatum.len_le rest
    have ih := ih (done ++ [x]) (done.length + 1) (by simp) (by simp; omega)
    refine run_loop_at laws_eqDatumS.l0.eq_1 ?_
    simp (disch := omega) [ip, wr, eqIntS, eqDatum, get_mid]
    refine run_env (ih (run_env hq ?_)) ?_
    · simp <;> omega
    · simp
theorem eqDatumS (xs : List KDatum) (h : (KDatum.cnts xs : Int) ≤ 1000000000000000) : A 24 [.leaf (KDatum.sl false (xs)), .leaf (KDatum.sl false (xs))] = some ([.leaf (.bool true)], [.gone, .gone]) := by
  refine run_laws_eqDatumS ?_
  have := KDatum.len_le xs
  simp [laws_eqDatumS.b]
  refine eqDatumS_loop _ _ xs [] 0 (by simp) (by simp; omega) ?_
  simp
theorem markDatumS_loop (ks : List Fr) (Q : VX → Env → Prop) : ∀ (rest done : List KDatum) (k i : Int), i = done.length → 0 ≤ k → k + (KDatum.cnts rest : Int) ≤ 1000000000000000 → (done.length : Int) + (KDatum.cnts rest : Int) ≤ 1000000000000000 →
    Run G A (.exit 0) [(0, .v (.leaf (KDatum.sl true (done ++ KDatum.marks k rest)))), (1, .v (.leaf (.int .i64 (k + (KDatum.cnts rest : Int))))), (5, .v (.leaf (.int .i64 (done.length + rest.length)))), (9, .v (.leaf (.bool false)))] ks Q →
    Run G A (.loop laws_markDatumS.l0) [(0, .v (.leaf (KDatum.sl true (done ++ rest)))), (1, .v (.leaf (.int .i64 k))), (5, .v (.leaf (.int .i64 i)))] ks Q := by
  intro rest
  induction rest with
  | nil =>
    intro done k i hi h0 h1 h2 hq
    subst hi
    refine run_loop_at laws_markDatumS.l0.eq_1 ?_
    simpa [KDatum.marks, KDatum.cnts, KDatum.cnt] using hq
  | cons x rest ih =>
    intro done k i hi h0 h1 h2 hq
    subst hi
    simp only [KDatum.cnts, KDatum.cnt, List.length_cons] at h1 h2
    have := KDatum.len_le rest
    have ih := ih (done ++ [KDatum.mark k x]) (k + (KDatum.cnt x : Int)) (done.length + 1) (by simp) (by simp only [KDatum.cnt]; omega) (by simp only [KDatum.cnt]; omega) (by simp [KDatum.cnt]; omega)
    refine run_loop_at laws_markDatumS.l0.eq_1 ?_
    simp (disch := omega) [ip, wr, markText, markIntS]
    refine run_env (ih (run_env hq ?_)) ?_
    · simp [KDatum.marks, KDatum.cnts, KDatum.cnt] <;> omega
    · simp [KDatum.mark, KDatum.cnts, KDatum.cnt] <;> omega
theorem markDatumS (xs : List KDatum) (k : Int) (h0 : 0 ≤ k) (h1 : k + (KDatum.cnts xs : Int) ≤ 1000000000000000) : A 30 [.leaf (KDatum.sl true (xs)), .leaf (.int .i64 k)] = some ([.leaf (.int .i64 (k + (KDatum.cnts xs : Int)))], [.leaf (KDatum.sl true (KDatum.marks k xs)), .gone]) := by
  refine run_laws_markDatumS ?_
  simp [laws_markDatumS.b]
  refine markDatumS_loop _ _ xs [] k 0 (by simp) h0 h1 (by simp; omega) ?_
  simp
theorem heldDatumS_loop (ks : List Fr) (Q : VX → Env → Prop) : ∀ (rest done : List KDatum) (k i : Int), i = done.length → 0 ≤ k → k + (KDatum.cnts rest : Int) ≤ 1000000000000000 → (done.length : Int) + (KDatum.cnts rest : Int) ≤ 1000000000000000 →
    Run G A (.exit 0) [(0, .v (.leaf (KDatum.sl false (done ++ KDatum.marks k rest)))), (1, .v (.leaf (.int .i64 (k + (KDatum.cnts rest : Int))))), (5, .v (.leaf (.int .i64 (done.length + rest.length)))), (9, .v (.leaf (.bool false)))] ks Q →
    Run G A (.loop laws_heldDatumS.l0) [(0, .v (.leaf (KDatum.sl false (done ++ KDatum.marks k rest)))), (1, .v (.leaf (.int .i64 k))), (5, .v (.leaf (.int .i64 i)))] ks Q := by
  intro rest
  induction rest with
  | nil =>
    intro done k i hi h0 h1 h2 hq
    subst hi
    refine run_loop_at laws_heldDatumS.l0.eq_1 ?_
    simp [KDatum.marks, KDatum.cnts, KDatum.cnt] at hq ⊢
    exact hq
  | cons x rest ih =>
    intro done k i hi h0 h1 h2 hq
    subst hi
    simp only [KDatum.cnts, KDatum.cnt, List.length_cons] at h1 h2
    have := KDatum.len_le rest
    have ih := ih (done ++ [KDatum.mark k x]) (k + (KDatum.cnt x : Int)) (done.length + 1) (by simp) (by simp only [KDatum.cnt]; omega) (by simp only [KDatum.cnt]; omega) (by simp [KDatum.cnt]; omega)
    refine run_loop_at laws_heldDatumS.l0.eq_1 ?_
    simp only [KDatum.marks]
    simp (disch := omega) [ip, wr, markText, heldIntS, KDatum.mark]
    refine run_env (ih (run_env hq ?_)) ?_
    · simp [KDatum.marks, KDatum.cnts, KDatum.cnt] <;> omega
    · simp [KDatum.mark, KDatum.cnts, KDatum.cnt] <;> omega
theorem heldDatumS (xs : List KDatum) (k : Int) (h0 : 0 ≤ k) (h1 : k + (KDatum.cnts xs : Int) ≤ 1000000000000000) : A 32 [.leaf (KDatum.sl false (KDatum.marks k xs)), .leaf (.int .i64 k)] = some ([.leaf (.int .i64 (k + (KDatum.cnts xs : Int)))], [.gone, .gone]) := by
  refine run_laws_heldDatumS ?_
  simp [laws_heldDatumS.b]
  refine heldDatumS_loop _ _ xs [] k 0 (by simp) h0 h1 (by simp; omega) ?_
  simp
theorem eqData (x : KData) (h : (KDatum.cnts x.cells : Int) ≤ 1000000000000000 ∧ (x.tops.length : Int) ≤ 1000000000000000) : A 9 [.agg (KData.row false x), .agg (KData.row false x)] = some ([.leaf (.bool true)], [.gone, .gone]) := by
  refine run_laws_eqData ?_
  simp (disch := omega) [ip, wr, laws_eqData.b, eqIntS, eqDatum, eqDatumS]
theorem markData (x : KData) (k : Int) (h0 : 0 ≤ k) (h1 : k + (KData.top x : Int) ≤ 1000000000000000) : A 12 [.agg (KData.row true x), .leaf (.int .i64 k)] = some ([.leaf (.int .i64 (k + (KData.top x : Int)))], [.agg (KData.row true (KData.markTop k x)), .gone]) := by
  simp only [KData.top] at h1
  refine run_laws_markData ?_
  simp (disch := omega) [ip, wr, laws_markData.b, markText, markIntS, markDatumS]
  simp [KData.top, KData.markTop] <;> omega
theorem heldData (x : KData) (k : Int) (h0 : 0 ≤ k) (h1 : k + (KData.top x : Int) ≤ 1000000000000000) : A 13 [.agg (KData.row false (KData.markTop k x)), .leaf (.int .i64 k)] = some ([.leaf (.int .i64 (k + (KData.top x : Int)))], [.gone, .gone]) := by
  simp only [KData.top] at h1
  refine run_laws_heldData ?_
  simp (disch := omega) [ip, wr, laws_heldData.b, markText, heldIntS, heldDatumS, KData.markTop]
  simp [KData.top] <;> omega
end Go.Proofs.YtjcjodcpiickaaaDoor.RD
