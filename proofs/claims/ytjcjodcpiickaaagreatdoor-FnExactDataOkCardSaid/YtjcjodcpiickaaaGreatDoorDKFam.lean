/- The laws' own functions over their structs: comparisons, marks, sizes, copies (printed by fam.py). -/
import Derived.Test.YtjcjodcpiickaaaGreatDoorEngM7
import Derived.Test.YtjcjodcpiickaaaGreatDoorDKFam0
namespace Go.Proofs.YtjcjodcpiickaaaGreatDoor.DK
open Go Go.VS
set_option maxRecDepth 10000
set_option linter.unusedSimpArgs false
set_option linter.unusedVariables false

def strsU : List ByteArray → Nat
  | [] => 0
  | s :: xs => s.size + strsU xs
def strsFit : List ByteArray → Prop
  | [] => True
  | s :: xs => (s.size : Int) ≤ 1000000000000000 ∧ strsFit xs
theorem strsFit_of : ∀ {xs : List ByteArray}, (∀ s ∈ xs, s.size ≤ 140737488351232) → strsFit xs
  | [], _ => trivial
  | s :: xs, h => ⟨by have := h s (by simp); omega, strsFit_of fun y hy => h y (by simp [hy])⟩
def szR (w left : Int) : Int := if w ≤ left then left - w else -1
theorem szR_pos {w left : Int} (h : w ≤ left) : szR w left = left - w := if_pos h
theorem szR_neg {w left : Int} (h : left < w) : szR w left = -1 := if_neg (by omega)
def KDatum.cnt (x : KDatum) : Nat := 5
def KDatum.cnts : List KDatum → Nat
  | [] => 0
  | x :: xs => KDatum.cnt x + KDatum.cnts xs
def KDatum.w (x : KDatum) : Nat := x.s.size
def KDatum.us : List KDatum → Nat
  | [] => 0
  | x :: xs => KDatum.w x + KDatum.us xs
def KDatum.fit (x : KDatum) : Prop := (x.s.size : Int) ≤ 1000000000000000 ∧ True
def KDatum.fits : List KDatum → Prop
  | [] => True
  | x :: xs => KDatum.fit x ∧ KDatum.fits xs
theorem KDatum.fits_of : ∀ {xs : List KDatum}, (∀ x ∈ xs, KDatum.fit x) → KDatum.fits xs
  | [], _ => trivial
  | x :: xs, h => ⟨h x (by simp), KDatum.fits_of fun y hy => h y (by simp [hy])⟩
theorem KDatum.cnts_le : ∀ xs : List KDatum, KDatum.cnts xs ≤ 5 * (xs.length + KDatum.us xs)
  | [] => by simp [KDatum.cnts]
  | x :: xs => by
    have := KDatum.cnts_le xs
    simp only [KDatum.cnts, KDatum.cnt, KDatum.us, KDatum.w, List.length_cons]; omega
def KDatum.top (x : KDatum) : Nat := 0
theorem KDatum.len_le : ∀ xs : List KDatum, xs.length ≤ KDatum.cnts xs
  | [] => Nat.le_refl _
  | x :: xs => by have := KDatum.len_le xs; simp only [KDatum.cnts, KDatum.cnt, List.length_cons]; omega
def KData.cnt (x : KData) : Nat := 0 + KDatum.cnts x.cells + x.tops.length
def KData.cnts : List KData → Nat
  | [] => 0
  | x :: xs => KData.cnt x + KData.cnts xs
def KData.w (x : KData) : Nat := (x.cells.length + KDatum.us x.cells) + x.tops.length
def KData.us : List KData → Nat
  | [] => 0
  | x :: xs => KData.w x + KData.us xs
def KData.fit (x : KData) : Prop := (x.cells.length : Int) ≤ 1000000000000000 ∧ KDatum.fits x.cells ∧ (x.tops.length : Int) ≤ 1000000000000000 ∧ True
def KData.fits : List KData → Prop
  | [] => True
  | x :: xs => KData.fit x ∧ KData.fits xs
theorem KData.fits_of : ∀ {xs : List KData}, (∀ x ∈ xs, KData.fit x) → KData.fits xs
  | [], _ => trivial
  | x :: xs, h => ⟨h x (by simp), KData.fits_of fun y hy => h y (by simp [hy])⟩
theorem KData.cnts_le : ∀ xs : List KData, KData.cnts xs ≤ 5 * (xs.length + KData.us xs)
  | [] => by simp [KData.cnts]
  | x :: xs => by
    have := KData.cnts_le xs
    have := KDatum.cnts_le x.cells
    simp only [KData.cnts, KData.cnt, KData.us, KData.w, List.length_cons]; omega
def KData.top (x : KData) : Nat := 0 + KDatum.cnts x.cells + x.tops.length
theorem eqIntS_loop (ks : List Fr) (Q : VX → Env → Prop) : ∀ (rest done : List Int) (i : Int), i = done.length → (done.length : Int) + (rest.length : Int) ≤ 1000000000000000 →
    Run G A (.exit 0) [(0, .v (.leaf (Kints false (done ++ rest)))), (1, .v (.leaf (Kints false (done ++ rest)))), (5, .v (.leaf (.int .i64 (done.length + rest.length)))), (14, .v (.leaf (.bool false)))] ks Q →
    Run G A (.loop laws_eqIntS.l0) [(0, .v (.leaf (Kints false (done ++ rest)))), (1, .v (.leaf (Kints false (done ++ rest)))), (5, .v (.leaf (.int .i64 i)))] ks Q := by
  intro rest
  induction rest with
  | nil =>
    intro done i hi h1 hq
    subst hi
    refine run_loop_at laws_eqIntS.l0.eq_1 ?_
    simpa using hq
  | cons x rest ih =>
    intro done i hi h1 hq
    subst hi
    simp only [List.length_cons] at h1
    have ih := ih (done ++ [x]) (done.length + 1) (by simp) (by simp; omega)
    refine run_loop_at laws_eqIntS.l0.eq_1 ?_
    simp (disch := omega) [ip, wr, get_mid]
    refine run_env (ih (run_env hq ?_)) ?_
    · simp <;> omega
    · simp
theorem eqIntS (xs : List Int) (h : (xs.length : Int) ≤ 1000000000000000) : A 97 [.leaf (Kints false (xs)), .leaf (Kints false (xs))] = some ([.leaf (.bool true)], [.gone, .gone]) := by
  refine run_laws_eqIntS ?_
  simp [laws_eqIntS.b]
  refine eqIntS_loop _ _ xs [] 0 (by simp) (by simp; omega) ?_
  simp
theorem toIntS_loop (ks : List Fr) (Q : VX → Env → Prop) : ∀ (rest done : List Int) (i : Int), i = done.length → (done.length : Int) + rest.length ≤ 1048576 → (0 : Int) ≤ 1048576 →
    Run G A (.exit 0) [(0, .v (.leaf (Kints false (done ++ rest)))), (3, .v (.leaf (Kints true (done ++ rest)))), (4, .v (.leaf (.int .i64 (done.length + rest.length)))), (11, .v (.leaf (.bool false)))] ks Q →
    Run G A (.loop laws_toIntS.l0) [(0, .v (.leaf (Kints false (done ++ rest)))), (3, .v (.leaf (.sl true 1 (done.map (fun n : Int => [L.int .i64 n]) ++ List.replicate rest.length [.int .i64 0])))), (4, .v (.leaf (.int .i64 i)))] ks Q := by
  intro rest
  induction rest with
  | nil =>
    intro done i hi h1 hu hq
    subst hi
    refine run_loop_at laws_toIntS.l0.eq_1 ?_
    simpa using hq
  | cons x rest ih =>
    intro done i hi h1 hu hq
    subst hi
    simp only [List.length_cons] at h1 hu
    have ih := ih (done ++ [x]) (done.length + 1) (by simp) (by simp; omega) (by omega)
    refine run_loop_at laws_toIntS.l0.eq_1 ?_
    simp (disch := omega) [ip, wr, get_mid, List.replicate_succ]
    refine run_env (ih (run_env hq ?_)) ?_
    · simp <;> omega
    · simp
theorem toIntS (xs : List Int) (h : (xs.length : Int) ≤ 1048576) : A 95 [.leaf (Kints false (xs))] = some ([.leaf (Kints true (xs))], [.gone]) := by
  refine run_laws_toIntS ?_
  simp (disch := omega) [ip, wr, laws_toIntS.b]
  refine run_env (toIntS_loop _ _ xs [] 0 (by simp) (by simp; omega) (by omega) ?_) ?_
  · simp
  · simp
theorem szIntS (xs : List Int) (left : Int) (h0 : 0 ≤ left) (h1 : left ≤ 1000000000000000) (hn : (xs.length : Int) ≤ 1000000000000000) : A 93 [.leaf (Kints false (xs)), .leaf (.int .i64 left)] = some ([.leaf (.int .i64 (szR xs.length left))], [.gone, .gone]) := by
  refine run_laws_szIntS ?_
  by_cases c : (xs.length : Int) ≤ left
  · simp (disch := omega) [ip, wr, laws_szIntS.b, szR_pos, szR_neg]
  · simp (disch := omega) [ip, wr, laws_szIntS.b, szR_pos, szR_neg]
theorem eqDatum (x : KDatum) : A 177 [.agg (KDatum.row false x), .agg (KDatum.row false x)] = some ([.leaf (.bool true)], [.gone, .gone]) := by
  refine run_laws_eqDatum ?_
  simp (disch := omega) [ip, wr, laws_eqDatum.b, eqIntS]
theorem toDatum (x : KDatum) (h : (KDatum.w x : Int) ≤ 1048576) : A 176 [.agg (KDatum.row false x)] = some ([.agg (KDatum.row true x)], [.gone]) := by
  simp only [KDatum.w] at h
  refine run_laws_toDatum ?_
  simp (disch := omega) [ip, wr, laws_toDatum.b, toIntS]
theorem szDatum (x : KDatum) (left : Int) (h0 : 0 ≤ left) (h1 : left ≤ 1000000000000000) (hf : KDatum.fit x) : A 175 [.agg (KDatum.row false x), .leaf (.int .i64 left)] = some ([.leaf (.int .i64 (szR ↑(KDatum.w x) left))], [.gone, .gone]) := by
  obtain ⟨f1, -⟩ := hf
  simp only [KDatum.w, Int.natCast_add]
  refine run_laws_szDatum ?_
  by_cases c0 : ((x.s.size : Nat) : Int) ≤ left
  · simp (disch := omega) [ip, wr, laws_szDatum.b, szR_pos, szR_neg] <;> omega
  · simp (disch := omega) [ip, wr, laws_szDatum.b, szR_pos, szR_neg] <;> omega
theorem eqDatumS_loop (ks : List Fr) (Q : VX → Env → Prop) : ∀ (rest done : List KDatum) (i : Int), i = done.length → (done.length : Int) + (KDatum.cnts rest : Int) ≤ 1000000000000000 →
    Run G A (.exit 0) [(0, .v (.leaf (KDatum.sl false (done ++ rest)))), (1, .v (.leaf (KDatum.sl false (done ++ rest)))), (5, .v (.leaf (.int .i64 (done.length + rest.length)))), (14, .v (.leaf (.bool false)))] ks Q →
    Run G A (.loop laws_eqDatumS.l0) [(0, .v (.leaf (KDatum.sl false (done ++ rest)))), (1, .v (.leaf (KDatum.sl false (done ++ rest)))), (5, .v (.leaf (.int .i64 i)))] ks Q := by
  intro rest
  induction rest with
  | nil =>
    intro done i hi h1 hq
    subst hi
    refine run_loop_at laws_eqDatumS.l0.eq_1 ?_
    simpa using hq
  | cons x rest ih =>
    intro done i hi h1 hq
    subst hi
    simp only [KDatum.cnts, KDatum.cnt, List.length_cons] at h1
    have := KDatum.len_le rest
    have ih := ih (done ++ [x]) (done.length + 1) (by simp) (by simp; omega)
    refine run_loop_at laws_eqDatumS.l0.eq_1 ?_
    simp (disch := omega) [ip, wr, eqIntS, eqDatum, get_mid]
    refine run_env (ih (run_env hq ?_)) ?_
    · simp <;> omega
    · simp
theorem eqDatumS (xs : List KDatum) (h : (KDatum.cnts xs : Int) ≤ 1000000000000000) : A 96 [.leaf (KDatum.sl false (xs)), .leaf (KDatum.sl false (xs))] = some ([.leaf (.bool true)], [.gone, .gone]) := by
  refine run_laws_eqDatumS ?_
  have := KDatum.len_le xs
  simp [laws_eqDatumS.b]
  refine eqDatumS_loop _ _ xs [] 0 (by simp) (by simp; omega) ?_
  simp
theorem toDatumS_loop (ks : List Fr) (Q : VX → Env → Prop) : ∀ (rest done : List KDatum) (i : Int), i = done.length → (done.length : Int) + rest.length ≤ 1048576 → (KDatum.us rest : Int) ≤ 1048576 →
    Run G A (.exit 0) [(0, .v (.leaf (KDatum.sl false (done ++ rest)))), (3, .v (.leaf (KDatum.sl true (done ++ rest)))), (4, .v (.leaf (.int .i64 (done.length + rest.length)))), (11, .v (.leaf (.bool false)))] ks Q →
    Run G A (.loop laws_toDatumS.l0) [(0, .v (.leaf (KDatum.sl false (done ++ rest)))), (3, .v (.leaf (.sl true 5 (done.map (KDatum.row true) ++ List.replicate rest.length [.int .i64 0, .int .i64 0, .str ⟨#[]⟩, .int .i64 0, .int .i64 0])))), (4, .v (.leaf (.int .i64 i)))] ks Q := by
  intro rest
  induction rest with
  | nil =>
    intro done i hi h1 hu hq
    subst hi
    refine run_loop_at laws_toDatumS.l0.eq_1 ?_
    simpa using hq
  | cons x rest ih =>
    intro done i hi h1 hu hq
    subst hi
    simp only [KDatum.us, List.length_cons] at h1 hu
    have ih := ih (done ++ [x]) (done.length + 1) (by simp) (by simp; omega) (by omega)
    refine run_loop_at laws_toDatumS.l0.eq_1 ?_
    simp (disch := omega) [ip, wr, toIntS, toDatum, get_mid, List.replicate_succ]
    refine run_env (ih (run_env hq ?_)) ?_
    · simp <;> omega
    · simp
theorem toDatumS (xs : List KDatum) (h : ((xs.length + KDatum.us xs) : Int) ≤ 1048576) : A 94 [.leaf (KDatum.sl false (xs))] = some ([.leaf (KDatum.sl true (xs))], [.gone]) := by
  refine run_laws_toDatumS ?_
  simp (disch := omega) [ip, wr, laws_toDatumS.b]
  refine run_env (toDatumS_loop _ _ xs [] 0 (by simp) (by simp; omega) (by omega) ?_) ?_
  · simp
  · simp
theorem szDatumS_loop (ks : List Fr) (Q : VX → Env → Prop) : ∀ (rest done : List KDatum) (l i : Int), i = done.length → 0 ≤ l → l ≤ 1000000000000000 → (done.length : Int) + rest.length ≤ 1000000000000000 → KDatum.fits rest →
    ((KDatum.us rest : Int) ≤ l → Run G A (.exit 0) [(0, .v (.leaf (KDatum.sl false (done ++ rest)))), (1, .v (.leaf (.int .i64 (l - KDatum.us rest)))), (5, .v (.leaf (.int .i64 (done.length + rest.length)))), (15, .v (.leaf (.bool false)))] ks Q) →
    (l < KDatum.us rest → Run G A .ret [(4, .v (.leaf (.int .i64 (-1))))] ks Q) →
    Run G A (.loop laws_szDatumS.l0) [(0, .v (.leaf (KDatum.sl false (done ++ rest)))), (1, .v (.leaf (.int .i64 l))), (5, .v (.leaf (.int .i64 i)))] ks Q := by
  intro rest
  induction rest with
  | nil =>
    intro done l i hi h0 h1 hn hf hq hr
    subst hi
    refine run_loop_at laws_szDatumS.l0.eq_1 ?_
    simpa [KDatum.us] using hq (by simp [KDatum.us]; omega)
  | cons x rest ih =>
    intro done l i hi h0 h1 hn hf hq hr
    subst hi
    simp only [KDatum.us, List.length_cons, Int.natCast_add] at hn hq hr
    refine run_loop_at laws_szDatumS.l0.eq_1 ?_
    simp only [KDatum.fits] at hf
    have e1 := fun l a b => szDatum x l a b hf.1
    by_cases c : ((KDatum.w x : Nat) : Int) ≤ l
    · have ih := ih (done ++ [x]) (l - ↑(KDatum.w x)) (done.length + 1) (by simp) (by omega) (by omega) (by simp; omega) hf.2
      simp (disch := omega) [ip, wr, e1, get_mid, szR_pos, szR_neg]
      refine run_env (ih (fun g => run_env (hq (by omega)) ?_) (fun g => hr (by omega))) ?_
      · simp <;> omega
      · simp
    · have hr := hr (by omega)
      simp (disch := omega) [ip, wr, e1, get_mid, szR_pos, szR_neg]
      first | exact hr | simpa using hr
theorem szDatumS (xs : List KDatum) (left : Int) (h0 : 0 ≤ left) (h1 : left ≤ 1000000000000000) (hn : (xs.length : Int) ≤ 1000000000000000) (hf : KDatum.fits xs) : A 92 [.leaf (KDatum.sl false (xs)), .leaf (.int .i64 left)] = some ([.leaf (.int .i64 (szR ↑(xs.length + KDatum.us xs) left))], [.gone, .gone]) := by
  refine run_laws_szDatumS ?_
  by_cases c : (xs.length : Int) ≤ left
  · simp (disch := omega) [ip, wr, laws_szDatumS.b]
    refine run_env (szDatumS_loop _ _ xs [] (left - xs.length) 0 (by simp) (by omega) (by omega) (by simp; omega) hf (fun g => ?_) (fun g => ?_)) ?_
    · have g2 : ((xs.length + KDatum.us xs : Nat) : Int) ≤ left := by omega
      simp (disch := omega) [ip, wr, laws_szDatumS.b, szR_pos, szR_neg]
      omega
    · have g2 : left < ((xs.length + KDatum.us xs : Nat) : Int) := by omega
      simp (disch := omega) [ip, wr, laws_szDatumS.b, szR_pos, szR_neg]
    · simp
  · have g2 : left < ((xs.length + KDatum.us xs : Nat) : Int) := by omega
    simp (disch := omega) [ip, wr, laws_szDatumS.b, szR_pos, szR_neg]
theorem eqData (x : KData) (h : (KDatum.cnts x.cells : Int) ≤ 1000000000000000 ∧ (x.tops.length : Int) ≤ 1000000000000000) : A 29 [.agg (KData.row false x), .agg (KData.row false x)] = some ([.leaf (.bool true)], [.gone, .gone]) := by
  refine run_laws_eqData ?_
  simp (disch := omega) [ip, wr, laws_eqData.b, eqIntS, eqDatum, eqDatumS]
theorem toData (x : KData) (h : (KData.w x : Int) ≤ 1048576) : A 28 [.agg (KData.row false x)] = some ([.agg (KData.row true x)], [.gone]) := by
  simp only [KData.w] at h
  refine run_laws_toData ?_
  simp (disch := omega) [ip, wr, laws_toData.b, toIntS, toDatum, toDatumS]
theorem szData (x : KData) (left : Int) (h0 : 0 ≤ left) (h1 : left ≤ 1000000000000000) (hf : KData.fit x) : A 27 [.agg (KData.row false x), .leaf (.int .i64 left)] = some ([.leaf (.int .i64 (szR ↑(KData.w x) left))], [.gone, .gone]) := by
  obtain ⟨f1, f2, f3, -⟩ := hf
  have e0 := fun l a b => szDatumS x.cells l a b f1 f2
  have e1 := fun l a b => szIntS x.tops l a b f3
  simp only [KData.w, Int.natCast_add]
  refine run_laws_szData ?_
  by_cases c0 : (((x.cells.length + KDatum.us x.cells) : Nat) : Int) ≤ left
  · by_cases c1 : (((x.cells.length + KDatum.us x.cells) : Nat) : Int) + ((x.tops.length : Nat) : Int) ≤ left
    · simp (disch := omega) [ip, wr, laws_szData.b, e0, e1, szR_pos, szR_neg] <;> omega
    · simp (disch := omega) [ip, wr, laws_szData.b, e0, e1, szR_pos, szR_neg] <;> omega
  · simp (disch := omega) [ip, wr, laws_szData.b, e0, e1, szR_pos, szR_neg] <;> omega
end Go.Proofs.YtjcjodcpiickaaaGreatDoor.DK
