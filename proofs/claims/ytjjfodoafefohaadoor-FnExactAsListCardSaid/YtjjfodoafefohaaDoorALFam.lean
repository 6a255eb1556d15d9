/- The laws' own functions over their structs: comparisons, marks, sizes, copies (printed by fam.py). -/
import Derived.Test.YtjjfodoafefohaaDoorEngM7
import Derived.Test.YtjjfodoafefohaaDoorALFam0
namespace Go.Proofs.YtjjfodoafefohaaDoor.AL
open Go Go.VS
set_option maxRecDepth 10000
set_option linter.unusedSimpArgs false
set_option linter.unusedVariables false

def markInts (k : Int) : List Int → List Int
  | [] => []
  | _ :: xs => k :: markInts (k + 1) xs
noncomputable def markStrs (k : Int) : List ByteArray → List ByteArray
  | [] => []
  | _ :: xs => mtext k :: markStrs (k + 1) xs
def strsU : List ByteArray → Nat
  | [] => 0
  | s :: xs => s.size + strsU xs
def strsFit : List ByteArray → Prop
  | [] => True
  | s :: xs => (s.size : Int) ≤ 1000000000000000 ∧ strsFit xs
theorem strsFit_of : ∀ {xs : List ByteArray}, (∀ s ∈ xs, s.size ≤ 140737488351232) → strsFit xs
  | [], _ => trivial
  | s :: xs, h => ⟨by have := h s (by simp); omega, strsFit_of fun y hy => h y (by simp [hy])⟩
def szR (w left : Int) : Int := if w ≤ left then left - w else -1
theorem szR_pos {w left : Int} (h : w ≤ left) : szR w left = left - w := if_pos h
theorem szR_neg {w left : Int} (h : left < w) : szR w left = -1 := if_neg (by omega)
@[simp] theorem markInts_length : ∀ (xs : List Int) (k : Int), (markInts k xs).length = xs.length
  | [], _ => rfl
  | _ :: xs, k => by simp [markInts, markInts_length xs]
@[simp] theorem markStrs_length : ∀ (xs : List ByteArray) (k : Int), (markStrs k xs).length = xs.length
  | [], _ => rfl
  | _ :: xs, k => by simp [markStrs, markStrs_length xs]
def KValue.cnt (x : KValue) : Nat := 3
def KValue.cnts : List KValue → Nat
  | [] => 0
  | x :: xs => KValue.cnt x + KValue.cnts xs
def KValue.w (x : KValue) : Nat := x.s.size
def KValue.us : List KValue → Nat
  | [] => 0
  | x :: xs => KValue.w x + KValue.us xs
def KValue.fit (x : KValue) : Prop := (x.s.size : Int) ≤ 1000000000000000 ∧ True
def KValue.fits : List KValue → Prop
  | [] => True
  | x :: xs => KValue.fit x ∧ KValue.fits xs
theorem KValue.fits_of : ∀ {xs : List KValue}, (∀ x ∈ xs, KValue.fit x) → KValue.fits xs
  | [], _ => trivial
  | x :: xs, h => ⟨h x (by simp), KValue.fits_of fun y hy => h y (by simp [hy])⟩
theorem KValue.cnts_le : ∀ xs : List KValue, KValue.cnts xs ≤ 3 * (xs.length + KValue.us xs)
  | [] => by simp [KValue.cnts]
  | x :: xs => by
    have := KValue.cnts_le xs
    simp only [KValue.cnts, KValue.cnt, KValue.us, KValue.w, List.length_cons]; omega
noncomputable def KValue.mark (k : Int) (x : KValue) : KValue := { kind := k, n := k + 1, s := mtext (k + 1 + 1) }
noncomputable def KValue.marks (k : Int) : List KValue → List KValue
  | [] => []
  | x :: xs => KValue.mark k x :: KValue.marks (k + KValue.cnt x) xs
noncomputable def KValue.markTop (k : Int) (x : KValue) : KValue := { kind := x.kind, n := x.n, s := x.s }
def KValue.top (x : KValue) : Nat := 0
theorem KValue.len_le : ∀ xs : List KValue, xs.length ≤ KValue.cnts xs
  | [] => Nat.le_refl _
  | x :: xs => by have := KValue.len_le xs; simp only [KValue.cnts, KValue.cnt, List.length_cons]; omega
def KCell.cnt (x : KCell) : Nat := 4 + x.names.length + KValue.cnts x.vals
def KCell.cnts : List KCell → Nat
  | [] => 0
  | x :: xs => KCell.cnt x + KCell.cnts xs
def KCell.w (x : KCell) : Nat := x.s.size + (x.names.length + strsU x.names) + (x.vals.length + KValue.us x.vals)
def KCell.us : List KCell → Nat
  | [] => 0
  | x :: xs => KCell.w x + KCell.us xs
def KCell.fit (x : KCell) : Prop := (x.s.size : Int) ≤ 1000000000000000 ∧ (x.names.length : Int) ≤ 1000000000000000 ∧ strsFit x.names ∧ (x.vals.length : Int) ≤ 1000000000000000 ∧ KValue.fits x.vals ∧ True
def KCell.fits : List KCell → Prop
  | [] => True
  | x :: xs => KCell.fit x ∧ KCell.fits xs
theorem KCell.fits_of : ∀ {xs : List KCell}, (∀ x ∈ xs, KCell.fit x) → KCell.fits xs
  | [], _ => trivial
  | x :: xs, h => ⟨h x (by simp), KCell.fits_of fun y hy => h y (by simp [hy])⟩
theorem KCell.cnts_le : ∀ xs : List KCell, KCell.cnts xs ≤ 4 * (xs.length + KCell.us xs)
  | [] => by simp [KCell.cnts]
  | x :: xs => by
    have := KCell.cnts_le xs
    have := KValue.cnts_le x.vals
    simp only [KCell.cnts, KCell.cnt, KCell.us, KCell.w, List.length_cons]; omega
noncomputable def KCell.mark (k : Int) (x : KCell) : KCell := { kind := k, s := mtext (k + 1), a := k + 1 + 1, b := k + 1 + 1 + 1, names := markStrs (k + 1 + 1 + 1 + 1) x.names, vals := KValue.marks (k + 1 + 1 + 1 + 1 + ↑(x.names.length)) x.vals }
noncomputable def KCell.marks (k : Int) : List KCell → List KCell
  | [] => []
  | x :: xs => KCell.mark k x :: KCell.marks (k + KCell.cnt x) xs
noncomputable def KCell.markTop (k : Int) (x : KCell) : KCell := { kind := x.kind, s := x.s, a := x.a, b := x.b, names := markStrs (k) x.names, vals := KValue.marks (k + ↑(x.names.length)) x.vals }
def KCell.top (x : KCell) : Nat := 0 + x.names.length + KValue.cnts x.vals
theorem KCell.len_le : ∀ xs : List KCell, xs.length ≤ KCell.cnts xs
  | [] => Nat.le_refl _
  | x :: xs => by have := KCell.len_le xs; simp only [KCell.cnts, KCell.cnt, List.length_cons]; omega
theorem eqStringS_loop (ks : List Fr) (Q : VX → Env → Prop) : ∀ (rest done : List ByteArray) (i : Int), i = done.length → (done.length : Int) + (rest.length : Int) ≤ 1000000000000000 →
    Run G A (.exit 0) [(0, .v (.leaf (Kstrs false (done ++ rest)))), (1, .v (.leaf (Kstrs false (done ++ rest)))), (5, .v (.leaf (.int .i64 (done.length + rest.length)))), (14, .v (.leaf (.bool false)))] ks Q →
    Run G A (.loop laws_eqStringS.l0) [(0, .v (.leaf (Kstrs false (done ++ rest)))), (1, .v (.leaf (Kstrs false (done ++ rest)))), (5, .v (.leaf (.int .i64 i)))] ks Q := by
  intro rest
  induction rest with
  | nil =>
    intro done i hi h1 hq
    subst hi
    refine run_loop_at laws_eqStringS.l0.eq_1 ?_
    simpa using hq
  | cons x rest ih =>
    intro done i hi h1 hq
    subst hi
    simp only [List.length_cons] at h1
    have ih := ih (done ++ [x]) (done.length + 1) (by simp) (by simp; omega)
    refine run_loop_at laws_eqStringS.l0.eq_1 ?_
    simp (disch := omega) [if_pos, if_neg, wrap_i64, get_mid]
    refine run_env (ih (run_env hq ?_)) ?_
    · simp <;> omega
    · simp
theorem eqStringS (xs : List ByteArray) (h : (xs.length : Int) ≤ 1000000000000000) : A 46 [.leaf (Kstrs false (xs)), .leaf (Kstrs false (xs))] = some ([.leaf (.bool true)], [.gone, .gone]) := by
  refine run_laws_eqStringS ?_
  simp [laws_eqStringS.b]
  refine eqStringS_loop _ _ xs [] 0 (by simp) (by simp; omega) ?_
  simp
theorem markStringS_loop (ks : List Fr) (Q : VX → Env → Prop) : ∀ (rest done : List ByteArray) (k i : Int), i = done.length → 0 ≤ k → k + (rest.length : Int) ≤ 1000000000000000 → (done.length : Int) + (rest.length : Int) ≤ 1000000000000000 →
    Run G A (.exit 0) [(0, .v (.leaf (Kstrs true (done ++ markStrs k rest)))), (1, .v (.leaf (.int .i64 (k + (rest.length : Int))))), (5, .v (.leaf (.int .i64 (done.length + rest.length)))), (9, .v (.leaf (.bool false)))] ks Q →
    Run G A (.loop laws_markStringS.l0) [(0, .v (.leaf (Kstrs true (done ++ rest)))), (1, .v (.leaf (.int .i64 k))), (5, .v (.leaf (.int .i64 i)))] ks Q := by
  intro rest
  induction rest with
  | nil =>
    intro done k i hi h0 h1 h2 hq
    subst hi
    refine run_loop_at laws_markStringS.l0.eq_1 ?_
    simpa [markStrs] using hq
  | cons x rest ih =>
    intro done k i hi h0 h1 h2 hq
    subst hi
    simp only [List.length_cons] at h1 h2
    have ih := ih (done ++ [mtext k]) (k + 1) (done.length + 1) (by simp) (by omega) (by omega) (by simp; omega)
    refine run_loop_at laws_markStringS.l0.eq_1 ?_
    simp (disch := omega) [if_pos, if_neg, wrap_i64, markText]
    refine run_env (ih (run_env hq ?_)) ?_
    · simp [markStrs] <;> omega
    · simp [Nat.add_comm] <;> omega
theorem markStringS (xs : List ByteArray) (k : Int) (h0 : 0 ≤ k) (h1 : k + (xs.length : Int) ≤ 1000000000000000) : A 29 [.leaf (Kstrs true (xs)), .leaf (.int .i64 k)] = some ([.leaf (.int .i64 (k + (xs.length : Int)))], [.leaf (Kstrs true (markStrs k xs)), .gone]) := by
  refine run_laws_markStringS ?_
  simp [laws_markStringS.b]
  refine markStringS_loop _ _ xs [] k 0 (by simp) h0 h1 (by simp; omega) ?_
  simp
theorem toStringS_loop (ks : List Fr) (Q : VX → Env → Prop) : ∀ (rest done : List ByteArray) (i : Int), i = done.length → (done.length : Int) + rest.length ≤ 1048576 → (strsU rest : Int) ≤ 1048576 →
    Run G A (.exit 0) [(0, .v (.leaf (Kstrs false (done ++ rest)))), (3, .v (.leaf (Kstrs true (done ++ rest)))), (4, .v (.leaf (.int .i64 (done.length + rest.length)))), (11, .v (.leaf (.bool false)))] ks Q →
    Run G A (.loop laws_toStringS.l0) [(0, .v (.leaf (Kstrs false (done ++ rest)))), (3, .v (.leaf (.sl true 1 (done.map (fun s : ByteArray => [L.str s]) ++ List.replicate rest.length [.str ⟨#[]⟩])))), (4, .v (.leaf (.int .i64 i)))] ks Q := by
  intro rest
  induction rest with
  | nil =>
    intro done i hi h1 hu hq
    subst hi
    refine run_loop_at laws_toStringS.l0.eq_1 ?_
    simpa using hq
  | cons x rest ih =>
    intro done i hi h1 hu hq
    subst hi
    simp only [strsU, List.length_cons] at h1 hu
    have ih := ih (done ++ [x]) (done.length + 1) (by simp) (by simp; omega) (by omega)
    refine run_loop_at laws_toStringS.l0.eq_1 ?_
    simp (disch := omega) [if_pos, if_neg, wrap_i64, get_mid, List.replicate_succ]
    refine run_env (ih (run_env hq ?_)) ?_
    · simp <;> omega
    · simp
theorem toStringS (xs : List ByteArray) (h : ((xs.length + strsU xs) : Int) ≤ 1048576) : A 38 [.leaf (Kstrs false (xs))] = some ([.leaf (Kstrs true (xs))], [.gone]) := by
  refine run_laws_toStringS ?_
  simp (disch := omega) [if_pos, if_neg, wrap_i64, laws_toStringS.b]
  refine run_env (toStringS_loop _ _ xs [] 0 (by simp) (by simp; omega) (by omega) ?_) ?_
  · simp
  · simp
theorem szStringS_loop (ks : List Fr) (Q : VX → Env → Prop) : ∀ (rest done : List ByteArray) (l i : Int), i = done.length → 0 ≤ l → l ≤ 1000000000000000 → (done.length : Int) + rest.length ≤ 1000000000000000 → strsFit rest →
    ((strsU rest : Int) ≤ l → Run G A (.exit 0) [(0, .v (.leaf (Kstrs false (done ++ rest)))), (1, .v (.leaf (.int .i64 (l - strsU rest)))), (5, .v (.leaf (.int .i64 (done.length + rest.length)))), (15, .v (.leaf (.bool false)))] ks Q) →
    (l < strsU rest → Run G A .ret [(4, .v (.leaf (.int .i64 (-1))))] ks Q) →
    Run G A (.loop laws_szStringS.l0) [(0, .v (.leaf (Kstrs false (done ++ rest)))), (1, .v (.leaf (.int .i64 l))), (5, .v (.leaf (.int .i64 i)))] ks Q := by
  intro rest
  induction rest with
  | nil =>
    intro done l i hi h0 h1 hn hf hq hr
    subst hi
    refine run_loop_at laws_szStringS.l0.eq_1 ?_
    simpa [strsU] using hq (by simp [strsU]; omega)
  | cons x rest ih =>
    intro done l i hi h0 h1 hn hf hq hr
    subst hi
    simp only [strsU, List.length_cons, Int.natCast_add] at hn hq hr
    refine run_loop_at laws_szStringS.l0.eq_1 ?_
    simp only [strsFit] at hf
    have hf1 := hf.1
    by_cases c : ((x.size : Nat) : Int) ≤ l
    · have ih := ih (done ++ [x]) (l - ↑(x.size)) (done.length + 1) (by simp) (by omega) (by omega) (by simp; omega) hf.2
      simp (disch := omega) [if_pos, if_neg, wrap_i64, get_mid, szR_pos, szR_neg]
      refine run_env (ih (fun g => run_env (hq (by omega)) ?_) (fun g => hr (by omega))) ?_
      · simp <;> omega
      · simp
    · have hr := hr (by omega)
      simp (disch := omega) [if_pos, if_neg, wrap_i64, get_mid, szR_pos, szR_neg]
      first | exact hr | simpa using hr
theorem szStringS (xs : List ByteArray) (left : Int) (h0 : 0 ≤ left) (h1 : left ≤ 1000000000000000) (hn : (xs.length : Int) ≤ 1000000000000000) (hf : strsFit xs) : A 32 [.leaf (Kstrs false (xs)), .leaf (.int .i64 left)] = some ([.leaf (.int .i64 (szR ↑(xs.length + strsU xs) left))], [.gone, .gone]) := by
  refine run_laws_szStringS ?_
  by_cases c : (xs.length : Int) ≤ left
  · simp (disch := omega) [if_pos, if_neg, wrap_i64, laws_szStringS.b]
    refine run_env (szStringS_loop _ _ xs [] (left - xs.length) 0 (by simp) (by omega) (by omega) (by simp; omega) hf (fun g => ?_) (fun g => ?_)) ?_
    · have g2 : ((xs.length + strsU xs : Nat) : Int) ≤ left := by omega
      simp (disch := omega) [if_pos, if_neg, wrap_i64, laws_szStringS.b, szR_pos, szR_neg]
      omega
    · have g2 : left < ((xs.length + strsU xs : Nat) : Int) := by omega
      simp (disch := omega) [if_pos, if_neg, wrap_i64, laws_szStringS.b, szR_pos, szR_neg]
    · simp
  · have g2 : left < ((xs.length + strsU xs : Nat) : Int) := by omega
    simp (disch := omega) [if_pos, if_neg, wrap_i64, laws_szStringS.b, szR_pos, szR_neg]
theorem eqValue (x : KValue) : A 26 [.agg (KValue.row false x), .agg (KValue.row false x)] = some ([.leaf (.bool true)], [.gone, .gone]) := by
  refine run_laws_eqValue ?_
  simp (disch := omega) [if_pos, if_neg, wrap_i64, laws_eqValue.b, eqStringS]
theorem toValue (x : KValue) (h : (KValue.w x : Int) ≤ 1048576) : A 9 [.agg (KValue.row false x)] = some ([.agg (KValue.row true x)], [.gone]) := by
  simp only [KValue.w] at h
  refine run_laws_toValue ?_
  simp (disch := omega) [if_pos, if_neg, wrap_i64, laws_toValue.b, toStringS]
theorem szValue (x : KValue) (left : Int) (h0 : 0 ≤ left) (h1 : left ≤ 1000000000000000) (hf : KValue.fit x) : A 6 [.agg (KValue.row false x), .leaf (.int .i64 left)] = some ([.leaf (.int .i64 (szR ↑(KValue.w x) left))], [.gone, .gone]) := by
  obtain ⟨f1, -⟩ := hf
  simp only [KValue.w, Int.natCast_add]
  refine run_laws_szValue ?_
  by_cases c0 : ((x.s.size : Nat) : Int) ≤ left
  · simp (disch := omega) [if_pos, if_neg, wrap_i64, laws_szValue.b, szR_pos, szR_neg] <;> omega
  · simp (disch := omega) [if_pos, if_neg, wrap_i64, laws_szValue.b, szR_pos, szR_neg] <;> omega
theorem eqValueS_loop (ks : List Fr) (Q : VX → Env → Prop) : ∀ (rest done : List KValue) (i : Int), i = done.length → (done.length : Int) + (KValue.cnts rest : Int) ≤ 1000000000000000 →
    Run G A (.exit 0) [(0, .v (.leaf (KValue.sl false (done ++ rest)))), (1, .v (.leaf (KValue.sl false (done ++ rest)))), (5, .v (.leaf (.int .i64 (done.length + rest.length)))), (14, .v (.leaf (.bool false)))] ks Q →
    Run G A (.loop laws_eqValueS.l0) [(0, .v (.leaf (KValue.sl false (done ++ rest)))), (1, .v (.leaf (KValue.sl false (done ++ rest)))), (5, .v (.leaf (.int .i64 i)))] ks Q := by
  intro rest
  induction rest with
  | nil =>
    intro done i hi h1 hq
    subst hi
    refine run_loop_at laws_eqValueS.l0.eq_1 ?_
    simpa using hq
  | cons x rest ih =>
    intro done i hi h1 hq
    subst hi
    simp only [KValue.cnts, KValue.cnt, List.length_cons] at h1
    have := KValue.len_le rest
    have ih := ih (done ++ [x]) (done.length + 1) (by simp) (by simp; omega)
    refine run_loop_at laws_eqValueS.l0.eq_1 ?_
    simp (disch := omega) [if_pos, if_neg, wrap_i64, eqStringS, eqValue, get_mid]
    refine run_env (ih (run_env hq ?_)) ?_
    · simp <;> omega
    · simp
theorem eqValueS (xs : List KValue) (h : (KValue.cnts xs : Int) ≤ 1000000000000000) : A 11 [.leaf (KValue.sl false (xs)), .leaf (KValue.sl false (xs))] = some ([.leaf (.bool true)], [.gone, .gone]) := by
  refine run_laws_eqValueS ?_
  have := KValue.len_le xs
  simp [laws_eqValueS.b]
  refine eqValueS_loop _ _ xs [] 0 (by simp) (by simp; omega) ?_
  simp
theorem markValueS_loop (ks : List Fr) (Q : VX → Env → Prop) : ∀ (rest done : List KValue) (k i : Int), i = done.length → 0 ≤ k → k + (KValue.cnts rest : Int) ≤ 1000000000000000 → (done.length : Int) + (KValue.cnts rest : Int) ≤ 1000000000000000 →
    Run G A (.exit 0) [(0, .v (.leaf (KValue.sl true (done ++ KValue.marks k rest)))), (1, .v (.leaf (.int .i64 (k + (KValue.cnts rest : Int))))), (5, .v (.leaf (.int .i64 (done.length + rest.length)))), (9, .v (.leaf (.bool false)))] ks Q →
    Run G A (.loop laws_markValueS.l0) [(0, .v (.leaf (KValue.sl true (done ++ rest)))), (1, .v (.leaf (.int .i64 k))), (5, .v (.leaf (.int .i64 i)))] ks Q := by
  intro rest
  induction rest with
  | nil =>
    intro done k i hi h0 h1 h2 hq
    subst hi
    refine run_loop_at laws_markValueS.l0.eq_1 ?_
    simpa [KValue.marks, KValue.cnts, KValue.cnt] using hq
  | cons x rest ih =>
    intro done k i hi h0 h1 h2 hq
    subst hi
    simp only [KValue.cnts, KValue.cnt, List.length_cons] at h1 h2
    have := KValue.len_le rest
    have ih := ih (done ++ [KValue.mark k x]) (k + (KValue.cnt x : Int)) (done.length + 1) (by simp) (by simp only [KValue.cnt]; omega) (by simp only [KValue.cnt]; omega) (by simp [KValue.cnt]; omega)
    refine run_loop_at laws_markValueS.l0.eq_1 ?_
    simp (disch := omega) [if_pos, if_neg, wrap_i64, markText, markStringS]
    refine run_env (ih (run_env hq ?_)) ?_
    · simp [KValue.marks, KValue.cnts, KValue.cnt] <;> omega
    · simp [KValue.mark, KValue.cnts, KValue.cnt] <;> omega
theorem markValueS (xs : List KValue) (k : Int) (h0 : 0 ≤ k) (h1 : k + (KValue.cnts xs : Int) ≤ 1000000000000000) : A 14 [.leaf (KValue.sl true (xs)), .leaf (.int .i64 k)] = some ([.leaf (.int .i64 (k + (KValue.cnts xs : Int)))], [.leaf (KValue.sl true (KValue.marks k xs)), .gone]) := by
  refine run_laws_markValueS ?_
  simp [laws_markValueS.b]
  refine markValueS_loop _ _ xs [] k 0 (by simp) h0 h1 (by simp; omega) ?_
  simp
theorem heldValueS_loop (ks : List Fr) (Q : VX → Env → Prop) : ∀ (rest done : List KValue) (k i : Int), i = done.length → 0 ≤ k → k + (KValue.cnts rest : Int) ≤ 1000000000000000 → (done.length : Int) + (KValue.cnts rest : Int) ≤ 1000000000000000 →
    Run G A (.exit 0) [(0, .v (.leaf (KValue.sl false (done ++ KValue.marks k rest)))), (1, .v (.leaf (.int .i64 (k + (KValue.cnts rest : Int))))), (5, .v (.leaf (.int .i64 (done.length + rest.length)))), (9, .v (.leaf (.bool false)))] ks Q →
    Run G A (.loop laws_heldValueS.l0) [(0, .v (.leaf (KValue.sl false (done ++ KValue.marks k rest)))), (1, .v (.leaf (.int .i64 k))), (5, .v (.leaf (.int .i64 i)))] ks Q := by
  intro rest
  induction rest with
  | nil =>
    intro done k i hi h0 h1 h2 hq
    subst hi
    refine run_loop_at laws_heldValueS.l0.eq_1 ?_
    simp [KValue.marks, KValue.cnts, KValue.cnt] at hq ⊢
    exact hq
  | cons x rest ih =>
    intro done k i hi h0 h1 h2 hq
    subst hi
    simp only [KValue.cnts, KValue.cnt, List.length_cons] at h1 h2
    have := KValue.len_le rest
    have ih := ih (done ++ [KValue.mark k x]) (k + (KValue.cnt x : Int)) (done.length + 1) (by simp) (by simp only [KValue.cnt]; omega) (by simp only [KValue.cnt]; omega) (by simp [KValue.cnt]; omega)
    refine run_loop_at laws_heldValueS.l0.eq_1 ?_
    simp only [KValue.marks]
    simp (disch := omega) [if_pos, if_neg, wrap_i64, markText, KValue.mark]
    refine run_env (ih (run_env hq ?_)) ?_
    · simp [KValue.marks, KValue.cnts, KValue.cnt] <;> omega
    · simp [KValue.mark, KValue.cnts, KValue.cnt] <;> omega
theorem heldValueS (xs : List KValue) (k : Int) (h0 : 0 ≤ k) (h1 : k + (KValue.cnts xs : Int) ≤ 1000000000000000) : A 15 [.leaf (KValue.sl false (KValue.marks k xs)), .leaf (.int .i64 k)] = some ([.leaf (.int .i64 (k + (KValue.cnts xs : Int)))], [.gone, .gone]) := by
  refine run_laws_heldValueS ?_
  simp [laws_heldValueS.b]
  refine heldValueS_loop _ _ xs [] k 0 (by simp) h0 h1 (by simp; omega) ?_
  simp
theorem toValueS_loop (ks : List Fr) (Q : VX → Env → Prop) : ∀ (rest done : List KValue) (i : Int), i = done.length → (done.length : Int) + rest.length ≤ 1048576 → (KValue.us rest : Int) ≤ 1048576 →
    Run G A (.exit 0) [(0, .v (.leaf (KValue.sl false (done ++ rest)))), (3, .v (.leaf (KValue.sl true (done ++ rest)))), (4, .v (.leaf (.int .i64 (done.length + rest.length)))), (11, .v (.leaf (.bool false)))] ks Q →
    Run G A (.loop laws_toValueS.l0) [(0, .v (.leaf (KValue.sl false (done ++ rest)))), (3, .v (.leaf (.sl true 3 (done.map (KValue.row true) ++ List.replicate rest.length [.int .i64 0, .int .i64 0, .str ⟨#[]⟩])))), (4, .v (.leaf (.int .i64 i)))] ks Q := by
  intro rest
  induction rest with
  | nil =>
    intro done i hi h1 hu hq
    subst hi
    refine run_loop_at laws_toValueS.l0.eq_1 ?_
    simpa using hq
  | cons x rest ih =>
    intro done i hi h1 hu hq
    subst hi
    simp only [KValue.us, List.length_cons] at h1 hu
    have ih := ih (done ++ [x]) (done.length + 1) (by simp) (by simp; omega) (by omega)
    refine run_loop_at laws_toValueS.l0.eq_1 ?_
    simp (disch := omega) [if_pos, if_neg, wrap_i64, toStringS, toValue, get_mid, List.replicate_succ]
    refine run_env (ih (run_env hq ?_)) ?_
    · simp <;> omega
    · simp
theorem toValueS (xs : List KValue) (h : ((xs.length + KValue.us xs) : Int) ≤ 1048576) : A 39 [.leaf (KValue.sl false (xs))] = some ([.leaf (KValue.sl true (xs))], [.gone]) := by
  refine run_laws_toValueS ?_
  simp (disch := omega) [if_pos, if_neg, wrap_i64, laws_toValueS.b]
  refine run_env (toValueS_loop _ _ xs [] 0 (by simp) (by simp; omega) (by omega) ?_) ?_
  · simp
  · simp
theorem szValueS_loop (ks : List Fr) (Q : VX → Env → Prop) : ∀ (rest done : List KValue) (l i : Int), i = done.length → 0 ≤ l → l ≤ 1000000000000000 → (done.length : Int) + rest.length ≤ 1000000000000000 → KValue.fits rest →
    ((KValue.us rest : Int) ≤ l → Run G A (.exit 0) [(0, .v (.leaf (KValue.sl false (done ++ rest)))), (1, .v (.leaf (.int .i64 (l - KValue.us rest)))), (5, .v (.leaf (.int .i64 (done.length + rest.length)))), (15, .v (.leaf (.bool false)))] ks Q) →
    (l < KValue.us rest → Run G A .ret [(4, .v (.leaf (.int .i64 (-1))))] ks Q) →
    Run G A (.loop laws_szValueS.l0) [(0, .v (.leaf (KValue.sl false (done ++ rest)))), (1, .v (.leaf (.int .i64 l))), (5, .v (.leaf (.int .i64 i)))] ks Q := by
  intro rest
  induction rest with
  | nil =>
    intro done l i hi h0 h1 hn hf hq hr
    subst hi
    refine run_loop_at laws_szValueS.l0.eq_1 ?_
    simpa [KValue.us] using hq (by simp [KValue.us]; omega)
  | cons x rest ih =>
    intro done l i hi h0 h1 hn hf hq hr
    subst hi
    simp only [KValue.us, List.length_cons, Int.natCast_add] at hn hq hr
    refine run_loop_at laws_szValueS.l0.eq_1 ?_
    simp only [KValue.fits] at hf
    have e1 := fun l a b => szValue x l a b hf.1
    by_cases c : ((KValue.w x : Nat) : Int) ≤ l
    · have ih := ih (done ++ [x]) (l - ↑(KValue.w x)) (done.length + 1) (by simp) (by omega) (by omega) (by simp; omega) hf.2
      simp (disch := omega) [if_pos, if_neg, wrap_i64, e1, get_mid, szR_pos, szR_neg]
      refine run_env (ih (fun g => run_env (hq (by omega)) ?_) (fun g => hr (by omega))) ?_
      · simp <;> omega
      · simp
    · have hr := hr (by omega)
      simp (disch := omega) [if_pos, if_neg, wrap_i64, e1, get_mid, szR_pos, szR_neg]
      first | exact hr | simpa using hr
theorem szValueS (xs : List KValue) (left : Int) (h0 : 0 ≤ left) (h1 : left ≤ 1000000000000000) (hn : (xs.length : Int) ≤ 1000000000000000) (hf : KValue.fits xs) : A 33 [.leaf (KValue.sl false (xs)), .leaf (.int .i64 left)] = some ([.leaf (.int .i64 (szR ↑(xs.length + KValue.us xs) left))], [.gone, .gone]) := by
  refine run_laws_szValueS ?_
  by_cases c : (xs.length : Int) ≤ left
  · simp (disch := omega) [if_pos, if_neg, wrap_i64, laws_szValueS.b]
    refine run_env (szValueS_loop _ _ xs [] (left - xs.length) 0 (by simp) (by omega) (by omega) (by simp; omega) hf (fun g => ?_) (fun g => ?_)) ?_
    · have g2 : ((xs.length + KValue.us xs : Nat) : Int) ≤ left := by omega
      simp (disch := omega) [if_pos, if_neg, wrap_i64, laws_szValueS.b, szR_pos, szR_neg]
      omega
    · have g2 : left < ((xs.length + KValue.us xs : Nat) : Int) := by omega
      simp (disch := omega) [if_pos, if_neg, wrap_i64, laws_szValueS.b, szR_pos, szR_neg]
    · simp
  · have g2 : left < ((xs.length + KValue.us xs : Nat) : Int) := by omega
    simp (disch := omega) [if_pos, if_neg, wrap_i64, laws_szValueS.b, szR_pos, szR_neg]
theorem eqCell (x : KCell) (h : (x.names.length : Int) ≤ 1000000000000000 ∧ (KValue.cnts x.vals : Int) ≤ 1000000000000000) : A 27 [.agg (KCell.row false x), .agg (KCell.row false x)] = some ([.leaf (.bool true)], [.gone, .gone]) := by
  refine run_laws_eqCell ?_
  simp (disch := omega) [if_pos, if_neg, wrap_i64, laws_eqCell.b, eqStringS, eqValue, eqValueS]
theorem toCell (x : KCell) (h : (KCell.w x : Int) ≤ 1048576) : A 22 [.agg (KCell.row false x)] = some ([.agg (KCell.row true x)], [.gone]) := by
  simp only [KCell.w] at h
  refine run_laws_toCell ?_
  simp (disch := omega) [if_pos, if_neg, wrap_i64, laws_toCell.b, toStringS, toValue, toValueS]
theorem szCell (x : KCell) (left : Int) (h0 : 0 ≤ left) (h1 : left ≤ 1000000000000000) (hf : KCell.fit x) : A 18 [.agg (KCell.row false x), .leaf (.int .i64 left)] = some ([.leaf (.int .i64 (szR ↑(KCell.w x) left))], [.gone, .gone]) := by
  obtain ⟨f1, f2, f3, f4, f5, -⟩ := hf
  have e0 := fun l a b => szStringS x.names l a b f2 f3
  have e1 := fun l a b => szValueS x.vals l a b f4 f5
  simp only [KCell.w, Int.natCast_add]
  refine run_laws_szCell ?_
  by_cases c0 : ((x.s.size : Nat) : Int) ≤ left
  · by_cases c1 : ((x.s.size : Nat) : Int) + (((x.names.length + strsU x.names) : Nat) : Int) ≤ left
    · by_cases c2 : ((x.s.size : Nat) : Int) + (((x.names.length + strsU x.names) : Nat) : Int) + (((x.vals.length + KValue.us x.vals) : Nat) : Int) ≤ left
      · simp (disch := omega) [if_pos, if_neg, wrap_i64, laws_szCell.b, e0, e1, szR_pos, szR_neg] <;> omega
      · simp (disch := omega) [if_pos, if_neg, wrap_i64, laws_szCell.b, e0, e1, szR_pos, szR_neg] <;> omega
    · simp (disch := omega) [if_pos, if_neg, wrap_i64, laws_szCell.b, e0, e1, szR_pos, szR_neg] <;> omega
  · simp (disch := omega) [if_pos, if_neg, wrap_i64, laws_szCell.b, e0, e1, szR_pos, szR_neg] <;> omega
theorem eqCellS_loop (ks : List Fr) (Q : VX → Env → Prop) : ∀ (rest done : List KCell) (i : Int), i = done.length → (done.length : Int) + (KCell.cnts rest : Int) ≤ 1000000000000000 →
    Run G A (.exit 0) [(0, .v (.leaf (KCell.sl false (done ++ rest)))), (1, .v (.leaf (KCell.sl false (done ++ rest)))), (5, .v (.leaf (.int .i64 (done.length + rest.length)))), (14, .v (.leaf (.bool false)))] ks Q →
    Run G A (.loop laws_eqCellS.l0) [(0, .v (.leaf (KCell.sl false (done ++ rest)))), (1, .v (.leaf (KCell.sl false (done ++ rest)))), (5, .v (.leaf (.int .i64 i)))] ks Q := by
  intro rest
  induction rest with
  | nil =>
    intro done i hi h1 hq
    subst hi
    refine run_loop_at laws_eqCellS.l0.eq_1 ?_
    simpa using hq
  | cons x rest ih =>
    intro done i hi h1 hq
    subst hi
    simp only [KCell.cnts, KCell.cnt, List.length_cons] at h1
    have := KCell.len_le rest
    have ih := ih (done ++ [x]) (done.length + 1) (by simp) (by simp; omega)
    refine run_loop_at laws_eqCellS.l0.eq_1 ?_
    simp (disch := omega) [if_pos, if_neg, wrap_i64, eqStringS, eqValue, eqValueS, eqCell, get_mid]
    refine run_env (ih (run_env hq ?_)) ?_
    · simp <;> omega
    · simp
theorem eqCellS (xs : List KCell) (h : (KCell.cnts xs : Int) ≤ 1000000000000000) : A 12 [.leaf (KCell.sl false (xs)), .leaf (KCell.sl false (xs))] = some ([.leaf (.bool true)], [.gone, .gone]) := by
  refine run_laws_eqCellS ?_
  have := KCell.len_le xs
  simp [laws_eqCellS.b]
  refine eqCellS_loop _ _ xs [] 0 (by simp) (by simp; omega) ?_
  simp
theorem markCellS_loop (ks : List Fr) (Q : VX → Env → Prop) : ∀ (rest done : List KCell) (k i : Int), i = done.length → 0 ≤ k → k + (KCell.cnts rest : Int) ≤ 1000000000000000 → (done.length : Int) + (KCell.cnts rest : Int) ≤ 1000000000000000 →
    Run G A (.exit 0) [(0, .v (.leaf (KCell.sl true (done ++ KCell.marks k rest)))), (1, .v (.leaf (.int .i64 (k + (KCell.cnts rest : Int))))), (5, .v (.leaf (.int .i64 (done.length + rest.length)))), (9, .v (.leaf (.bool false)))] ks Q →
    Run G A (.loop laws_markCellS.l0) [(0, .v (.leaf (KCell.sl true (done ++ rest)))), (1, .v (.leaf (.int .i64 k))), (5, .v (.leaf (.int .i64 i)))] ks Q := by
  intro rest
  induction rest with
  | nil =>
    intro done k i hi h0 h1 h2 hq
    subst hi
    refine run_loop_at laws_markCellS.l0.eq_1 ?_
    simpa [KCell.marks, KCell.cnts, KCell.cnt] using hq
  | cons x rest ih =>
    intro done k i hi h0 h1 h2 hq
    subst hi
    simp only [KCell.cnts, KCell.cnt, List.length_cons] at h1 h2
    have := KCell.len_le rest
    have ih := ih (done ++ [KCell.mark k x]) (k + (KCell.cnt x : Int)) (done.length + 1) (by simp) (by simp only [KCell.cnt]; omega) (by simp only [KCell.cnt]; omega) (by simp [KCell.cnt]; omega)
    refine run_loop_at laws_markCellS.l0.eq_1 ?_
    simp (disch := omega) [if_pos, if_neg, wrap_i64, markText, markStringS, markValueS]
    refine run_env (ih (run_env hq ?_)) ?_
    · simp [KCell.marks, KCell.cnts, KCell.cnt] <;> omega
    · simp [KCell.mark, KCell.cnts, KCell.cnt] <;> omega
theorem markCellS (xs : List KCell) (k : Int) (h0 : 0 ≤ k) (h1 : k + (KCell.cnts xs : Int) ≤ 1000000000000000) : A 13 [.leaf (KCell.sl true (xs)), .leaf (.int .i64 k)] = some ([.leaf (.int .i64 (k + (KCell.cnts xs : Int)))], [.leaf (KCell.sl true (KCell.marks k xs)), .gone]) := by
  refine run_laws_markCellS ?_
  simp [laws_markCellS.b]
  refine markCellS_loop _ _ xs [] k 0 (by simp) h0 h1 (by simp; omega) ?_
  simp
theorem toCellS_loop (ks : List Fr) (Q : VX → Env → Prop) : ∀ (rest done : List KCell) (i : Int), i = done.length → (done.length : Int) + rest.length ≤ 1048576 → (KCell.us rest : Int) ≤ 1048576 →
    Run G A (.exit 0) [(0, .v (.leaf (KCell.sl false (done ++ rest)))), (3, .v (.leaf (KCell.sl true (done ++ rest)))), (4, .v (.leaf (.int .i64 (done.length + rest.length)))), (11, .v (.leaf (.bool false)))] ks Q →
    Run G A (.loop laws_toCellS.l0) [(0, .v (.leaf (KCell.sl false (done ++ rest)))), (3, .v (.leaf (.sl true 6 (done.map (KCell.row true) ++ List.replicate rest.length [.int .i64 0, .str ⟨#[]⟩, .int .i64 0, .int .i64 0, .sl true 1 [], .sl true 3 []])))), (4, .v (.leaf (.int .i64 i)))] ks Q := by
  intro rest
  induction rest with
  | nil =>
    intro done i hi h1 hu hq
    subst hi
    refine run_loop_at laws_toCellS.l0.eq_1 ?_
    simpa using hq
  | cons x rest ih =>
    intro done i hi h1 hu hq
    subst hi
    simp only [KCell.us, List.length_cons] at h1 hu
    have ih := ih (done ++ [x]) (done.length + 1) (by simp) (by simp; omega) (by omega)
    refine run_loop_at laws_toCellS.l0.eq_1 ?_
    simp (disch := omega) [if_pos, if_neg, wrap_i64, toStringS, toValue, toValueS, toCell, get_mid, List.replicate_succ]
    refine run_env (ih (run_env hq ?_)) ?_
    · simp <;> omega
    · simp
theorem toCellS (xs : List KCell) (h : ((xs.length + KCell.us xs) : Int) ≤ 1048576) : A 8 [.leaf (KCell.sl false (xs))] = some ([.leaf (KCell.sl true (xs))], [.gone]) := by
  refine run_laws_toCellS ?_
  simp (disch := omega) [if_pos, if_neg, wrap_i64, laws_toCellS.b]
  refine run_env (toCellS_loop _ _ xs [] 0 (by simp) (by simp; omega) (by omega) ?_) ?_
  · simp
  · simp
theorem szCellS_loop (ks : List Fr) (Q : VX → Env → Prop) : ∀ (rest done : List KCell) (l i : Int), i = done.length → 0 ≤ l → l ≤ 1000000000000000 → (done.length : Int) + rest.length ≤ 1000000000000000 → KCell.fits rest →
    ((KCell.us rest : Int) ≤ l → Run G A (.exit 0) [(0, .v (.leaf (KCell.sl false (done ++ rest)))), (1, .v (.leaf (.int .i64 (l - KCell.us rest)))), (5, .v (.leaf (.int .i64 (done.length + rest.length)))), (15, .v (.leaf (.bool false)))] ks Q) →
    (l < KCell.us rest → Run G A .ret [(4, .v (.leaf (.int .i64 (-1))))] ks Q) →
    Run G A (.loop laws_szCellS.l0) [(0, .v (.leaf (KCell.sl false (done ++ rest)))), (1, .v (.leaf (.int .i64 l))), (5, .v (.leaf (.int .i64 i)))] ks Q := by
  intro rest
  induction rest with
  | nil =>
    intro done l i hi h0 h1 hn hf hq hr
    subst hi
    refine run_loop_at laws_szCellS.l0.eq_1 ?_
    simpa [KCell.us] using hq (by simp [KCell.us]; omega)
  | cons x rest ih =>
    intro done l i hi h0 h1 hn hf hq hr
    subst hi
    simp only [KCell.us, List.length_cons, Int.natCast_add] at hn hq hr
    refine run_loop_at laws_szCellS.l0.eq_1 ?_
    simp only [KCell.fits] at hf
    have e1 := fun l a b => szCell x l a b hf.1
    by_cases c : ((KCell.w x : Nat) : Int) ≤ l
    · have ih := ih (done ++ [x]) (l - ↑(KCell.w x)) (done.length + 1) (by simp) (by omega) (by omega) (by simp; omega) hf.2
      simp (disch := omega) [if_pos, if_neg, wrap_i64, e1, get_mid, szR_pos, szR_neg]
      refine run_env (ih (fun g => run_env (hq (by omega)) ?_) (fun g => hr (by omega))) ?_
      · simp <;> omega
      · simp
    · have hr := hr (by omega)
      simp (disch := omega) [if_pos, if_neg, wrap_i64, e1, get_mid, szR_pos, szR_neg]
      first | exact hr | simpa using hr
theorem szCellS (xs : List KCell) (left : Int) (h0 : 0 ≤ left) (h1 : left ≤ 1000000000000000) (hn : (xs.length : Int) ≤ 1000000000000000) (hf : KCell.fits xs) : A 5 [.leaf (KCell.sl false (xs)), .leaf (.int .i64 left)] = some ([.leaf (.int .i64 (szR ↑(xs.length + KCell.us xs) left))], [.gone, .gone]) := by
  refine run_laws_szCellS ?_
  by_cases c : (xs.length : Int) ≤ left
  · simp (disch := omega) [if_pos, if_neg, wrap_i64, laws_szCellS.b]
    refine run_env (szCellS_loop _ _ xs [] (left - xs.length) 0 (by simp) (by omega) (by omega) (by simp; omega) hf (fun g => ?_) (fun g => ?_)) ?_
    · have g2 : ((xs.length + KCell.us xs : Nat) : Int) ≤ left := by omega
      simp (disch := omega) [if_pos, if_neg, wrap_i64, laws_szCellS.b, szR_pos, szR_neg]
      omega
    · have g2 : left < ((xs.length + KCell.us xs : Nat) : Int) := by omega
      simp (disch := omega) [if_pos, if_neg, wrap_i64, laws_szCellS.b, szR_pos, szR_neg]
    · simp
  · have g2 : left < ((xs.length + KCell.us xs : Nat) : Int) := by omega
    simp (disch := omega) [if_pos, if_neg, wrap_i64, laws_szCellS.b, szR_pos, szR_neg]
end Go.Proofs.YtjjfodoafefohaaDoor.AL
