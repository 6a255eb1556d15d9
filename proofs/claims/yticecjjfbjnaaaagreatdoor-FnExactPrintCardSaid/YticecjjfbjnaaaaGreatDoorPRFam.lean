/- The laws' own functions over their structs: comparisons, marks, sizes, copies (printed by fam.py). -/
import Derived.Test.YticecjjfbjnaaaaGreatDoorEngM7
import Derived.Test.YticecjjfbjnaaaaGreatDoorPRFam0
namespace Go.Proofs.YticecjjfbjnaaaaGreatDoor.PR
open Go Go.VS
set_option maxRecDepth 10000
set_option linter.unusedSimpArgs false
set_option linter.unusedVariables false

def strsU : List ByteArray → Nat
  | [] => 0
  | s :: xs => s.size + strsU xs
def strsFit : List ByteArray → Prop
  | [] => True
  | s :: xs => (s.size : Int) ≤ 1000000000000000 ∧ strsFit xs
theorem strsFit_of : ∀ {xs : List ByteArray}, (∀ s ∈ xs, s.size ≤ 140737488351232) → strsFit xs
  | [], _ => trivial
  | s :: xs, h => ⟨by have := h s (by simp); omega, strsFit_of fun y hy => h y (by simp [hy])⟩
def szR (w left : Int) : Int := if w ≤ left then left - w else -1
theorem szR_pos {w left : Int} (h : w ≤ left) : szR w left = left - w := if_pos h
theorem szR_neg {w left : Int} (h : left < w) : szR w left = -1 := if_neg (by omega)
def KNode.cnt (x : KNode) : Nat := 3 + x.names.length + x.args.length
def KNode.cnts : List KNode → Nat
  | [] => 0
  | x :: xs => KNode.cnt x + KNode.cnts xs
def KNode.w (x : KNode) : Nat := x.s.size + (x.names.length + strsU x.names) + x.args.length
def KNode.us : List KNode → Nat
  | [] => 0
  | x :: xs => KNode.w x + KNode.us xs
def KNode.fit (x : KNode) : Prop := (x.s.size : Int) ≤ 1000000000000000 ∧ (x.names.length : Int) ≤ 1000000000000000 ∧ strsFit x.names ∧ (x.args.length : Int) ≤ 1000000000000000 ∧ True
def KNode.fits : List KNode → Prop
  | [] => True
  | x :: xs => KNode.fit x ∧ KNode.fits xs
theorem KNode.fits_of : ∀ {xs : List KNode}, (∀ x ∈ xs, KNode.fit x) → KNode.fits xs
  | [], _ => trivial
  | x :: xs, h => ⟨h x (by simp), KNode.fits_of fun y hy => h y (by simp [hy])⟩
theorem KNode.cnts_le : ∀ xs : List KNode, KNode.cnts xs ≤ 3 * (xs.length + KNode.us xs)
  | [] => by simp [KNode.cnts]
  | x :: xs => by
    have := KNode.cnts_le xs
    simp only [KNode.cnts, KNode.cnt, KNode.us, KNode.w, List.length_cons]; omega
def KNode.top (x : KNode) : Nat := 0 + x.names.length + x.args.length
theorem KNode.len_le : ∀ xs : List KNode, xs.length ≤ KNode.cnts xs
  | [] => Nat.le_refl _
  | x :: xs => by have := KNode.len_le xs; simp only [KNode.cnts, KNode.cnt, List.length_cons]; omega
def KProg.cnt (x : KProg) : Nat := 1 + KNode.cnts x.nodes
def KProg.cnts : List KProg → Nat
  | [] => 0
  | x :: xs => KProg.cnt x + KProg.cnts xs
def KProg.w (x : KProg) : Nat := (x.nodes.length + KNode.us x.nodes)
def KProg.us : List KProg → Nat
  | [] => 0
  | x :: xs => KProg.w x + KProg.us xs
def KProg.fit (x : KProg) : Prop := (x.nodes.length : Int) ≤ 1000000000000000 ∧ KNode.fits x.nodes ∧ True
def KProg.fits : List KProg → Prop
  | [] => True
  | x :: xs => KProg.fit x ∧ KProg.fits xs
theorem KProg.fits_of : ∀ {xs : List KProg}, (∀ x ∈ xs, KProg.fit x) → KProg.fits xs
  | [], _ => trivial
  | x :: xs, h => ⟨h x (by simp), KProg.fits_of fun y hy => h y (by simp [hy])⟩
theorem KProg.cnts_le : ∀ xs : List KProg, KProg.cnts xs ≤ 3 * (xs.length + KProg.us xs)
  | [] => by simp [KProg.cnts]
  | x :: xs => by
    have := KProg.cnts_le xs
    have := KNode.cnts_le x.nodes
    simp only [KProg.cnts, KProg.cnt, KProg.us, KProg.w, List.length_cons]; omega
def KProg.top (x : KProg) : Nat := 0 + KNode.cnts x.nodes
theorem KProg.len_le : ∀ xs : List KProg, xs.length ≤ KProg.cnts xs
  | [] => Nat.le_refl _
  | x :: xs => by have := KProg.len_le xs; simp only [KProg.cnts, KProg.cnt, List.length_cons]; omega
theorem eqIntS_loop (ks : List Fr) (Q : VX → Env → Prop) : ∀ (rest done : List Int) (i : Int), i = done.length → (done.length : Int) + (rest.length : Int) ≤ 1000000000000000 →
    Run G A (.exit 0) [(0, .v (.leaf (Kints false (done ++ rest)))), (1, .v (.leaf (Kints false (done ++ rest)))), (5, .v (.leaf (.int .i64 (done.length + rest.length)))), (14, .v (.leaf (.bool false)))] ks Q →
    Run G A (.loop laws_eqIntS.l0) [(0, .v (.leaf (Kints false (done ++ rest)))), (1, .v (.leaf (Kints false (done ++ rest)))), (5, .v (.leaf (.int .i64 i)))] ks Q := by
  intro rest
  induction rest with
  | nil =>
    intro done i hi h1 hq
    subst hi
    refine run_loop_at laws_eqIntS.l0.eq_1 ?_
    simpa using hq
  | cons x rest ih =>
    intro done i hi h1 hq
    subst hi
    simp only [List.length_cons] at h1
    have ih := ih (done ++ [x]) (done.length + 1) (by simp) (by simp; omega)
    refine run_loop_at laws_eqIntS.l0.eq_1 ?_
    simp (disch := omega) [ip, wr, get_mid]
    refine run_env (ih (run_env hq ?_)) ?_
    · simp <;> omega
    · simp
theorem eqIntS (xs : List Int) (h : (xs.length : Int) ≤ 1000000000000000) : A 185 [.leaf (Kints false (xs)), .leaf (Kints false (xs))] = some ([.leaf (.bool true)], [.gone, .gone]) := by
  refine run_laws_eqIntS ?_
  simp [laws_eqIntS.b]
  refine eqIntS_loop _ _ xs [] 0 (by simp) (by simp; omega) ?_
  simp
theorem toIntS_loop (ks : List Fr) (Q : VX → Env → Prop) : ∀ (rest done : List Int) (i : Int), i = done.length → (done.length : Int) + rest.length ≤ 1048576 → (0 : Int) ≤ 1048576 →
    Run G A (.exit 0) [(0, .v (.leaf (Kints false (done ++ rest)))), (3, .v (.leaf (Kints true (done ++ rest)))), (4, .v (.leaf (.int .i64 (done.length + rest.length)))), (11, .v (.leaf (.bool false)))] ks Q →
    Run G A (.loop laws_toIntS.l0) [(0, .v (.leaf (Kints false (done ++ rest)))), (3, .v (.leaf (.sl true 1 (done.map (fun n : Int => [L.int .i64 n]) ++ List.replicate rest.length [.int .i64 0])))), (4, .v (.leaf (.int .i64 i)))] ks Q := by
  intro rest
  induction rest with
  | nil =>
    intro done i hi h1 hu hq
    subst hi
    refine run_loop_at laws_toIntS.l0.eq_1 ?_
    simpa using hq
  | cons x rest ih =>
    intro done i hi h1 hu hq
    subst hi
    simp only [List.length_cons] at h1 hu
    have ih := ih (done ++ [x]) (done.length + 1) (by simp) (by simp; omega) (by omega)
    refine run_loop_at laws_toIntS.l0.eq_1 ?_
    simp (disch := omega) [ip, wr, get_mid, List.replicate_succ]
    refine run_env (ih (run_env hq ?_)) ?_
    · simp <;> omega
    · simp
theorem toIntS (xs : List Int) (h : (xs.length : Int) ≤ 1048576) : A 182 [.leaf (Kints false (xs))] = some ([.leaf (Kints true (xs))], [.gone]) := by
  refine run_laws_toIntS ?_
  simp (disch := omega) [ip, wr, laws_toIntS.b]
  refine run_env (toIntS_loop _ _ xs [] 0 (by simp) (by simp; omega) (by omega) ?_) ?_
  · simp
  · simp
theorem szIntS (xs : List Int) (left : Int) (h0 : 0 ≤ left) (h1 : left ≤ 1000000000000000) (hn : (xs.length : Int) ≤ 1000000000000000) : A 181 [.leaf (Kints false (xs)), .leaf (.int .i64 left)] = some ([.leaf (.int .i64 (szR xs.length left))], [.gone, .gone]) := by
  refine run_laws_szIntS ?_
  by_cases c : (xs.length : Int) ≤ left
  · simp (disch := omega) [ip, wr, laws_szIntS.b, szR_pos, szR_neg]
  · simp (disch := omega) [ip, wr, laws_szIntS.b, szR_pos, szR_neg]
theorem eqStringS_loop (ks : List Fr) (Q : VX → Env → Prop) : ∀ (rest done : List ByteArray) (i : Int), i = done.length → (done.length : Int) + (rest.length : Int) ≤ 1000000000000000 →
    Run G A (.exit 0) [(0, .v (.leaf (Kstrs false (done ++ rest)))), (1, .v (.leaf (Kstrs false (done ++ rest)))), (5, .v (.leaf (.int .i64 (done.length + rest.length)))), (14, .v (.leaf (.bool false)))] ks Q →
    Run G A (.loop laws_eqStringS.l0) [(0, .v (.leaf (Kstrs false (done ++ rest)))), (1, .v (.leaf (Kstrs false (done ++ rest)))), (5, .v (.leaf (.int .i64 i)))] ks Q := by
  intro rest
  induction rest with
  | nil =>
    intro done i hi h1 hq
    subst hi
    refine run_loop_at laws_eqStringS.l0.eq_1 ?_
    simpa using hq
  | cons x rest ih =>
    intro done i hi h1 hq
    subst hi
    simp only [List.length_cons] at h1
    have ih := ih (done ++ [x]) (done.length + 1) (by simp) (by simp; omega)
    refine run_loop_at laws_eqStringS.l0.eq_1 ?_
    simp (disch := omega) [ip, wr, eqIntS, get_mid]
    refine run_env (ih (run_env hq ?_)) ?_
    · simp <;> omega
    · simp
theorem eqStringS (xs : List ByteArray) (h : (xs.length : Int) ≤ 1000000000000000) : A 23 [.leaf (Kstrs false (xs)), .leaf (Kstrs false (xs))] = some ([.leaf (.bool true)], [.gone, .gone]) := by
  refine run_laws_eqStringS ?_
  simp [laws_eqStringS.b]
  refine eqStringS_loop _ _ xs [] 0 (by simp) (by simp; omega) ?_
  simp
theorem toStringS_loop (ks : List Fr) (Q : VX → Env → Prop) : ∀ (rest done : List ByteArray) (i : Int), i = done.length → (done.length : Int) + rest.length ≤ 1048576 → (strsU rest : Int) ≤ 1048576 →
    Run G A (.exit 0) [(0, .v (.leaf (Kstrs false (done ++ rest)))), (3, .v (.leaf (Kstrs true (done ++ rest)))), (4, .v (.leaf (.int .i64 (done.length + rest.length)))), (11, .v (.leaf (.bool false)))] ks Q →
    Run G A (.loop laws_toStringS.l0) [(0, .v (.leaf (Kstrs false (done ++ rest)))), (3, .v (.leaf (.sl true 1 (done.map (fun s : ByteArray => [L.str s]) ++ List.replicate rest.length [.str ⟨#[]⟩])))), (4, .v (.leaf (.int .i64 i)))] ks Q := by
  intro rest
  induction rest with
  | nil =>
    intro done i hi h1 hu hq
    subst hi
    refine run_loop_at laws_toStringS.l0.eq_1 ?_
    simpa using hq
  | cons x rest ih =>
    intro done i hi h1 hu hq
    subst hi
    simp only [strsU, List.length_cons] at h1 hu
    have ih := ih (done ++ [x]) (done.length + 1) (by simp) (by simp; omega) (by omega)
    refine run_loop_at laws_toStringS.l0.eq_1 ?_
    simp (disch := omega) [ip, wr, toIntS, get_mid, List.replicate_succ]
    refine run_env (ih (run_env hq ?_)) ?_
    · simp <;> omega
    · simp
theorem toStringS (xs : List ByteArray) (h : ((xs.length + strsU xs) : Int) ≤ 1048576) : A 97 [.leaf (Kstrs false (xs))] = some ([.leaf (Kstrs true (xs))], [.gone]) := by
  refine run_laws_toStringS ?_
  simp (disch := omega) [ip, wr, laws_toStringS.b]
  refine run_env (toStringS_loop _ _ xs [] 0 (by simp) (by simp; omega) (by omega) ?_) ?_
  · simp
  · simp
theorem szStringS_loop (ks : List Fr) (Q : VX → Env → Prop) : ∀ (rest done : List ByteArray) (l i : Int), i = done.length → 0 ≤ l → l ≤ 1000000000000000 → (done.length : Int) + rest.length ≤ 1000000000000000 → strsFit rest →
    ((strsU rest : Int) ≤ l → Run G A (.exit 0) [(0, .v (.leaf (Kstrs false (done ++ rest)))), (1, .v (.leaf (.int .i64 (l - strsU rest)))), (5, .v (.leaf (.int .i64 (done.length + rest.length)))), (15, .v (.leaf (.bool false)))] ks Q) →
    (l < strsU rest → Run G A .ret [(4, .v (.leaf (.int .i64 (-1))))] ks Q) →
    Run G A (.loop laws_szStringS.l0) [(0, .v (.leaf (Kstrs false (done ++ rest)))), (1, .v (.leaf (.int .i64 l))), (5, .v (.leaf (.int .i64 i)))] ks Q := by
  intro rest
  induction rest with
  | nil =>
    intro done l i hi h0 h1 hn hf hq hr
    subst hi
    refine run_loop_at laws_szStringS.l0.eq_1 ?_
    simpa [strsU] using hq (by simp [strsU]; omega)
  | cons x rest ih =>
    intro done l i hi h0 h1 hn hf hq hr
    subst hi
    simp only [strsU, List.length_cons, Int.natCast_add] at hn hq hr
    refine run_loop_at laws_szStringS.l0.eq_1 ?_
    simp only [strsFit] at hf
    have hf1 := hf.1
    by_cases c : ((x.size : Nat) : Int) ≤ l
    · have ih := ih (done ++ [x]) (l - ↑(x.size)) (done.length + 1) (by simp) (by omega) (by omega) (by simp; omega) hf.2
      simp (disch := omega) [ip, wr, get_mid, szR_pos, szR_neg]
      refine run_env (ih (fun g => run_env (hq (by omega)) ?_) (fun g => hr (by omega))) ?_
      · simp <;> omega
      · simp
    · have hr := hr (by omega)
      simp (disch := omega) [ip, wr, get_mid, szR_pos, szR_neg]
      first | exact hr | simpa using hr
theorem szStringS (xs : List ByteArray) (left : Int) (h0 : 0 ≤ left) (h1 : left ≤ 1000000000000000) (hn : (xs.length : Int) ≤ 1000000000000000) (hf : strsFit xs) : A 92 [.leaf (Kstrs false (xs)), .leaf (.int .i64 left)] = some ([.leaf (.int .i64 (szR ↑(xs.length + strsU xs) left))], [.gone, .gone]) := by
  refine run_laws_szStringS ?_
  by_cases c : (xs.length : Int) ≤ left
  · simp (disch := omega) [ip, wr, laws_szStringS.b]
    refine run_env (szStringS_loop _ _ xs [] (left - xs.length) 0 (by simp) (by omega) (by omega) (by simp; omega) hf (fun g => ?_) (fun g => ?_)) ?_
    · have g2 : ((xs.length + strsU xs : Nat) : Int) ≤ left := by omega
      simp (disch := omega) [ip, wr, laws_szStringS.b, szR_pos, szR_neg]
      omega
    · have g2 : left < ((xs.length + strsU xs : Nat) : Int) := by omega
      simp (disch := omega) [ip, wr, laws_szStringS.b, szR_pos, szR_neg]
    · simp
  · have g2 : left < ((xs.length + strsU xs : Nat) : Int) := by omega
    simp (disch := omega) [ip, wr, laws_szStringS.b, szR_pos, szR_neg]
theorem eqNode (x : KNode) (h : (x.names.length : Int) ≤ 1000000000000000 ∧ (x.args.length : Int) ≤ 1000000000000000) : A 135 [.agg (KNode.row false x), .agg (KNode.row false x)] = some ([.leaf (.bool true)], [.gone, .gone]) := by
  refine run_laws_eqNode ?_
  simp (disch := omega) [ip, wr, laws_eqNode.b, eqIntS, eqStringS]
theorem toNode (x : KNode) (h : (KNode.w x : Int) ≤ 1048576) : A 132 [.agg (KNode.row false x)] = some ([.agg (KNode.row true x)], [.gone]) := by
  simp only [KNode.w] at h
  refine run_laws_toNode ?_
  simp (disch := omega) [ip, wr, laws_toNode.b, toIntS, toStringS]
theorem szNode (x : KNode) (left : Int) (h0 : 0 ≤ left) (h1 : left ≤ 1000000000000000) (hf : KNode.fit x) : A 131 [.agg (KNode.row false x), .leaf (.int .i64 left)] = some ([.leaf (.int .i64 (szR ↑(KNode.w x) left))], [.gone, .gone]) := by
  obtain ⟨f1, f2, f3, f4, -⟩ := hf
  have e0 := fun l a b => szStringS x.names l a b f2 f3
  have e1 := fun l a b => szIntS x.args l a b f4
  simp only [KNode.w, Int.natCast_add]
  refine run_laws_szNode ?_
  by_cases c0 : ((x.s.size : Nat) : Int) ≤ left
  · by_cases c1 : ((x.s.size : Nat) : Int) + (((x.names.length + strsU x.names) : Nat) : Int) ≤ left
    · by_cases c2 : ((x.s.size : Nat) : Int) + (((x.names.length + strsU x.names) : Nat) : Int) + ((x.args.length : Nat) : Int) ≤ left
      · simp (disch := omega) [ip, wr, laws_szNode.b, e0, e1, szR_pos, szR_neg] <;> omega
      · simp (disch := omega) [ip, wr, laws_szNode.b, e0, e1, szR_pos, szR_neg] <;> omega
    · simp (disch := omega) [ip, wr, laws_szNode.b, e0, e1, szR_pos, szR_neg] <;> omega
  · simp (disch := omega) [ip, wr, laws_szNode.b, e0, e1, szR_pos, szR_neg] <;> omega
theorem eqNodeS_loop (ks : List Fr) (Q : VX → Env → Prop) : ∀ (rest done : List KNode) (i : Int), i = done.length → (done.length : Int) + (KNode.cnts rest : Int) ≤ 1000000000000000 →
    Run G A (.exit 0) [(0, .v (.leaf (KNode.sl false (done ++ rest)))), (1, .v (.leaf (KNode.sl false (done ++ rest)))), (5, .v (.leaf (.int .i64 (done.length + rest.length)))), (14, .v (.leaf (.bool false)))] ks Q →
    Run G A (.loop laws_eqNodeS.l0) [(0, .v (.leaf (KNode.sl false (done ++ rest)))), (1, .v (.leaf (KNode.sl false (done ++ rest)))), (5, .v (.leaf (.int .i64 i)))] ks Q := by
  intro rest
  induction rest with
  | nil =>
    intro done i hi h1 hq
    subst hi
    refine run_loop_at laws_eqNodeS.l0.eq_1 ?_
    simpa using hq
  | cons x rest ih =>
    intro done i hi h1 hq
    subst hi
    simp only [KNode.cnts, KNode.cnt, List.length_cons] at h1
    have := KNode.len_le rest
    have ih := ih (done ++ [x]) (done.length + 1) (by simp) (by simp; omega)
    refine run_loop_at laws_eqNodeS.l0.eq_1 ?_
    simp (disch := omega) [ip, wr, eqIntS, eqStringS, eqNode, get_mid]
    refine run_env (ih (run_env hq ?_)) ?_
    · simp <;> omega
    · simp
theorem eqNodeS (xs : List KNode) (h : (KNode.cnts xs : Int) ≤ 1000000000000000) : A 78 [.leaf (KNode.sl false (xs)), .leaf (KNode.sl false (xs))] = some ([.leaf (.bool true)], [.gone, .gone]) := by
  refine run_laws_eqNodeS ?_
  have := KNode.len_le xs
  simp [laws_eqNodeS.b]
  refine eqNodeS_loop _ _ xs [] 0 (by simp) (by simp; omega) ?_
  simp
theorem toNodeS_loop (ks : List Fr) (Q : VX → Env → Prop) : ∀ (rest done : List KNode) (i : Int), i = done.length → (done.length : Int) + rest.length ≤ 1048576 → (KNode.us rest : Int) ≤ 1048576 →
    Run G A (.exit 0) [(0, .v (.leaf (KNode.sl false (done ++ rest)))), (3, .v (.leaf (KNode.sl true (done ++ rest)))), (4, .v (.leaf (.int .i64 (done.length + rest.length)))), (11, .v (.leaf (.bool false)))] ks Q →
    Run G A (.loop laws_toNodeS.l0) [(0, .v (.leaf (KNode.sl false (done ++ rest)))), (3, .v (.leaf (.sl true 5 (done.map (KNode.row true) ++ List.replicate rest.length [.int .i64 0, .int .i64 0, .str ⟨#[]⟩, .sl true 1 [], .sl true 1 []])))), (4, .v (.leaf (.int .i64 i)))] ks Q := by
  intro rest
  induction rest with
  | nil =>
    intro done i hi h1 hu hq
    subst hi
    refine run_loop_at laws_toNodeS.l0.eq_1 ?_
    simpa using hq
  | cons x rest ih =>
    intro done i hi h1 hu hq
    subst hi
    simp only [KNode.us, List.length_cons] at h1 hu
    have ih := ih (done ++ [x]) (done.length + 1) (by simp) (by simp; omega) (by omega)
    refine run_loop_at laws_toNodeS.l0.eq_1 ?_
    simp (disch := omega) [ip, wr, toIntS, toStringS, toNode, get_mid, List.replicate_succ]
    refine run_env (ih (run_env hq ?_)) ?_
    · simp <;> omega
    · simp
theorem toNodeS (xs : List KNode) (h : ((xs.length + KNode.us xs) : Int) ≤ 1048576) : A 74 [.leaf (KNode.sl false (xs))] = some ([.leaf (KNode.sl true (xs))], [.gone]) := by
  refine run_laws_toNodeS ?_
  simp (disch := omega) [ip, wr, laws_toNodeS.b]
  refine run_env (toNodeS_loop _ _ xs [] 0 (by simp) (by simp; omega) (by omega) ?_) ?_
  · simp
  · simp
theorem szNodeS_loop (ks : List Fr) (Q : VX → Env → Prop) : ∀ (rest done : List KNode) (l i : Int), i = done.length → 0 ≤ l → l ≤ 1000000000000000 → (done.length : Int) + rest.length ≤ 1000000000000000 → KNode.fits rest →
    ((KNode.us rest : Int) ≤ l → Run G A (.exit 0) [(0, .v (.leaf (KNode.sl false (done ++ rest)))), (1, .v (.leaf (.int .i64 (l - KNode.us rest)))), (5, .v (.leaf (.int .i64 (done.length + rest.length)))), (15, .v (.leaf (.bool false)))] ks Q) →
    (l < KNode.us rest → Run G A .ret [(4, .v (.leaf (.int .i64 (-1))))] ks Q) →
    Run G A (.loop laws_szNodeS.l0) [(0, .v (.leaf (KNode.sl false (done ++ rest)))), (1, .v (.leaf (.int .i64 l))), (5, .v (.leaf (.int .i64 i)))] ks Q := by
  intro rest
  induction rest with
  | nil =>
    intro done l i hi h0 h1 hn hf hq hr
    subst hi
    refine run_loop_at laws_szNodeS.l0.eq_1 ?_
    simpa [KNode.us] using hq (by simp [KNode.us]; omega)
  | cons x rest ih =>
    intro done l i hi h0 h1 hn hf hq hr
    subst hi
    simp only [KNode.us, List.length_cons, Int.natCast_add] at hn hq hr
    refine run_loop_at laws_szNodeS.l0.eq_1 ?_
    simp only [KNode.fits] at hf
    have e1 := fun l a b => szNode x l a b hf.1
    by_cases c : ((KNode.w x : Nat) : Int) ≤ l
    · have ih := ih (done ++ [x]) (l - ↑(KNode.w x)) (done.length + 1) (by simp) (by omega) (by omega) (by simp; omega) hf.2
      simp (disch := omega) [ip, wr, e1, get_mid, szR_pos, szR_neg]
      refine run_env (ih (fun g => run_env (hq (by omega)) ?_) (fun g => hr (by omega))) ?_
      · simp <;> omega
      · simp
    · have hr := hr (by omega)
      simp (disch := omega) [ip, wr, e1, get_mid, szR_pos, szR_neg]
      first | exact hr | simpa using hr
theorem szNodeS (xs : List KNode) (left : Int) (h0 : 0 ≤ left) (h1 : left ≤ 1000000000000000) (hn : (xs.length : Int) ≤ 1000000000000000) (hf : KNode.fits xs) : A 72 [.leaf (KNode.sl false (xs)), .leaf (.int .i64 left)] = some ([.leaf (.int .i64 (szR ↑(xs.length + KNode.us xs) left))], [.gone, .gone]) := by
  refine run_laws_szNodeS ?_
  by_cases c : (xs.length : Int) ≤ left
  · simp (disch := omega) [ip, wr, laws_szNodeS.b]
    refine run_env (szNodeS_loop _ _ xs [] (left - xs.length) 0 (by simp) (by omega) (by omega) (by simp; omega) hf (fun g => ?_) (fun g => ?_)) ?_
    · have g2 : ((xs.length + KNode.us xs : Nat) : Int) ≤ left := by omega
      simp (disch := omega) [ip, wr, laws_szNodeS.b, szR_pos, szR_neg]
      omega
    · have g2 : left < ((xs.length + KNode.us xs : Nat) : Int) := by omega
      simp (disch := omega) [ip, wr, laws_szNodeS.b, szR_pos, szR_neg]
    · simp
  · have g2 : left < ((xs.length + KNode.us xs : Nat) : Int) := by omega
    simp (disch := omega) [ip, wr, laws_szNodeS.b, szR_pos, szR_neg]
theorem eqProg (x : KProg) (h : (KNode.cnts x.nodes : Int) ≤ 1000000000000000) : A 24 [.agg (KProg.row false x), .agg (KProg.row false x)] = some ([.leaf (.bool true)], [.gone, .gone]) := by
  refine run_laws_eqProg ?_
  simp (disch := omega) [ip, wr, laws_eqProg.b, eqIntS, eqStringS, eqNode, eqNodeS]
theorem toProg (x : KProg) (h : (KProg.w x : Int) ≤ 1048576) : A 21 [.agg (KProg.row false x)] = some ([.agg (KProg.row true x)], [.gone]) := by
  simp only [KProg.w] at h
  refine run_laws_toProg ?_
  simp (disch := omega) [ip, wr, laws_toProg.b, toIntS, toStringS, toNode, toNodeS]
theorem szProg (x : KProg) (left : Int) (h0 : 0 ≤ left) (h1 : left ≤ 1000000000000000) (hf : KProg.fit x) : A 19 [.agg (KProg.row false x), .leaf (.int .i64 left)] = some ([.leaf (.int .i64 (szR ↑(KProg.w x) left))], [.gone, .gone]) := by
  obtain ⟨f1, f2, -⟩ := hf
  have e0 := fun l a b => szNodeS x.nodes l a b f1 f2
  simp only [KProg.w, Int.natCast_add]
  refine run_laws_szProg ?_
  by_cases c0 : (((x.nodes.length + KNode.us x.nodes) : Nat) : Int) ≤ left
  · simp (disch := omega) [ip, wr, laws_szProg.b, e0, szR_pos, szR_neg] <;> omega
  · simp (disch := omega) [ip, wr, laws_szProg.b, e0, szR_pos, szR_neg] <;> omega
end Go.Proofs.YticecjjfbjnaaaaGreatDoor.PR
