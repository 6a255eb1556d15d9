/- The laws' own functions over their structs: comparisons, marks, sizes, copies (printed by fam.py). -/
import Derived.Test.YthkfnfppihgejaaGreatDoorEngM7
import Derived.Test.YthkfnfppihgejaaGreatDoorLNFam0
namespace Go.Proofs.YthkfnfppihgejaaGreatDoor.LN
open Go Go.VS
set_option maxRecDepth 10000
set_option linter.unusedSimpArgs false
set_option linter.unusedVariables false

def markInts (k : Int) : List Int → List Int
  | [] => []
  | _ :: xs => k :: markInts (k + 1) xs
noncomputable def markStrs (k : Int) : List ByteArray → List ByteArray
  | [] => []
  | _ :: xs => mtext k :: markStrs (k + 1) xs
def strsU : List ByteArray → Nat
  | [] => 0
  | s :: xs => s.size + strsU xs
def strsFit : List ByteArray → Prop
  | [] => True
  | s :: xs => (s.size : Int) ≤ 1000000000000000 ∧ strsFit xs
theorem strsFit_of : ∀ {xs : List ByteArray}, (∀ s ∈ xs, s.size ≤ 140737488351232) → strsFit xs
  | [], _ => trivial
  | s :: xs, h => ⟨by have := h s (by simp); omega, strsFit_of fun y hy => h y (by simp [hy])⟩
def szR (w left : Int) : Int := if w ≤ left then left - w else -1
theorem szR_pos {w left : Int} (h : w ≤ left) : szR w left = left - w := if_pos h
theorem szR_neg {w left : Int} (h : left < w) : szR w left = -1 := if_neg (by omega)
@[simp] theorem markInts_length : ∀ (xs : List Int) (k : Int), (markInts k xs).length = xs.length
  | [], _ => rfl
  | _ :: xs, k => by simp [markInts, markInts_length xs]
@[simp] theorem markStrs_length : ∀ (xs : List ByteArray) (k : Int), (markStrs k xs).length = xs.length
  | [], _ => rfl
  | _ :: xs, k => by simp [markStrs, markStrs_length xs]
def KNode.cnt (x : KNode) : Nat := 3 + x.names.length + x.args.length
def KNode.cnts : List KNode → Nat
  | [] => 0
  | x :: xs => KNode.cnt x + KNode.cnts xs
def KNode.w (x : KNode) : Nat := x.s.size + (x.names.length + strsU x.names) + x.args.length
def KNode.us : List KNode → Nat
  | [] => 0
  | x :: xs => KNode.w x + KNode.us xs
def KNode.fit (x : KNode) : Prop := (x.s.size : Int) ≤ 1000000000000000 ∧ (x.names.length : Int) ≤ 1000000000000000 ∧ strsFit x.names ∧ (x.args.length : Int) ≤ 1000000000000000 ∧ True
def KNode.fits : List KNode → Prop
  | [] => True
  | x :: xs => KNode.fit x ∧ KNode.fits xs
theorem KNode.fits_of : ∀ {xs : List KNode}, (∀ x ∈ xs, KNode.fit x) → KNode.fits xs
  | [], _ => trivial
  | x :: xs, h => ⟨h x (by simp), KNode.fits_of fun y hy => h y (by simp [hy])⟩
theorem KNode.cnts_le : ∀ xs : List KNode, KNode.cnts xs ≤ 3 * (xs.length + KNode.us xs)
  | [] => by simp [KNode.cnts]
  | x :: xs => by
    have := KNode.cnts_le xs
    simp only [KNode.cnts, KNode.cnt, KNode.us, KNode.w, List.length_cons]; omega
noncomputable def KNode.mark (k : Int) (x : KNode) : KNode := { kind := k, n := k + 1, s := mtext (k + 1 + 1), names := markStrs (k + 1 + 1 + 1) x.names, args := markInts (k + 1 + 1 + 1 + ↑(x.names.length)) x.args }
noncomputable def KNode.marks (k : Int) : List KNode → List KNode
  | [] => []
  | x :: xs => KNode.mark k x :: KNode.marks (k + KNode.cnt x) xs
noncomputable def KNode.markTop (k : Int) (x : KNode) : KNode := { kind := x.kind, n := x.n, s := x.s, names := markStrs (k) x.names, args := markInts (k + ↑(x.names.length)) x.args }
def KNode.top (x : KNode) : Nat := 0 + x.names.length + x.args.length
theorem KNode.len_le : ∀ xs : List KNode, xs.length ≤ KNode.cnts xs
  | [] => Nat.le_refl _
  | x :: xs => by have := KNode.len_le xs; simp only [KNode.cnts, KNode.cnt, List.length_cons]; omega
def KProg.cnt (x : KProg) : Nat := 1 + KNode.cnts x.nodes
def KProg.cnts : List KProg → Nat
  | [] => 0
  | x :: xs => KProg.cnt x + KProg.cnts xs
def KProg.w (x : KProg) : Nat := (x.nodes.length + KNode.us x.nodes)
def KProg.us : List KProg → Nat
  | [] => 0
  | x :: xs => KProg.w x + KProg.us xs
def KProg.fit (x : KProg) : Prop := (x.nodes.length : Int) ≤ 1000000000000000 ∧ KNode.fits x.nodes ∧ True
def KProg.fits : List KProg → Prop
  | [] => True
  | x :: xs => KProg.fit x ∧ KProg.fits xs
theorem KProg.fits_of : ∀ {xs : List KProg}, (∀ x ∈ xs, KProg.fit x) → KProg.fits xs
  | [], _ => trivial
  | x :: xs, h => ⟨h x (by simp), KProg.fits_of fun y hy => h y (by simp [hy])⟩
theorem KProg.cnts_le : ∀ xs : List KProg, KProg.cnts xs ≤ 3 * (xs.length + KProg.us xs)
  | [] => by simp [KProg.cnts]
  | x :: xs => by
    have := KProg.cnts_le xs
    have := KNode.cnts_le x.nodes
    simp only [KProg.cnts, KProg.cnt, KProg.us, KProg.w, List.length_cons]; omega
noncomputable def KProg.mark (k : Int) (x : KProg) : KProg := { nodes := KNode.marks (k) x.nodes, root := k + ↑(KNode.cnts x.nodes) }
noncomputable def KProg.marks (k : Int) : List KProg → List KProg
  | [] => []
  | x :: xs => KProg.mark k x :: KProg.marks (k + KProg.cnt x) xs
noncomputable def KProg.markTop (k : Int) (x : KProg) : KProg := { nodes := KNode.marks (k) x.nodes, root := x.root }
def KProg.top (x : KProg) : Nat := 0 + KNode.cnts x.nodes
theorem KProg.len_le : ∀ xs : List KProg, xs.length ≤ KProg.cnts xs
  | [] => Nat.le_refl _
  | x :: xs => by have := KProg.len_le xs; simp only [KProg.cnts, KProg.cnt, List.length_cons]; omega
def KType.cnt (x : KType) : Nat := 2
def KType.cnts : List KType → Nat
  | [] => 0
  | x :: xs => KType.cnt x + KType.cnts xs
def KType.w (x : KType) : Nat := x.name.size
def KType.us : List KType → Nat
  | [] => 0
  | x :: xs => KType.w x + KType.us xs
def KType.fit (x : KType) : Prop := (x.name.size : Int) ≤ 1000000000000000 ∧ True
def KType.fits : List KType → Prop
  | [] => True
  | x :: xs => KType.fit x ∧ KType.fits xs
theorem KType.fits_of : ∀ {xs : List KType}, (∀ x ∈ xs, KType.fit x) → KType.fits xs
  | [], _ => trivial
  | x :: xs, h => ⟨h x (by simp), KType.fits_of fun y hy => h y (by simp [hy])⟩
theorem KType.cnts_le : ∀ xs : List KType, KType.cnts xs ≤ 2 * (xs.length + KType.us xs)
  | [] => by simp [KType.cnts]
  | x :: xs => by
    have := KType.cnts_le xs
    simp only [KType.cnts, KType.cnt, KType.us, KType.w, List.length_cons]; omega
noncomputable def KType.mark (k : Int) (x : KType) : KType := { name := mtext (k), size := k + 1 }
noncomputable def KType.marks (k : Int) : List KType → List KType
  | [] => []
  | x :: xs => KType.mark k x :: KType.marks (k + KType.cnt x) xs
noncomputable def KType.markTop (k : Int) (x : KType) : KType := { name := x.name, size := x.size }
def KType.top (x : KType) : Nat := 0
theorem KType.len_le : ∀ xs : List KType, xs.length ≤ KType.cnts xs
  | [] => Nat.le_refl _
  | x :: xs => by have := KType.len_le xs; simp only [KType.cnts, KType.cnt, List.length_cons]; omega
def KDef.cnt (x : KDef) : Nat := 2 + KNode.cnts x.prog.nodes
def KDef.cnts : List KDef → Nat
  | [] => 0
  | x :: xs => KDef.cnt x + KDef.cnts xs
def KDef.w (x : KDef) : Nat := x.name.size + KProg.w x.prog
def KDef.us : List KDef → Nat
  | [] => 0
  | x :: xs => KDef.w x + KDef.us xs
def KDef.fit (x : KDef) : Prop := (x.name.size : Int) ≤ 1000000000000000 ∧ KProg.fit x.prog ∧ True
def KDef.fits : List KDef → Prop
  | [] => True
  | x :: xs => KDef.fit x ∧ KDef.fits xs
theorem KDef.fits_of : ∀ {xs : List KDef}, (∀ x ∈ xs, KDef.fit x) → KDef.fits xs
  | [], _ => trivial
  | x :: xs, h => ⟨h x (by simp), KDef.fits_of fun y hy => h y (by simp [hy])⟩
theorem KDef.cnts_le : ∀ xs : List KDef, KDef.cnts xs ≤ 3 * (xs.length + KDef.us xs)
  | [] => by simp [KDef.cnts]
  | x :: xs => by
    have := KDef.cnts_le xs
    have := KNode.cnts_le x.prog.nodes
    simp only [KDef.cnts, KDef.cnt, KDef.us, KDef.w, KProg.w, List.length_cons]; omega
noncomputable def KDef.mark (k : Int) (x : KDef) : KDef := { name := mtext (k), prog := { nodes := KNode.marks (k + 1) x.prog.nodes, root := k + 1 + ↑(KNode.cnts x.prog.nodes) } }
noncomputable def KDef.marks (k : Int) : List KDef → List KDef
  | [] => []
  | x :: xs => KDef.mark k x :: KDef.marks (k + KDef.cnt x) xs
noncomputable def KDef.markTop (k : Int) (x : KDef) : KDef := { name := x.name, prog := KProg.markTop (k) x.prog }
def KDef.top (x : KDef) : Nat := 0 + KProg.top x.prog
theorem KDef.len_le : ∀ xs : List KDef, xs.length ≤ KDef.cnts xs
  | [] => Nat.le_refl _
  | x :: xs => by have := KDef.len_le xs; simp only [KDef.cnts, KDef.cnt, List.length_cons]; omega
def KSrc.cnt (x : KSrc) : Nat := 1 + x.imports.length + x.exports.length + KType.cnts x.types + KDef.cnts x.defs + KDef.cnts x.convs
def KSrc.cnts : List KSrc → Nat
  | [] => 0
  | x :: xs => KSrc.cnt x + KSrc.cnts xs
def KSrc.w (x : KSrc) : Nat := x.name.size + (x.imports.length + strsU x.imports) + (x.exports.length + strsU x.exports) + (x.types.length + KType.us x.types) + (x.defs.length + KDef.us x.defs) + (x.convs.length + KDef.us x.convs)
def KSrc.us : List KSrc → Nat
  | [] => 0
  | x :: xs => KSrc.w x + KSrc.us xs
def KSrc.fit (x : KSrc) : Prop := (x.name.size : Int) ≤ 1000000000000000 ∧ (x.imports.length : Int) ≤ 1000000000000000 ∧ strsFit x.imports ∧ (x.exports.length : Int) ≤ 1000000000000000 ∧ strsFit x.exports ∧ (x.types.length : Int) ≤ 1000000000000000 ∧ KType.fits x.types ∧ (x.defs.length : Int) ≤ 1000000000000000 ∧ KDef.fits x.defs ∧ (x.convs.length : Int) ≤ 1000000000000000 ∧ KDef.fits x.convs ∧ True
def KSrc.fits : List KSrc → Prop
  | [] => True
  | x :: xs => KSrc.fit x ∧ KSrc.fits xs
theorem KSrc.fits_of : ∀ {xs : List KSrc}, (∀ x ∈ xs, KSrc.fit x) → KSrc.fits xs
  | [], _ => trivial
  | x :: xs, h => ⟨h x (by simp), KSrc.fits_of fun y hy => h y (by simp [hy])⟩
theorem KSrc.cnts_le : ∀ xs : List KSrc, KSrc.cnts xs ≤ 3 * (xs.length + KSrc.us xs)
  | [] => by simp [KSrc.cnts]
  | x :: xs => by
    have := KSrc.cnts_le xs
    have := KType.cnts_le x.types
    have := KDef.cnts_le x.defs
    have := KDef.cnts_le x.convs
    simp only [KSrc.cnts, KSrc.cnt, KSrc.us, KSrc.w, List.length_cons]; omega
noncomputable def KSrc.mark (k : Int) (x : KSrc) : KSrc := { name := mtext (k), imports := markStrs (k + 1) x.imports, exports := markStrs (k + 1 + ↑(x.imports.length)) x.exports, types := KType.marks (k + 1 + ↑(x.imports.length) + ↑(x.exports.length)) x.types, defs := KDef.marks (k + 1 + ↑(x.imports.length) + ↑(x.exports.length) + ↑(KType.cnts x.types)) x.defs, convs := KDef.marks (k + 1 + ↑(x.imports.length) + ↑(x.exports.length) + ↑(KType.cnts x.types) + ↑(KDef.cnts x.defs)) x.convs }
noncomputable def KSrc.marks (k : Int) : List KSrc → List KSrc
  | [] => []
  | x :: xs => KSrc.mark k x :: KSrc.marks (k + KSrc.cnt x) xs
noncomputable def KSrc.markTop (k : Int) (x : KSrc) : KSrc := { name := x.name, imports := markStrs (k) x.imports, exports := markStrs (k + ↑(x.imports.length)) x.exports, types := KType.marks (k + ↑(x.imports.length) + ↑(x.exports.length)) x.types, defs := KDef.marks (k + ↑(x.imports.length) + ↑(x.exports.length) + ↑(KType.cnts x.types)) x.defs, convs := KDef.marks (k + ↑(x.imports.length) + ↑(x.exports.length) + ↑(KType.cnts x.types) + ↑(KDef.cnts x.defs)) x.convs }
def KSrc.top (x : KSrc) : Nat := 0 + x.imports.length + x.exports.length + KType.cnts x.types + KDef.cnts x.defs + KDef.cnts x.convs
theorem KSrc.len_le : ∀ xs : List KSrc, xs.length ≤ KSrc.cnts xs
  | [] => Nat.le_refl _
  | x :: xs => by have := KSrc.len_le xs; simp only [KSrc.cnts, KSrc.cnt, List.length_cons]; omega
def KNote.cnt (x : KNote) : Nat := 2
def KNote.cnts : List KNote → Nat
  | [] => 0
  | x :: xs => KNote.cnt x + KNote.cnts xs
def KNote.w (x : KNote) : Nat := x.name.size
def KNote.us : List KNote → Nat
  | [] => 0
  | x :: xs => KNote.w x + KNote.us xs
def KNote.fit (x : KNote) : Prop := (x.name.size : Int) ≤ 1000000000000000 ∧ True
def KNote.fits : List KNote → Prop
  | [] => True
  | x :: xs => KNote.fit x ∧ KNote.fits xs
theorem KNote.fits_of : ∀ {xs : List KNote}, (∀ x ∈ xs, KNote.fit x) → KNote.fits xs
  | [], _ => trivial
  | x :: xs, h => ⟨h x (by simp), KNote.fits_of fun y hy => h y (by simp [hy])⟩
theorem KNote.cnts_le : ∀ xs : List KNote, KNote.cnts xs ≤ 2 * (xs.length + KNote.us xs)
  | [] => by simp [KNote.cnts]
  | x :: xs => by
    have := KNote.cnts_le xs
    simp only [KNote.cnts, KNote.cnt, KNote.us, KNote.w, List.length_cons]; omega
noncomputable def KNote.mark (k : Int) (x : KNote) : KNote := { kind := k, name := mtext (k + 1) }
noncomputable def KNote.marks (k : Int) : List KNote → List KNote
  | [] => []
  | x :: xs => KNote.mark k x :: KNote.marks (k + KNote.cnt x) xs
noncomputable def KNote.markTop (k : Int) (x : KNote) : KNote := { kind := x.kind, name := x.name }
def KNote.top (x : KNote) : Nat := 0
theorem KNote.len_le : ∀ xs : List KNote, xs.length ≤ KNote.cnts xs
  | [] => Nat.le_refl _
  | x :: xs => by have := KNote.len_le xs; simp only [KNote.cnts, KNote.cnt, List.length_cons]; omega
theorem eqIntS_loop (ks : List Fr) (Q : VX → Env → Prop) : ∀ (rest done : List Int) (i : Int), i = done.length → (done.length : Int) + (rest.length : Int) ≤ 1000000000000000 →
    Run G A (.exit 0) [(0, .v (.leaf (Kints false (done ++ rest)))), (1, .v (.leaf (Kints false (done ++ rest)))), (5, .v (.leaf (.int .i64 (done.length + rest.length)))), (14, .v (.leaf (.bool false)))] ks Q →
    Run G A (.loop laws_eqIntS.l0) [(0, .v (.leaf (Kints false (done ++ rest)))), (1, .v (.leaf (Kints false (done ++ rest)))), (5, .v (.leaf (.int .i64 i)))] ks Q := by
  intro rest
  induction rest with
  | nil =>
    intro done i hi h1 hq
    subst hi
    refine run_loop_at laws_eqIntS.l0.eq_1 ?_
    simpa using hq
  | cons x rest ih =>
    intro done i hi h1 hq
    subst hi
    simp only [List.length_cons] at h1
    have ih := ih (done ++ [x]) (done.length + 1) (by simp) (by simp; omega)
    refine run_loop_at laws_eqIntS.l0.eq_1 ?_
    simp (disch := omega) [ip, wr, get_mid]
    refine run_env (ih (run_env hq ?_)) ?_
    · simp <;> omega
    · simp
theorem eqIntS (xs : List Int) (h : (xs.length : Int) ≤ 1000000000000000) : A 123 [.leaf (Kints false (xs)), .leaf (Kints false (xs))] = some ([.leaf (.bool true)], [.gone, .gone]) := by
  refine run_laws_eqIntS ?_
  simp [laws_eqIntS.b]
  refine eqIntS_loop _ _ xs [] 0 (by simp) (by simp; omega) ?_
  simp
theorem markIntS_loop (ks : List Fr) (Q : VX → Env → Prop) : ∀ (rest done : List Int) (k i : Int), i = done.length → 0 ≤ k → k + (rest.length : Int) ≤ 1000000000000000 → (done.length : Int) + (rest.length : Int) ≤ 1000000000000000 →
    Run G A (.exit 0) [(0, .v (.leaf (Kints true (done ++ markInts k rest)))), (1, .v (.leaf (.int .i64 (k + (rest.length : Int))))), (5, .v (.leaf (.int .i64 (done.length + rest.length)))), (9, .v (.leaf (.bool false)))] ks Q →
    Run G A (.loop laws_markIntS.l0) [(0, .v (.leaf (Kints true (done ++ rest)))), (1, .v (.leaf (.int .i64 k))), (5, .v (.leaf (.int .i64 i)))] ks Q := by
  intro rest
  induction rest with
  | nil =>
    intro done k i hi h0 h1 h2 hq
    subst hi
    refine run_loop_at laws_markIntS.l0.eq_1 ?_
    simpa [markInts] using hq
  | cons x rest ih =>
    intro done k i hi h0 h1 h2 hq
    subst hi
    simp only [List.length_cons] at h1 h2
    have ih := ih (done ++ [k]) (k + 1) (done.length + 1) (by simp) (by omega) (by omega) (by simp; omega)
    refine run_loop_at laws_markIntS.l0.eq_1 ?_
    simp (disch := omega) [ip, wr, markText]
    refine run_env (ih (run_env hq ?_)) ?_
    · simp [markInts] <;> omega
    · simp [Nat.add_comm] <;> omega
theorem markIntS (xs : List Int) (k : Int) (h0 : 0 ≤ k) (h1 : k + (xs.length : Int) ≤ 1000000000000000) : A 89 [.leaf (Kints true (xs)), .leaf (.int .i64 k)] = some ([.leaf (.int .i64 (k + (xs.length : Int)))], [.leaf (Kints true (markInts k xs)), .gone]) := by
  refine run_laws_markIntS ?_
  simp [laws_markIntS.b]
  refine markIntS_loop _ _ xs [] k 0 (by simp) h0 h1 (by simp; omega) ?_
  simp
theorem toIntS_loop (ks : List Fr) (Q : VX → Env → Prop) : ∀ (rest done : List Int) (i : Int), i = done.length → (done.length : Int) + rest.length ≤ 1048576 → (0 : Int) ≤ 1048576 →
    Run G A (.exit 0) [(0, .v (.leaf (Kints false (done ++ rest)))), (3, .v (.leaf (Kints true (done ++ rest)))), (4, .v (.leaf (.int .i64 (done.length + rest.length)))), (11, .v (.leaf (.bool false)))] ks Q →
    Run G A (.loop laws_toIntS.l0) [(0, .v (.leaf (Kints false (done ++ rest)))), (3, .v (.leaf (.sl true 1 (done.map (fun n : Int => [L.int .i64 n]) ++ List.replicate rest.length [.int .i64 0])))), (4, .v (.leaf (.int .i64 i)))] ks Q := by
  intro rest
  induction rest with
  | nil =>
    intro done i hi h1 hu hq
    subst hi
    refine run_loop_at laws_toIntS.l0.eq_1 ?_
    simpa using hq
  | cons x rest ih =>
    intro done i hi h1 hu hq
    subst hi
    simp only [List.length_cons] at h1 hu
    have ih := ih (done ++ [x]) (done.length + 1) (by simp) (by simp; omega) (by omega)
    refine run_loop_at laws_toIntS.l0.eq_1 ?_
    simp (disch := omega) [ip, wr, get_mid, List.replicate_succ]
    refine run_env (ih (run_env hq ?_)) ?_
    · simp <;> omega
    · simp
theorem toIntS (xs : List Int) (h : (xs.length : Int) ≤ 1048576) : A 116 [.leaf (Kints false (xs))] = some ([.leaf (Kints true (xs))], [.gone]) := by
  refine run_laws_toIntS ?_
  simp (disch := omega) [ip, wr, laws_toIntS.b]
  refine run_env (toIntS_loop _ _ xs [] 0 (by simp) (by simp; omega) (by omega) ?_) ?_
  · simp
  · simp
theorem szIntS (xs : List Int) (left : Int) (h0 : 0 ≤ left) (h1 : left ≤ 1000000000000000) (hn : (xs.length : Int) ≤ 1000000000000000) : A 115 [.leaf (Kints false (xs)), .leaf (.int .i64 left)] = some ([.leaf (.int .i64 (szR xs.length left))], [.gone, .gone]) := by
  refine run_laws_szIntS ?_
  by_cases c : (xs.length : Int) ≤ left
  · simp (disch := omega) [ip, wr, laws_szIntS.b, szR_pos, szR_neg]
  · simp (disch := omega) [ip, wr, laws_szIntS.b, szR_pos, szR_neg]
theorem eqStringS_loop (ks : List Fr) (Q : VX → Env → Prop) : ∀ (rest done : List ByteArray) (i : Int), i = done.length → (done.length : Int) + (rest.length : Int) ≤ 1000000000000000 →
    Run G A (.exit 0) [(0, .v (.leaf (Kstrs false (done ++ rest)))), (1, .v (.leaf (Kstrs false (done ++ rest)))), (5, .v (.leaf (.int .i64 (done.length + rest.length)))), (14, .v (.leaf (.bool false)))] ks Q →
    Run G A (.loop laws_eqStringS.l0) [(0, .v (.leaf (Kstrs false (done ++ rest)))), (1, .v (.leaf (Kstrs false (done ++ rest)))), (5, .v (.leaf (.int .i64 i)))] ks Q := by
  intro rest
  induction rest with
  | nil =>
    intro done i hi h1 hq
    subst hi
    refine run_loop_at laws_eqStringS.l0.eq_1 ?_
    simpa using hq
  | cons x rest ih =>
    intro done i hi h1 hq
    subst hi
    simp only [List.length_cons] at h1
    have ih := ih (done ++ [x]) (done.length + 1) (by simp) (by simp; omega)
    refine run_loop_at laws_eqStringS.l0.eq_1 ?_
    simp (disch := omega) [ip, wr, eqIntS, get_mid]
    refine run_env (ih (run_env hq ?_)) ?_
    · simp <;> omega
    · simp
theorem eqStringS (xs : List ByteArray) (h : (xs.length : Int) ≤ 1000000000000000) : A 12 [.leaf (Kstrs false (xs)), .leaf (Kstrs false (xs))] = some ([.leaf (.bool true)], [.gone, .gone]) := by
  refine run_laws_eqStringS ?_
  simp [laws_eqStringS.b]
  refine eqStringS_loop _ _ xs [] 0 (by simp) (by simp; omega) ?_
  simp
theorem markStringS_loop (ks : List Fr) (Q : VX → Env → Prop) : ∀ (rest done : List ByteArray) (k i : Int), i = done.length → 0 ≤ k → k + (rest.length : Int) ≤ 1000000000000000 → (done.length : Int) + (rest.length : Int) ≤ 1000000000000000 →
    Run G A (.exit 0) [(0, .v (.leaf (Kstrs true (done ++ markStrs k rest)))), (1, .v (.leaf (.int .i64 (k + (rest.length : Int))))), (5, .v (.leaf (.int .i64 (done.length + rest.length)))), (9, .v (.leaf (.bool false)))] ks Q →
    Run G A (.loop laws_markStringS.l0) [(0, .v (.leaf (Kstrs true (done ++ rest)))), (1, .v (.leaf (.int .i64 k))), (5, .v (.leaf (.int .i64 i)))] ks Q := by
  intro rest
  induction rest with
  | nil =>
    intro done k i hi h0 h1 h2 hq
    subst hi
    refine run_loop_at laws_markStringS.l0.eq_1 ?_
    simpa [markStrs] using hq
  | cons x rest ih =>
    intro done k i hi h0 h1 h2 hq
    subst hi
    simp only [List.length_cons] at h1 h2
    have ih := ih (done ++ [mtext k]) (k + 1) (done.length + 1) (by simp) (by omega) (by omega) (by simp; omega)
    refine run_loop_at laws_markStringS.l0.eq_1 ?_
    simp (disch := omega) [ip, wr, markText, markIntS]
    refine run_env (ih (run_env hq ?_)) ?_
    · simp [markStrs] <;> omega
    · simp [Nat.add_comm] <;> omega
theorem markStringS (xs : List ByteArray) (k : Int) (h0 : 0 ≤ k) (h1 : k + (xs.length : Int) ≤ 1000000000000000) : A 14 [.leaf (Kstrs true (xs)), .leaf (.int .i64 k)] = some ([.leaf (.int .i64 (k + (xs.length : Int)))], [.leaf (Kstrs true (markStrs k xs)), .gone]) := by
  refine run_laws_markStringS ?_
  simp [laws_markStringS.b]
  refine markStringS_loop _ _ xs [] k 0 (by simp) h0 h1 (by simp; omega) ?_
  simp
theorem toStringS_loop (ks : List Fr) (Q : VX → Env → Prop) : ∀ (rest done : List ByteArray) (i : Int), i = done.length → (done.length : Int) + rest.length ≤ 1048576 → (strsU rest : Int) ≤ 1048576 →
    Run G A (.exit 0) [(0, .v (.leaf (Kstrs false (done ++ rest)))), (3, .v (.leaf (Kstrs true (done ++ rest)))), (4, .v (.leaf (.int .i64 (done.length + rest.length)))), (11, .v (.leaf (.bool false)))] ks Q →
    Run G A (.loop laws_toStringS.l0) [(0, .v (.leaf (Kstrs false (done ++ rest)))), (3, .v (.leaf (.sl true 1 (done.map (fun s : ByteArray => [L.str s]) ++ List.replicate rest.length [.str ⟨#[]⟩])))), (4, .v (.leaf (.int .i64 i)))] ks Q := by
  intro rest
  induction rest with
  | nil =>
    intro done i hi h1 hu hq
    subst hi
    refine run_loop_at laws_toStringS.l0.eq_1 ?_
    simpa using hq
  | cons x rest ih =>
    intro done i hi h1 hu hq
    subst hi
    simp only [strsU, List.length_cons] at h1 hu
    have ih := ih (done ++ [x]) (done.length + 1) (by simp) (by simp; omega) (by omega)
    refine run_loop_at laws_toStringS.l0.eq_1 ?_
    simp (disch := omega) [ip, wr, toIntS, get_mid, List.replicate_succ]
    refine run_env (ih (run_env hq ?_)) ?_
    · simp <;> omega
    · simp
theorem toStringS (xs : List ByteArray) (h : ((xs.length + strsU xs) : Int) ≤ 1048576) : A 8 [.leaf (Kstrs false (xs))] = some ([.leaf (Kstrs true (xs))], [.gone]) := by
  refine run_laws_toStringS ?_
  simp (disch := omega) [ip, wr, laws_toStringS.b]
  refine run_env (toStringS_loop _ _ xs [] 0 (by simp) (by simp; omega) (by omega) ?_) ?_
  · simp
  · simp
theorem szStringS_loop (ks : List Fr) (Q : VX → Env → Prop) : ∀ (rest done : List ByteArray) (l i : Int), i = done.length → 0 ≤ l → l ≤ 1000000000000000 → (done.length : Int) + rest.length ≤ 1000000000000000 → strsFit rest →
    ((strsU rest : Int) ≤ l → Run G A (.exit 0) [(0, .v (.leaf (Kstrs false (done ++ rest)))), (1, .v (.leaf (.int .i64 (l - strsU rest)))), (5, .v (.leaf (.int .i64 (done.length + rest.length)))), (15, .v (.leaf (.bool false)))] ks Q) →
    (l < strsU rest → Run G A .ret [(4, .v (.leaf (.int .i64 (-1))))] ks Q) →
    Run G A (.loop laws_szStringS.l0) [(0, .v (.leaf (Kstrs false (done ++ rest)))), (1, .v (.leaf (.int .i64 l))), (5, .v (.leaf (.int .i64 i)))] ks Q := by
  intro rest
  induction rest with
  | nil =>
    intro done l i hi h0 h1 hn hf hq hr
    subst hi
    refine run_loop_at laws_szStringS.l0.eq_1 ?_
    simpa [strsU] using hq (by simp [strsU]; omega)
  | cons x rest ih =>
    intro done l i hi h0 h1 hn hf hq hr
    subst hi
    simp only [strsU, List.length_cons, Int.natCast_add] at hn hq hr
    refine run_loop_at laws_szStringS.l0.eq_1 ?_
    simp only [strsFit] at hf
    have hf1 := hf.1
    by_cases c : ((x.size : Nat) : Int) ≤ l
    · have ih := ih (done ++ [x]) (l - ↑(x.size)) (done.length + 1) (by simp) (by omega) (by omega) (by simp; omega) hf.2
      simp (disch := omega) [ip, wr, get_mid, szR_pos, szR_neg]
      refine run_env (ih (fun g => run_env (hq (by omega)) ?_) (fun g => hr (by omega))) ?_
      · simp <;> omega
      · simp
    · have hr := hr (by omega)
      simp (disch := omega) [ip, wr, get_mid, szR_pos, szR_neg]
      first | exact hr | simpa using hr
theorem szStringS (xs : List ByteArray) (left : Int) (h0 : 0 ≤ left) (h1 : left ≤ 1000000000000000) (hn : (xs.length : Int) ≤ 1000000000000000) (hf : strsFit xs) : A 5 [.leaf (Kstrs false (xs)), .leaf (.int .i64 left)] = some ([.leaf (.int .i64 (szR ↑(xs.length + strsU xs) left))], [.gone, .gone]) := by
  refine run_laws_szStringS ?_
  by_cases c : (xs.length : Int) ≤ left
  · simp (disch := omega) [ip, wr, laws_szStringS.b]
    refine run_env (szStringS_loop _ _ xs [] (left - xs.length) 0 (by simp) (by omega) (by omega) (by simp; omega) hf (fun g => ?_) (fun g => ?_)) ?_
    · have g2 : ((xs.length + strsU xs : Nat) : Int) ≤ left := by omega
      simp (disch := omega) [ip, wr, laws_szStringS.b, szR_pos, szR_neg]
      omega
    · have g2 : left < ((xs.length + strsU xs : Nat) : Int) := by omega
      simp (disch := omega) [ip, wr, laws_szStringS.b, szR_pos, szR_neg]
    · simp
  · have g2 : left < ((xs.length + strsU xs : Nat) : Int) := by omega
    simp (disch := omega) [ip, wr, laws_szStringS.b, szR_pos, szR_neg]
theorem eqNode (x : KNode) (h : (x.names.length : Int) ≤ 1000000000000000 ∧ (x.args.length : Int) ≤ 1000000000000000) : A 114 [.agg (KNode.row false x), .agg (KNode.row false x)] = some ([.leaf (.bool true)], [.gone, .gone]) := by
  refine run_laws_eqNode ?_
  simp (disch := omega) [ip, wr, laws_eqNode.b, eqIntS, eqStringS]
theorem toNode (x : KNode) (h : (KNode.w x : Int) ≤ 1048576) : A 106 [.agg (KNode.row false x)] = some ([.agg (KNode.row true x)], [.gone]) := by
  simp only [KNode.w] at h
  refine run_laws_toNode ?_
  simp (disch := omega) [ip, wr, laws_toNode.b, toIntS, toStringS]
theorem szNode (x : KNode) (left : Int) (h0 : 0 ≤ left) (h1 : left ≤ 1000000000000000) (hf : KNode.fit x) : A 103 [.agg (KNode.row false x), .leaf (.int .i64 left)] = some ([.leaf (.int .i64 (szR ↑(KNode.w x) left))], [.gone, .gone]) := by
  obtain ⟨f1, f2, f3, f4, -⟩ := hf
  have e0 := fun l a b => szStringS x.names l a b f2 f3
  have e1 := fun l a b => szIntS x.args l a b f4
  simp only [KNode.w, Int.natCast_add]
  refine run_laws_szNode ?_
  by_cases c0 : ((x.s.size : Nat) : Int) ≤ left
  · by_cases c1 : ((x.s.size : Nat) : Int) + (((x.names.length + strsU x.names) : Nat) : Int) ≤ left
    · by_cases c2 : ((x.s.size : Nat) : Int) + (((x.names.length + strsU x.names) : Nat) : Int) + ((x.args.length : Nat) : Int) ≤ left
      · simp (disch := omega) [ip, wr, laws_szNode.b, e0, e1, szR_pos, szR_neg] <;> omega
      · simp (disch := omega) [ip, wr, laws_szNode.b, e0, e1, szR_pos, szR_neg] <;> omega
    · simp (disch := omega) [ip, wr, laws_szNode.b, e0, e1, szR_pos, szR_neg] <;> omega
  · simp (disch := omega) [ip, wr, laws_szNode.b, e0, e1, szR_pos, szR_neg] <;> omega
theorem eqNodeS_loop (ks : List Fr) (Q : VX → Env → Prop) : ∀ (rest done : List KNode) (i : Int), i = done.length → (done.length : Int) + (KNode.cnts rest : Int) ≤ 1000000000000000 →
    Run G A (.exit 0) [(0, .v (.leaf (KNode.sl false (done ++ rest)))), (1, .v (.leaf (KNode.sl false (done ++ rest)))), (5, .v (.leaf (.int .i64 (done.length + rest.length)))), (14, .v (.leaf (.bool false)))] ks Q →
    Run G A (.loop laws_eqNodeS.l0) [(0, .v (.leaf (KNode.sl false (done ++ rest)))), (1, .v (.leaf (KNode.sl false (done ++ rest)))), (5, .v (.leaf (.int .i64 i)))] ks Q := by
  intro rest
  induction rest with
  | nil =>
    intro done i hi h1 hq
    subst hi
    refine run_loop_at laws_eqNodeS.l0.eq_1 ?_
    simpa using hq
  | cons x rest ih =>
    intro done i hi h1 hq
    subst hi
    simp only [KNode.cnts, KNode.cnt, List.length_cons] at h1
    have := KNode.len_le rest
    have ih := ih (done ++ [x]) (done.length + 1) (by simp) (by simp; omega)
    refine run_loop_at laws_eqNodeS.l0.eq_1 ?_
    simp (disch := omega) [ip, wr, eqIntS, eqStringS, eqNode, get_mid]
    refine run_env (ih (run_env hq ?_)) ?_
    · simp <;> omega
    · simp
theorem eqNodeS (xs : List KNode) (h : (KNode.cnts xs : Int) ≤ 1000000000000000) : A 102 [.leaf (KNode.sl false (xs)), .leaf (KNode.sl false (xs))] = some ([.leaf (.bool true)], [.gone, .gone]) := by
  refine run_laws_eqNodeS ?_
  have := KNode.len_le xs
  simp [laws_eqNodeS.b]
  refine eqNodeS_loop _ _ xs [] 0 (by simp) (by simp; omega) ?_
  simp
theorem markNodeS_loop (ks : List Fr) (Q : VX → Env → Prop) : ∀ (rest done : List KNode) (k i : Int), i = done.length → 0 ≤ k → k + (KNode.cnts rest : Int) ≤ 1000000000000000 → (done.length : Int) + (KNode.cnts rest : Int) ≤ 1000000000000000 →
    Run G A (.exit 0) [(0, .v (.leaf (KNode.sl true (done ++ KNode.marks k rest)))), (1, .v (.leaf (.int .i64 (k + (KNode.cnts rest : Int))))), (5, .v (.leaf (.int .i64 (done.length + rest.length)))), (9, .v (.leaf (.bool false)))] ks Q →
    Run G A (.loop laws_markNodeS.l0) [(0, .v (.leaf (KNode.sl true (done ++ rest)))), (1, .v (.leaf (.int .i64 k))), (5, .v (.leaf (.int .i64 i)))] ks Q := by
  intro rest
  induction rest with
  | nil =>
    intro done k i hi h0 h1 h2 hq
    subst hi
    refine run_loop_at laws_markNodeS.l0.eq_1 ?_
    simpa [KNode.marks, KNode.cnts, KNode.cnt] using hq
  | cons x rest ih =>
    intro done k i hi h0 h1 h2 hq
    subst hi
    simp only [KNode.cnts, KNode.cnt, List.length_cons] at h1 h2
    have := KNode.len_le rest
    have ih := ih (done ++ [KNode.mark k x]) (k + (KNode.cnt x : Int)) (done.length + 1) (by simp) (by simp only [KNode.cnt]; omega) (by simp only [KNode.cnt]; omega) (by simp [KNode.cnt]; omega)
    refine run_loop_at laws_markNodeS.l0.eq_1 ?_
    simp (disch := omega) [ip, wr, markText, markIntS, markStringS]
    refine run_env (ih (run_env hq ?_)) ?_
    · simp [KNode.marks, KNode.cnts, KNode.cnt] <;> omega
    · simp [KNode.mark, KNode.cnts, KNode.cnt] <;> omega
theorem markNodeS (xs : List KNode) (k : Int) (h0 : 0 ≤ k) (h1 : k + (KNode.cnts xs : Int) ≤ 1000000000000000) : A 68 [.leaf (KNode.sl true (xs)), .leaf (.int .i64 k)] = some ([.leaf (.int .i64 (k + (KNode.cnts xs : Int)))], [.leaf (KNode.sl true (KNode.marks k xs)), .gone]) := by
  refine run_laws_markNodeS ?_
  simp [laws_markNodeS.b]
  refine markNodeS_loop _ _ xs [] k 0 (by simp) h0 h1 (by simp; omega) ?_
  simp
theorem toNodeS_loop (ks : List Fr) (Q : VX → Env → Prop) : ∀ (rest done : List KNode) (i : Int), i = done.length → (done.length : Int) + rest.length ≤ 1048576 → (KNode.us rest : Int) ≤ 1048576 →
    Run G A (.exit 0) [(0, .v (.leaf (KNode.sl false (done ++ rest)))), (3, .v (.leaf (KNode.sl true (done ++ rest)))), (4, .v (.leaf (.int .i64 (done.length + rest.length)))), (11, .v (.leaf (.bool false)))] ks Q →
    Run G A (.loop laws_toNodeS.l0) [(0, .v (.leaf (KNode.sl false (done ++ rest)))), (3, .v (.leaf (.sl true 5 (done.map (KNode.row true) ++ List.replicate rest.length [.int .i64 0, .int .i64 0, .str ⟨#[]⟩, .sl true 1 [], .sl true 1 []])))), (4, .v (.leaf (.int .i64 i)))] ks Q := by
  intro rest
  induction rest with
  | nil =>
    intro done i hi h1 hu hq
    subst hi
    refine run_loop_at laws_toNodeS.l0.eq_1 ?_
    simpa using hq
  | cons x rest ih =>
    intro done i hi h1 hu hq
    subst hi
    simp only [KNode.us, List.length_cons] at h1 hu
    have ih := ih (done ++ [x]) (done.length + 1) (by simp) (by simp; omega) (by omega)
    refine run_loop_at laws_toNodeS.l0.eq_1 ?_
    simp (disch := omega) [ip, wr, toIntS, toStringS, toNode, get_mid, List.replicate_succ]
    refine run_env (ih (run_env hq ?_)) ?_
    · simp <;> omega
    · simp
theorem toNodeS (xs : List KNode) (h : ((xs.length + KNode.us xs) : Int) ≤ 1048576) : A 96 [.leaf (KNode.sl false (xs))] = some ([.leaf (KNode.sl true (xs))], [.gone]) := by
  refine run_laws_toNodeS ?_
  simp (disch := omega) [ip, wr, laws_toNodeS.b]
  refine run_env (toNodeS_loop _ _ xs [] 0 (by simp) (by simp; omega) (by omega) ?_) ?_
  · simp
  · simp
theorem szNodeS_loop (ks : List Fr) (Q : VX → Env → Prop) : ∀ (rest done : List KNode) (l i : Int), i = done.length → 0 ≤ l → l ≤ 1000000000000000 → (done.length : Int) + rest.length ≤ 1000000000000000 → KNode.fits rest →
    ((KNode.us rest : Int) ≤ l → Run G A (.exit 0) [(0, .v (.leaf (KNode.sl false (done ++ rest)))), (1, .v (.leaf (.int .i64 (l - KNode.us rest)))), (5, .v (.leaf (.int .i64 (done.length + rest.length)))), (15, .v (.leaf (.bool false)))] ks Q) →
    (l < KNode.us rest → Run G A .ret [(4, .v (.leaf (.int .i64 (-1))))] ks Q) →
    Run G A (.loop laws_szNodeS.l0) [(0, .v (.leaf (KNode.sl false (done ++ rest)))), (1, .v (.leaf (.int .i64 l))), (5, .v (.leaf (.int .i64 i)))] ks Q := by
  intro rest
  induction rest with
  | nil =>
    intro done l i hi h0 h1 hn hf hq hr
    subst hi
    refine run_loop_at laws_szNodeS.l0.eq_1 ?_
    simpa [KNode.us] using hq (by simp [KNode.us]; omega)
  | cons x rest ih =>
    intro done l i hi h0 h1 hn hf hq hr
    subst hi
    simp only [KNode.us, List.length_cons, Int.natCast_add] at hn hq hr
    refine run_loop_at laws_szNodeS.l0.eq_1 ?_
    simp only [KNode.fits] at hf
    have e1 := fun l a b => szNode x l a b hf.1
    by_cases c : ((KNode.w x : Nat) : Int) ≤ l
    · have ih := ih (done ++ [x]) (l - ↑(KNode.w x)) (done.length + 1) (by simp) (by omega) (by omega) (by simp; omega) hf.2
      simp (disch := omega) [ip, wr, e1, get_mid, szR_pos, szR_neg]
      refine run_env (ih (fun g => run_env (hq (by omega)) ?_) (fun g => hr (by omega))) ?_
      · simp <;> omega
      · simp
    · have hr := hr (by omega)
      simp (disch := omega) [ip, wr, e1, get_mid, szR_pos, szR_neg]
      first | exact hr | simpa using hr
theorem szNodeS (xs : List KNode) (left : Int) (h0 : 0 ≤ left) (h1 : left ≤ 1000000000000000) (hn : (xs.length : Int) ≤ 1000000000000000) (hf : KNode.fits xs) : A 90 [.leaf (KNode.sl false (xs)), .leaf (.int .i64 left)] = some ([.leaf (.int .i64 (szR ↑(xs.length + KNode.us xs) left))], [.gone, .gone]) := by
  refine run_laws_szNodeS ?_
  by_cases c : (xs.length : Int) ≤ left
  · simp (disch := omega) [ip, wr, laws_szNodeS.b]
    refine run_env (szNodeS_loop _ _ xs [] (left - xs.length) 0 (by simp) (by omega) (by omega) (by simp; omega) hf (fun g => ?_) (fun g => ?_)) ?_
    · have g2 : ((xs.length + KNode.us xs : Nat) : Int) ≤ left := by omega
      simp (disch := omega) [ip, wr, laws_szNodeS.b, szR_pos, szR_neg]
      omega
    · have g2 : left < ((xs.length + KNode.us xs : Nat) : Int) := by omega
      simp (disch := omega) [ip, wr, laws_szNodeS.b, szR_pos, szR_neg]
    · simp
  · have g2 : left < ((xs.length + KNode.us xs : Nat) : Int) := by omega
    simp (disch := omega) [ip, wr, laws_szNodeS.b, szR_pos, szR_neg]
theorem eqProg (x : KProg) (h : (KNode.cnts x.nodes : Int) ≤ 1000000000000000) : A 88 [.agg (KProg.row false x), .agg (KProg.row false x)] = some ([.leaf (.bool true)], [.gone, .gone]) := by
  refine run_laws_eqProg ?_
  simp (disch := omega) [ip, wr, laws_eqProg.b, eqIntS, eqStringS, eqNode, eqNodeS]
theorem toProg (x : KProg) (h : (KProg.w x : Int) ≤ 1048576) : A 75 [.agg (KProg.row false x)] = some ([.agg (KProg.row true x)], [.gone]) := by
  simp only [KProg.w] at h
  refine run_laws_toProg ?_
  simp (disch := omega) [ip, wr, laws_toProg.b, toIntS, toStringS, toNode, toNodeS]
theorem szProg (x : KProg) (left : Int) (h0 : 0 ≤ left) (h1 : left ≤ 1000000000000000) (hf : KProg.fit x) : A 69 [.agg (KProg.row false x), .leaf (.int .i64 left)] = some ([.leaf (.int .i64 (szR ↑(KProg.w x) left))], [.gone, .gone]) := by
  obtain ⟨f1, f2, -⟩ := hf
  have e0 := fun l a b => szNodeS x.nodes l a b f1 f2
  simp only [KProg.w, Int.natCast_add]
  refine run_laws_szProg ?_
  by_cases c0 : (((x.nodes.length + KNode.us x.nodes) : Nat) : Int) ≤ left
  · simp (disch := omega) [ip, wr, laws_szProg.b, e0, szR_pos, szR_neg] <;> omega
  · simp (disch := omega) [ip, wr, laws_szProg.b, e0, szR_pos, szR_neg] <;> omega
theorem eqType (x : KType) : A 66 [.agg (KType.row false x), .agg (KType.row false x)] = some ([.leaf (.bool true)], [.gone, .gone]) := by
  refine run_laws_eqType ?_
  simp (disch := omega) [ip, wr, laws_eqType.b, eqIntS, eqStringS, eqNode, eqNodeS, eqProg]
theorem toType (x : KType) (h : (KType.w x : Int) ≤ 1048576) : A 52 [.agg (KType.row false x)] = some ([.agg (KType.row true x)], [.gone]) := by
  simp only [KType.w] at h
  refine run_laws_toType ?_
  simp (disch := omega) [ip, wr, laws_toType.b, toIntS, toStringS, toNode, toNodeS, toProg]
theorem szType (x : KType) (left : Int) (h0 : 0 ≤ left) (h1 : left ≤ 1000000000000000) (hf : KType.fit x) : A 42 [.agg (KType.row false x), .leaf (.int .i64 left)] = some ([.leaf (.int .i64 (szR ↑(KType.w x) left))], [.gone, .gone]) := by
  obtain ⟨f1, -⟩ := hf
  simp only [KType.w, Int.natCast_add]
  refine run_laws_szType ?_
  by_cases c0 : ((x.name.size : Nat) : Int) ≤ left
  · simp (disch := omega) [ip, wr, laws_szType.b, szR_pos, szR_neg] <;> omega
  · simp (disch := omega) [ip, wr, laws_szType.b, szR_pos, szR_neg] <;> omega
theorem eqTypeS_loop (ks : List Fr) (Q : VX → Env → Prop) : ∀ (rest done : List KType) (i : Int), i = done.length → (done.length : Int) + (KType.cnts rest : Int) ≤ 1000000000000000 →
    Run G A (.exit 0) [(0, .v (.leaf (KType.sl false (done ++ rest)))), (1, .v (.leaf (KType.sl false (done ++ rest)))), (5, .v (.leaf (.int .i64 (done.length + rest.length)))), (14, .v (.leaf (.bool false)))] ks Q →
    Run G A (.loop laws_eqTypeS.l0) [(0, .v (.leaf (KType.sl false (done ++ rest)))), (1, .v (.leaf (KType.sl false (done ++ rest)))), (5, .v (.leaf (.int .i64 i)))] ks Q := by
  intro rest
  induction rest with
  | nil =>
    intro done i hi h1 hq
    subst hi
    refine run_loop_at laws_eqTypeS.l0.eq_1 ?_
    simpa using hq
  | cons x rest ih =>
    intro done i hi h1 hq
    subst hi
    simp only [KType.cnts, KType.cnt, List.length_cons] at h1
    have := KType.len_le rest
    have ih := ih (done ++ [x]) (done.length + 1) (by simp) (by simp; omega)
    refine run_loop_at laws_eqTypeS.l0.eq_1 ?_
    simp (disch := omega) [ip, wr, eqIntS, eqStringS, eqNode, eqNodeS, eqProg, eqType, get_mid]
    refine run_env (ih (run_env hq ?_)) ?_
    · simp <;> omega
    · simp
theorem eqTypeS (xs : List KType) (h : (KType.cnts xs : Int) ≤ 1000000000000000) : A 37 [.leaf (KType.sl false (xs)), .leaf (KType.sl false (xs))] = some ([.leaf (.bool true)], [.gone, .gone]) := by
  refine run_laws_eqTypeS ?_
  have := KType.len_le xs
  simp [laws_eqTypeS.b]
  refine eqTypeS_loop _ _ xs [] 0 (by simp) (by simp; omega) ?_
  simp
theorem markTypeS_loop (ks : List Fr) (Q : VX → Env → Prop) : ∀ (rest done : List KType) (k i : Int), i = done.length → 0 ≤ k → k + (KType.cnts rest : Int) ≤ 1000000000000000 → (done.length : Int) + (KType.cnts rest : Int) ≤ 1000000000000000 →
    Run G A (.exit 0) [(0, .v (.leaf (KType.sl true (done ++ KType.marks k rest)))), (1, .v (.leaf (.int .i64 (k + (KType.cnts rest : Int))))), (5, .v (.leaf (.int .i64 (done.length + rest.length)))), (9, .v (.leaf (.bool false)))] ks Q →
    Run G A (.loop laws_markTypeS.l0) [(0, .v (.leaf (KType.sl true (done ++ rest)))), (1, .v (.leaf (.int .i64 k))), (5, .v (.leaf (.int .i64 i)))] ks Q := by
  intro rest
  induction rest with
  | nil =>
    intro done k i hi h0 h1 h2 hq
    subst hi
    refine run_loop_at laws_markTypeS.l0.eq_1 ?_
    simpa [KType.marks, KType.cnts, KType.cnt] using hq
  | cons x rest ih =>
    intro done k i hi h0 h1 h2 hq
    subst hi
    simp only [KType.cnts, KType.cnt, List.length_cons] at h1 h2
    have := KType.len_le rest
    have ih := ih (done ++ [KType.mark k x]) (k + (KType.cnt x : Int)) (done.length + 1) (by simp) (by simp only [KType.cnt]; omega) (by simp only [KType.cnt]; omega) (by simp [KType.cnt]; omega)
    refine run_loop_at laws_markTypeS.l0.eq_1 ?_
    simp (disch := omega) [ip, wr, markText, markIntS, markStringS, markNodeS]
    refine run_env (ih (run_env hq ?_)) ?_
    · simp [KType.marks, KType.cnts, KType.cnt] <;> omega
    · simp [KType.mark, KType.cnts, KType.cnt] <;> omega
theorem markTypeS (xs : List KType) (k : Int) (h0 : 0 ≤ k) (h1 : k + (KType.cnts xs : Int) ≤ 1000000000000000) : A 39 [.leaf (KType.sl true (xs)), .leaf (.int .i64 k)] = some ([.leaf (.int .i64 (k + (KType.cnts xs : Int)))], [.leaf (KType.sl true (KType.marks k xs)), .gone]) := by
  refine run_laws_markTypeS ?_
  simp [laws_markTypeS.b]
  refine markTypeS_loop _ _ xs [] k 0 (by simp) h0 h1 (by simp; omega) ?_
  simp
theorem toTypeS_loop (ks : List Fr) (Q : VX → Env → Prop) : ∀ (rest done : List KType) (i : Int), i = done.length → (done.length : Int) + rest.length ≤ 1048576 → (KType.us rest : Int) ≤ 1048576 →
    Run G A (.exit 0) [(0, .v (.leaf (KType.sl false (done ++ rest)))), (3, .v (.leaf (KType.sl true (done ++ rest)))), (4, .v (.leaf (.int .i64 (done.length + rest.length)))), (11, .v (.leaf (.bool false)))] ks Q →
    Run G A (.loop laws_toTypeS.l0) [(0, .v (.leaf (KType.sl false (done ++ rest)))), (3, .v (.leaf (.sl true 2 (done.map (KType.row true) ++ List.replicate rest.length [.str ⟨#[]⟩, .int .i64 0])))), (4, .v (.leaf (.int .i64 i)))] ks Q := by
  intro rest
  induction rest with
  | nil =>
    intro done i hi h1 hu hq
    subst hi
    refine run_loop_at laws_toTypeS.l0.eq_1 ?_
    simpa using hq
  | cons x rest ih =>
    intro done i hi h1 hu hq
    subst hi
    simp only [KType.us, List.length_cons] at h1 hu
    have ih := ih (done ++ [x]) (done.length + 1) (by simp) (by simp; omega) (by omega)
    refine run_loop_at laws_toTypeS.l0.eq_1 ?_
    simp (disch := omega) [ip, wr, toIntS, toStringS, toNode, toNodeS, toProg, toType, get_mid, List.replicate_succ]
    refine run_env (ih (run_env hq ?_)) ?_
    · simp <;> omega
    · simp
theorem toTypeS (xs : List KType) (h : ((xs.length + KType.us xs) : Int) ≤ 1048576) : A 25 [.leaf (KType.sl false (xs))] = some ([.leaf (KType.sl true (xs))], [.gone]) := by
  refine run_laws_toTypeS ?_
  simp (disch := omega) [ip, wr, laws_toTypeS.b]
  refine run_env (toTypeS_loop _ _ xs [] 0 (by simp) (by simp; omega) (by omega) ?_) ?_
  · simp
  · simp
theorem szTypeS_loop (ks : List Fr) (Q : VX → Env → Prop) : ∀ (rest done : List KType) (l i : Int), i = done.length → 0 ≤ l → l ≤ 1000000000000000 → (done.length : Int) + rest.length ≤ 1000000000000000 → KType.fits rest →
    ((KType.us rest : Int) ≤ l → Run G A (.exit 0) [(0, .v (.leaf (KType.sl false (done ++ rest)))), (1, .v (.leaf (.int .i64 (l - KType.us rest)))), (5, .v (.leaf (.int .i64 (done.length + rest.length)))), (15, .v (.leaf (.bool false)))] ks Q) →
    (l < KType.us rest → Run G A .ret [(4, .v (.leaf (.int .i64 (-1))))] ks Q) →
    Run G A (.loop laws_szTypeS.l0) [(0, .v (.leaf (KType.sl false (done ++ rest)))), (1, .v (.leaf (.int .i64 l))), (5, .v (.leaf (.int .i64 i)))] ks Q := by
  intro rest
  induction rest with
  | nil =>
    intro done l i hi h0 h1 hn hf hq hr
    subst hi
    refine run_loop_at laws_szTypeS.l0.eq_1 ?_
    simpa [KType.us] using hq (by simp [KType.us]; omega)
  | cons x rest ih =>
    intro done l i hi h0 h1 hn hf hq hr
    subst hi
    simp only [KType.us, List.length_cons, Int.natCast_add] at hn hq hr
    refine run_loop_at laws_szTypeS.l0.eq_1 ?_
    simp only [KType.fits] at hf
    have e1 := fun l a b => szType x l a b hf.1
    by_cases c : ((KType.w x : Nat) : Int) ≤ l
    · have ih := ih (done ++ [x]) (l - ↑(KType.w x)) (done.length + 1) (by simp) (by omega) (by omega) (by simp; omega) hf.2
      simp (disch := omega) [ip, wr, e1, get_mid, szR_pos, szR_neg]
      refine run_env (ih (fun g => run_env (hq (by omega)) ?_) (fun g => hr (by omega))) ?_
      · simp <;> omega
      · simp
    · have hr := hr (by omega)
      simp (disch := omega) [ip, wr, e1, get_mid, szR_pos, szR_neg]
      first | exact hr | simpa using hr
theorem szTypeS (xs : List KType) (left : Int) (h0 : 0 ≤ left) (h1 : left ≤ 1000000000000000) (hn : (xs.length : Int) ≤ 1000000000000000) (hf : KType.fits xs) : A 17 [.leaf (KType.sl false (xs)), .leaf (.int .i64 left)] = some ([.leaf (.int .i64 (szR ↑(xs.length + KType.us xs) left))], [.gone, .gone]) := by
  refine run_laws_szTypeS ?_
  by_cases c : (xs.length : Int) ≤ left
  · simp (disch := omega) [ip, wr, laws_szTypeS.b]
    refine run_env (szTypeS_loop _ _ xs [] (left - xs.length) 0 (by simp) (by omega) (by omega) (by simp; omega) hf (fun g => ?_) (fun g => ?_)) ?_
    · have g2 : ((xs.length + KType.us xs : Nat) : Int) ≤ left := by omega
      simp (disch := omega) [ip, wr, laws_szTypeS.b, szR_pos, szR_neg]
      omega
    · have g2 : left < ((xs.length + KType.us xs : Nat) : Int) := by omega
      simp (disch := omega) [ip, wr, laws_szTypeS.b, szR_pos, szR_neg]
    · simp
  · have g2 : left < ((xs.length + KType.us xs : Nat) : Int) := by omega
    simp (disch := omega) [ip, wr, laws_szTypeS.b, szR_pos, szR_neg]
theorem eqDef (x : KDef) (h : (KNode.cnts x.prog.nodes : Int) ≤ 1000000000000000) : A 67 [.agg (KDef.row false x), .agg (KDef.row false x)] = some ([.leaf (.bool true)], [.gone, .gone]) := by
  refine run_laws_eqDef ?_
  simp (disch := omega) [ip, wr, laws_eqDef.b, eqIntS, eqStringS, eqNode, eqNodeS, eqProg, eqType, eqTypeS]
theorem toDef (x : KDef) (h : (KDef.w x : Int) ≤ 1048576) : A 53 [.agg (KDef.row false x)] = some ([.agg (KDef.row true x)], [.gone]) := by
  simp only [KDef.w] at h
  refine run_laws_toDef ?_
  simp (disch := omega) [ip, wr, laws_toDef.b, toIntS, toStringS, toNode, toNodeS, toProg, toType, toTypeS]
theorem szDef (x : KDef) (left : Int) (h0 : 0 ≤ left) (h1 : left ≤ 1000000000000000) (hf : KDef.fit x) : A 43 [.agg (KDef.row false x), .leaf (.int .i64 left)] = some ([.leaf (.int .i64 (szR ↑(KDef.w x) left))], [.gone, .gone]) := by
  obtain ⟨f1, f2, -⟩ := hf
  have e0 := fun l a b => szProg x.prog l a b f2
  simp only [KDef.w, Int.natCast_add]
  refine run_laws_szDef ?_
  by_cases c0 : ((x.name.size : Nat) : Int) ≤ left
  · by_cases c1 : ((x.name.size : Nat) : Int) + ((KProg.w x.prog : Nat) : Int) ≤ left
    · simp (disch := omega) [ip, wr, laws_szDef.b, e0, szR_pos, szR_neg] <;> omega
    · simp (disch := omega) [ip, wr, laws_szDef.b, e0, szR_pos, szR_neg] <;> omega
  · simp (disch := omega) [ip, wr, laws_szDef.b, e0, szR_pos, szR_neg] <;> omega
theorem eqDefS_loop (ks : List Fr) (Q : VX → Env → Prop) : ∀ (rest done : List KDef) (i : Int), i = done.length → (done.length : Int) + (KDef.cnts rest : Int) ≤ 1000000000000000 →
    Run G A (.exit 0) [(0, .v (.leaf (KDef.sl false (done ++ rest)))), (1, .v (.leaf (KDef.sl false (done ++ rest)))), (5, .v (.leaf (.int .i64 (done.length + rest.length)))), (14, .v (.leaf (.bool false)))] ks Q →
    Run G A (.loop laws_eqDefS.l0) [(0, .v (.leaf (KDef.sl false (done ++ rest)))), (1, .v (.leaf (KDef.sl false (done ++ rest)))), (5, .v (.leaf (.int .i64 i)))] ks Q := by
  intro rest
  induction rest with
  | nil =>
    intro done i hi h1 hq
    subst hi
    refine run_loop_at laws_eqDefS.l0.eq_1 ?_
    simpa using hq
  | cons x rest ih =>
    intro done i hi h1 hq
    subst hi
    simp only [KDef.cnts, KDef.cnt, List.length_cons] at h1
    have := KDef.len_le rest
    have ih := ih (done ++ [x]) (done.length + 1) (by simp) (by simp; omega)
    refine run_loop_at laws_eqDefS.l0.eq_1 ?_
    simp (disch := omega) [ip, wr, eqIntS, eqStringS, eqNode, eqNodeS, eqProg, eqType, eqTypeS, eqDef, get_mid]
    refine run_env (ih (run_env hq ?_)) ?_
    · simp <;> omega
    · simp
theorem eqDefS (xs : List KDef) (h : (KDef.cnts xs : Int) ≤ 1000000000000000) : A 38 [.leaf (KDef.sl false (xs)), .leaf (KDef.sl false (xs))] = some ([.leaf (.bool true)], [.gone, .gone]) := by
  refine run_laws_eqDefS ?_
  have := KDef.len_le xs
  simp [laws_eqDefS.b]
  refine eqDefS_loop _ _ xs [] 0 (by simp) (by simp; omega) ?_
  simp
theorem markDefS_loop (ks : List Fr) (Q : VX → Env → Prop) : ∀ (rest done : List KDef) (k i : Int), i = done.length → 0 ≤ k → k + (KDef.cnts rest : Int) ≤ 1000000000000000 → (done.length : Int) + (KDef.cnts rest : Int) ≤ 1000000000000000 →
    Run G A (.exit 0) [(0, .v (.leaf (KDef.sl true (done ++ KDef.marks k rest)))), (1, .v (.leaf (.int .i64 (k + (KDef.cnts rest : Int))))), (5, .v (.leaf (.int .i64 (done.length + rest.length)))), (9, .v (.leaf (.bool false)))] ks Q →
    Run G A (.loop laws_markDefS.l0) [(0, .v (.leaf (KDef.sl true (done ++ rest)))), (1, .v (.leaf (.int .i64 k))), (5, .v (.leaf (.int .i64 i)))] ks Q := by
  intro rest
  induction rest with
  | nil =>
    intro done k i hi h0 h1 h2 hq
    subst hi
    refine run_loop_at laws_markDefS.l0.eq_1 ?_
    simpa [KDef.marks, KDef.cnts, KDef.cnt] using hq
  | cons x rest ih =>
    intro done k i hi h0 h1 h2 hq
    subst hi
    simp only [KDef.cnts, KDef.cnt, List.length_cons] at h1 h2
    have := KDef.len_le rest
    have ih := ih (done ++ [KDef.mark k x]) (k + (KDef.cnt x : Int)) (done.length + 1) (by simp) (by simp only [KDef.cnt]; omega) (by simp only [KDef.cnt]; omega) (by simp [KDef.cnt]; omega)
    refine run_loop_at laws_markDefS.l0.eq_1 ?_
    simp (disch := omega) [ip, wr, markText, markIntS, markStringS, markNodeS, markTypeS]
    refine run_env (ih (run_env hq ?_)) ?_
    · simp [KDef.marks, KDef.cnts, KDef.cnt] <;> omega
    · simp [KDef.mark, KDef.cnts, KDef.cnt] <;> omega
theorem markDefS (xs : List KDef) (k : Int) (h0 : 0 ≤ k) (h1 : k + (KDef.cnts xs : Int) ≤ 1000000000000000) : A 40 [.leaf (KDef.sl true (xs)), .leaf (.int .i64 k)] = some ([.leaf (.int .i64 (k + (KDef.cnts xs : Int)))], [.leaf (KDef.sl true (KDef.marks k xs)), .gone]) := by
  refine run_laws_markDefS ?_
  simp [laws_markDefS.b]
  refine markDefS_loop _ _ xs [] k 0 (by simp) h0 h1 (by simp; omega) ?_
  simp
theorem toDefS_loop (ks : List Fr) (Q : VX → Env → Prop) : ∀ (rest done : List KDef) (i : Int), i = done.length → (done.length : Int) + rest.length ≤ 1048576 → (KDef.us rest : Int) ≤ 1048576 →
    Run G A (.exit 0) [(0, .v (.leaf (KDef.sl false (done ++ rest)))), (3, .v (.leaf (KDef.sl true (done ++ rest)))), (4, .v (.leaf (.int .i64 (done.length + rest.length)))), (11, .v (.leaf (.bool false)))] ks Q →
    Run G A (.loop laws_toDefS.l0) [(0, .v (.leaf (KDef.sl false (done ++ rest)))), (3, .v (.leaf (.sl true 3 (done.map (KDef.row true) ++ List.replicate rest.length [.str ⟨#[]⟩, .sl true 5 [], .int .i64 0])))), (4, .v (.leaf (.int .i64 i)))] ks Q := by
  intro rest
  induction rest with
  | nil =>
    intro done i hi h1 hu hq
    subst hi
    refine run_loop_at laws_toDefS.l0.eq_1 ?_
    simpa using hq
  | cons x rest ih =>
    intro done i hi h1 hu hq
    subst hi
    simp only [KDef.us, List.length_cons] at h1 hu
    have ih := ih (done ++ [x]) (done.length + 1) (by simp) (by simp; omega) (by omega)
    refine run_loop_at laws_toDefS.l0.eq_1 ?_
    simp (disch := omega) [ip, wr, toIntS, toStringS, toNode, toNodeS, toProg, toType, toTypeS, toDef, get_mid, List.replicate_succ]
    refine run_env (ih (run_env hq ?_)) ?_
    · simp <;> omega
    · simp
theorem toDefS (xs : List KDef) (h : ((xs.length + KDef.us xs) : Int) ≤ 1048576) : A 26 [.leaf (KDef.sl false (xs))] = some ([.leaf (KDef.sl true (xs))], [.gone]) := by
  refine run_laws_toDefS ?_
  simp (disch := omega) [ip, wr, laws_toDefS.b]
  refine run_env (toDefS_loop _ _ xs [] 0 (by simp) (by simp; omega) (by omega) ?_) ?_
  · simp
  · simp
theorem szDefS_loop (ks : List Fr) (Q : VX → Env → Prop) : ∀ (rest done : List KDef) (l i : Int), i = done.length → 0 ≤ l → l ≤ 1000000000000000 → (done.length : Int) + rest.length ≤ 1000000000000000 → KDef.fits rest →
    ((KDef.us rest : Int) ≤ l → Run G A (.exit 0) [(0, .v (.leaf (KDef.sl false (done ++ rest)))), (1, .v (.leaf (.int .i64 (l - KDef.us rest)))), (5, .v (.leaf (.int .i64 (done.length + rest.length)))), (15, .v (.leaf (.bool false)))] ks Q) →
    (l < KDef.us rest → Run G A .ret [(4, .v (.leaf (.int .i64 (-1))))] ks Q) →
    Run G A (.loop laws_szDefS.l0) [(0, .v (.leaf (KDef.sl false (done ++ rest)))), (1, .v (.leaf (.int .i64 l))), (5, .v (.leaf (.int .i64 i)))] ks Q := by
  intro rest
  induction rest with
  | nil =>
    intro done l i hi h0 h1 hn hf hq hr
    subst hi
    refine run_loop_at laws_szDefS.l0.eq_1 ?_
    simpa [KDef.us] using hq (by simp [KDef.us]; omega)
  | cons x rest ih =>
    intro done l i hi h0 h1 hn hf hq hr
    subst hi
    simp only [KDef.us, List.length_cons, Int.natCast_add] at hn hq hr
    refine run_loop_at laws_szDefS.l0.eq_1 ?_
    simp only [KDef.fits] at hf
    have e1 := fun l a b => szDef x l a b hf.1
    by_cases c : ((KDef.w x : Nat) : Int) ≤ l
    · have ih := ih (done ++ [x]) (l - ↑(KDef.w x)) (done.length + 1) (by simp) (by omega) (by omega) (by simp; omega) hf.2
      simp (disch := omega) [ip, wr, e1, get_mid, szR_pos, szR_neg]
      refine run_env (ih (fun g => run_env (hq (by omega)) ?_) (fun g => hr (by omega))) ?_
      · simp <;> omega
      · simp
    · have hr := hr (by omega)
      simp (disch := omega) [ip, wr, e1, get_mid, szR_pos, szR_neg]
      first | exact hr | simpa using hr
theorem szDefS (xs : List KDef) (left : Int) (h0 : 0 ≤ left) (h1 : left ≤ 1000000000000000) (hn : (xs.length : Int) ≤ 1000000000000000) (hf : KDef.fits xs) : A 18 [.leaf (KDef.sl false (xs)), .leaf (.int .i64 left)] = some ([.leaf (.int .i64 (szR ↑(xs.length + KDef.us xs) left))], [.gone, .gone]) := by
  refine run_laws_szDefS ?_
  by_cases c : (xs.length : Int) ≤ left
  · simp (disch := omega) [ip, wr, laws_szDefS.b]
    refine run_env (szDefS_loop _ _ xs [] (left - xs.length) 0 (by simp) (by omega) (by omega) (by simp; omega) hf (fun g => ?_) (fun g => ?_)) ?_
    · have g2 : ((xs.length + KDef.us xs : Nat) : Int) ≤ left := by omega
      simp (disch := omega) [ip, wr, laws_szDefS.b, szR_pos, szR_neg]
      omega
    · have g2 : left < ((xs.length + KDef.us xs : Nat) : Int) := by omega
      simp (disch := omega) [ip, wr, laws_szDefS.b, szR_pos, szR_neg]
    · simp
  · have g2 : left < ((xs.length + KDef.us xs : Nat) : Int) := by omega
    simp (disch := omega) [ip, wr, laws_szDefS.b, szR_pos, szR_neg]
theorem eqSrc (x : KSrc) (h : (x.imports.length : Int) ≤ 1000000000000000 ∧ (x.exports.length : Int) ≤ 1000000000000000 ∧ (KType.cnts x.types : Int) ≤ 1000000000000000 ∧ (KDef.cnts x.defs : Int) ≤ 1000000000000000 ∧ (KDef.cnts x.convs : Int) ≤ 1000000000000000) : A 11 [.agg (KSrc.row false x), .agg (KSrc.row false x)] = some ([.leaf (.bool true)], [.gone, .gone]) := by
  refine run_laws_eqSrc ?_
  simp (disch := omega) [ip, wr, laws_eqSrc.b, eqIntS, eqStringS, eqNode, eqNodeS, eqProg, eqType, eqTypeS, eqDef, eqDefS]
theorem markSrc (x : KSrc) (k : Int) (h0 : 0 ≤ k) (h1 : k + (KSrc.top x : Int) ≤ 1000000000000000) : A 13 [.agg (KSrc.row true x), .leaf (.int .i64 k)] = some ([.leaf (.int .i64 (k + (KSrc.top x : Int)))], [.agg (KSrc.row true (KSrc.markTop k x)), .gone]) := by
  simp only [KSrc.top] at h1
  refine run_laws_markSrc ?_
  simp (disch := omega) [ip, wr, laws_markSrc.b, markText, markIntS, markStringS, markNodeS, markTypeS, markDefS]
  simp [KSrc.top, KSrc.markTop] <;> omega
theorem toSrc (x : KSrc) (h : (KSrc.w x : Int) ≤ 1048576) : A 7 [.agg (KSrc.row false x)] = some ([.agg (KSrc.row true x)], [.gone]) := by
  simp only [KSrc.w] at h
  refine run_laws_toSrc ?_
  simp (disch := omega) [ip, wr, laws_toSrc.b, toIntS, toStringS, toNode, toNodeS, toProg, toType, toTypeS, toDef, toDefS]
theorem szSrc (x : KSrc) (left : Int) (h0 : 0 ≤ left) (h1 : left ≤ 1000000000000000) (hf : KSrc.fit x) : A 4 [.agg (KSrc.row false x), .leaf (.int .i64 left)] = some ([.leaf (.int .i64 (szR ↑(KSrc.w x) left))], [.gone, .gone]) := by
  obtain ⟨f1, f2, f3, f4, f5, f6, f7, f8, f9, f10, f11, -⟩ := hf
  have e0 := fun l a b => szStringS x.imports l a b f2 f3
  have e1 := fun l a b => szStringS x.exports l a b f4 f5
  have e2 := fun l a b => szTypeS x.types l a b f6 f7
  have e3 := fun l a b => szDefS x.defs l a b f8 f9
  have e4 := fun l a b => szDefS x.convs l a b f10 f11
  simp only [KSrc.w, Int.natCast_add]
  refine run_laws_szSrc ?_
  by_cases c0 : ((x.name.size : Nat) : Int) ≤ left
  · by_cases c1 : ((x.name.size : Nat) : Int) + (((x.imports.length + strsU x.imports) : Nat) : Int) ≤ left
    · by_cases c2 : ((x.name.size : Nat) : Int) + (((x.imports.length + strsU x.imports) : Nat) : Int) + (((x.exports.length + strsU x.exports) : Nat) : Int) ≤ left
      · by_cases c3 : ((x.name.size : Nat) : Int) + (((x.imports.length + strsU x.imports) : Nat) : Int) + (((x.exports.length + strsU x.exports) : Nat) : Int) + (((x.types.length + KType.us x.types) : Nat) : Int) ≤ left
        · by_cases c4 : ((x.name.size : Nat) : Int) + (((x.imports.length + strsU x.imports) : Nat) : Int) + (((x.exports.length + strsU x.exports) : Nat) : Int) + (((x.types.length + KType.us x.types) : Nat) : Int) + (((x.defs.length + KDef.us x.defs) : Nat) : Int) ≤ left
          · by_cases c5 : ((x.name.size : Nat) : Int) + (((x.imports.length + strsU x.imports) : Nat) : Int) + (((x.exports.length + strsU x.exports) : Nat) : Int) + (((x.types.length + KType.us x.types) : Nat) : Int) + (((x.defs.length + KDef.us x.defs) : Nat) : Int) + (((x.convs.length + KDef.us x.convs) : Nat) : Int) ≤ left
            · simp (disch := omega) [ip, wr, laws_szSrc.b, e0, e1, e2, e3, e4, szR_pos, szR_neg] <;> omega
            · simp (disch := omega) [ip, wr, laws_szSrc.b, e0, e1, e2, e3, e4, szR_pos, szR_neg] <;> omega
          · simp (disch := omega) [ip, wr, laws_szSrc.b, e0, e1, e2, e3, e4, szR_pos, szR_neg] <;> omega
        · simp (disch := omega) [ip, wr, laws_szSrc.b, e0, e1, e2, e3, e4, szR_pos, szR_neg] <;> omega
      · simp (disch := omega) [ip, wr, laws_szSrc.b, e0, e1, e2, e3, e4, szR_pos, szR_neg] <;> omega
    · simp (disch := omega) [ip, wr, laws_szSrc.b, e0, e1, e2, e3, e4, szR_pos, szR_neg] <;> omega
  · simp (disch := omega) [ip, wr, laws_szSrc.b, e0, e1, e2, e3, e4, szR_pos, szR_neg] <;> omega
theorem eqNote (x : KNote) : A 36 [.agg (KNote.row false x), .agg (KNote.row false x)] = some ([.leaf (.bool true)], [.gone, .gone]) := by
  refine run_laws_eqNote ?_
  simp (disch := omega) [ip, wr, laws_eqNote.b, eqIntS, eqStringS, eqNode, eqNodeS, eqProg, eqType, eqTypeS, eqDef, eqDefS, eqSrc]
theorem eqNoteS_loop (ks : List Fr) (Q : VX → Env → Prop) : ∀ (rest done : List KNote) (i : Int), i = done.length → (done.length : Int) + (KNote.cnts rest : Int) ≤ 1000000000000000 →
    Run G A (.exit 0) [(0, .v (.leaf (KNote.sl false (done ++ rest)))), (1, .v (.leaf (KNote.sl false (done ++ rest)))), (5, .v (.leaf (.int .i64 (done.length + rest.length)))), (14, .v (.leaf (.bool false)))] ks Q →
    Run G A (.loop laws_eqNoteS.l0) [(0, .v (.leaf (KNote.sl false (done ++ rest)))), (1, .v (.leaf (KNote.sl false (done ++ rest)))), (5, .v (.leaf (.int .i64 i)))] ks Q := by
  intro rest
  induction rest with
  | nil =>
    intro done i hi h1 hq
    subst hi
    refine run_loop_at laws_eqNoteS.l0.eq_1 ?_
    simpa using hq
  | cons x rest ih =>
    intro done i hi h1 hq
    subst hi
    simp only [KNote.cnts, KNote.cnt, List.length_cons] at h1
    have := KNote.len_le rest
    have ih := ih (done ++ [x]) (done.length + 1) (by simp) (by simp; omega)
    refine run_loop_at laws_eqNoteS.l0.eq_1 ?_
    simp (disch := omega) [ip, wr, eqIntS, eqStringS, eqNode, eqNodeS, eqProg, eqType, eqTypeS, eqDef, eqDefS, eqSrc, eqNote, get_mid]
    refine run_env (ih (run_env hq ?_)) ?_
    · simp <;> omega
    · simp
theorem eqNoteS (xs : List KNote) (h : (KNote.cnts xs : Int) ≤ 1000000000000000) : A 10 [.leaf (KNote.sl false (xs)), .leaf (KNote.sl false (xs))] = some ([.leaf (.bool true)], [.gone, .gone]) := by
  refine run_laws_eqNoteS ?_
  have := KNote.len_le xs
  simp [laws_eqNoteS.b]
  refine eqNoteS_loop _ _ xs [] 0 (by simp) (by simp; omega) ?_
  simp
theorem markNoteS_loop (ks : List Fr) (Q : VX → Env → Prop) : ∀ (rest done : List KNote) (k i : Int), i = done.length → 0 ≤ k → k + (KNote.cnts rest : Int) ≤ 1000000000000000 → (done.length : Int) + (KNote.cnts rest : Int) ≤ 1000000000000000 →
    Run G A (.exit 0) [(0, .v (.leaf (KNote.sl true (done ++ KNote.marks k rest)))), (1, .v (.leaf (.int .i64 (k + (KNote.cnts rest : Int))))), (5, .v (.leaf (.int .i64 (done.length + rest.length)))), (9, .v (.leaf (.bool false)))] ks Q →
    Run G A (.loop laws_markNoteS.l0) [(0, .v (.leaf (KNote.sl true (done ++ rest)))), (1, .v (.leaf (.int .i64 k))), (5, .v (.leaf (.int .i64 i)))] ks Q := by
  intro rest
  induction rest with
  | nil =>
    intro done k i hi h0 h1 h2 hq
    subst hi
    refine run_loop_at laws_markNoteS.l0.eq_1 ?_
    simpa [KNote.marks, KNote.cnts, KNote.cnt] using hq
  | cons x rest ih =>
    intro done k i hi h0 h1 h2 hq
    subst hi
    simp only [KNote.cnts, KNote.cnt, List.length_cons] at h1 h2
    have := KNote.len_le rest
    have ih := ih (done ++ [KNote.mark k x]) (k + (KNote.cnt x : Int)) (done.length + 1) (by simp) (by simp only [KNote.cnt]; omega) (by simp only [KNote.cnt]; omega) (by simp [KNote.cnt]; omega)
    refine run_loop_at laws_markNoteS.l0.eq_1 ?_
    simp (disch := omega) [ip, wr, markText, markIntS, markStringS, markNodeS, markTypeS, markDefS, markSrc]
    refine run_env (ih (run_env hq ?_)) ?_
    · simp [KNote.marks, KNote.cnts, KNote.cnt] <;> omega
    · simp [KNote.mark, KNote.cnts, KNote.cnt] <;> omega
theorem markNoteS (xs : List KNote) (k : Int) (h0 : 0 ≤ k) (h1 : k + (KNote.cnts xs : Int) ≤ 1000000000000000) : A 15 [.leaf (KNote.sl true (xs)), .leaf (.int .i64 k)] = some ([.leaf (.int .i64 (k + (KNote.cnts xs : Int)))], [.leaf (KNote.sl true (KNote.marks k xs)), .gone]) := by
  refine run_laws_markNoteS ?_
  simp [laws_markNoteS.b]
  refine markNoteS_loop _ _ xs [] k 0 (by simp) h0 h1 (by simp; omega) ?_
  simp
theorem heldNoteS_loop (ks : List Fr) (Q : VX → Env → Prop) : ∀ (rest done : List KNote) (k i : Int), i = done.length → 0 ≤ k → k + (KNote.cnts rest : Int) ≤ 1000000000000000 → (done.length : Int) + (KNote.cnts rest : Int) ≤ 1000000000000000 →
    Run G A (.exit 0) [(0, .v (.leaf (KNote.sl false (done ++ KNote.marks k rest)))), (1, .v (.leaf (.int .i64 (k + (KNote.cnts rest : Int))))), (5, .v (.leaf (.int .i64 (done.length + rest.length)))), (9, .v (.leaf (.bool false)))] ks Q →
    Run G A (.loop laws_heldNoteS.l0) [(0, .v (.leaf (KNote.sl false (done ++ KNote.marks k rest)))), (1, .v (.leaf (.int .i64 k))), (5, .v (.leaf (.int .i64 i)))] ks Q := by
  intro rest
  induction rest with
  | nil =>
    intro done k i hi h0 h1 h2 hq
    subst hi
    refine run_loop_at laws_heldNoteS.l0.eq_1 ?_
    simp [KNote.marks, KNote.cnts, KNote.cnt] at hq ⊢
    exact hq
  | cons x rest ih =>
    intro done k i hi h0 h1 h2 hq
    subst hi
    simp only [KNote.cnts, KNote.cnt, List.length_cons] at h1 h2
    have := KNote.len_le rest
    have ih := ih (done ++ [KNote.mark k x]) (k + (KNote.cnt x : Int)) (done.length + 1) (by simp) (by simp only [KNote.cnt]; omega) (by simp only [KNote.cnt]; omega) (by simp [KNote.cnt]; omega)
    refine run_loop_at laws_heldNoteS.l0.eq_1 ?_
    simp only [KNote.marks]
    simp (disch := omega) [ip, wr, markText, KNote.mark]
    refine run_env (ih (run_env hq ?_)) ?_
    · simp [KNote.marks, KNote.cnts, KNote.cnt] <;> omega
    · simp [KNote.mark, KNote.cnts, KNote.cnt] <;> omega
theorem heldNoteS (xs : List KNote) (k : Int) (h0 : 0 ≤ k) (h1 : k + (KNote.cnts xs : Int) ≤ 1000000000000000) : A 16 [.leaf (KNote.sl false (KNote.marks k xs)), .leaf (.int .i64 k)] = some ([.leaf (.int .i64 (k + (KNote.cnts xs : Int)))], [.gone, .gone]) := by
  refine run_laws_heldNoteS ?_
  simp [laws_heldNoteS.b]
  refine heldNoteS_loop _ _ xs [] k 0 (by simp) h0 h1 (by simp; omega) ?_
  simp
end Go.Proofs.YthkfnfppihgejaaGreatDoor.LN
