/- The laws' own functions over their structs: comparisons, marks, sizes, copies (printed by fam.py). -/
import Derived.Test.YticecjjfbjnaaaaGreatDoorEngM7
import Derived.Test.YticecjjfbjnaaaaGreatDoorSAFam0
namespace Go.Proofs.YticecjjfbjnaaaaGreatDoor.SA
open Go Go.VS
set_option maxRecDepth 10000
set_option linter.unusedSimpArgs false
set_option linter.unusedVariables false

def markInts (k : Int) : List Int → List Int
  | [] => []
  | _ :: xs => k :: markInts (k + 1) xs
noncomputable def markStrs (k : Int) : List ByteArray → List ByteArray
  | [] => []
  | _ :: xs => mtext k :: markStrs (k + 1) xs
def strsU : List ByteArray → Nat
  | [] => 0
  | s :: xs => s.size + strsU xs
def strsFit : List ByteArray → Prop
  | [] => True
  | s :: xs => (s.size : Int) ≤ 1000000000000000 ∧ strsFit xs
theorem strsFit_of : ∀ {xs : List ByteArray}, (∀ s ∈ xs, s.size ≤ 140737488351232) → strsFit xs
  | [], _ => trivial
  | s :: xs, h => ⟨by have := h s (by simp); omega, strsFit_of fun y hy => h y (by simp [hy])⟩
def szR (w left : Int) : Int := if w ≤ left then left - w else -1
theorem szR_pos {w left : Int} (h : w ≤ left) : szR w left = left - w := if_pos h
theorem szR_neg {w left : Int} (h : left < w) : szR w left = -1 := if_neg (by omega)
@[simp] theorem markInts_length : ∀ (xs : List Int) (k : Int), (markInts k xs).length = xs.length
  | [], _ => rfl
  | _ :: xs, k => by simp [markInts, markInts_length xs]
@[simp] theorem markStrs_length : ∀ (xs : List ByteArray) (k : Int), (markStrs k xs).length = xs.length
  | [], _ => rfl
  | _ :: xs, k => by simp [markStrs, markStrs_length xs]
def KNode.cnt (x : KNode) : Nat := 3 + x.names.length + x.args.length
def KNode.cnts : List KNode → Nat
  | [] => 0
  | x :: xs => KNode.cnt x + KNode.cnts xs
def KNode.w (x : KNode) : Nat := x.s.size + (x.names.length + strsU x.names) + x.args.length
def KNode.us : List KNode → Nat
  | [] => 0
  | x :: xs => KNode.w x + KNode.us xs
def KNode.fit (x : KNode) : Prop := (x.s.size : Int) ≤ 1000000000000000 ∧ (x.names.length : Int) ≤ 1000000000000000 ∧ strsFit x.names ∧ (x.args.length : Int) ≤ 1000000000000000 ∧ True
def KNode.fits : List KNode → Prop
  | [] => True
  | x :: xs => KNode.fit x ∧ KNode.fits xs
theorem KNode.fits_of : ∀ {xs : List KNode}, (∀ x ∈ xs, KNode.fit x) → KNode.fits xs
  | [], _ => trivial
  | x :: xs, h => ⟨h x (by simp), KNode.fits_of fun y hy => h y (by simp [hy])⟩
theorem KNode.cnts_le : ∀ xs : List KNode, KNode.cnts xs ≤ 3 * (xs.length + KNode.us xs)
  | [] => by simp [KNode.cnts]
  | x :: xs => by
    have := KNode.cnts_le xs
    simp only [KNode.cnts, KNode.cnt, KNode.us, KNode.w, List.length_cons]; omega
noncomputable def KNode.mark (k : Int) (x : KNode) : KNode := { kind := k, n := k + 1, s := mtext (k + 1 + 1), names := markStrs (k + 1 + 1 + 1) x.names, args := markInts (k + 1 + 1 + 1 + ↑(x.names.length)) x.args }
noncomputable def KNode.marks (k : Int) : List KNode → List KNode
  | [] => []
  | x :: xs => KNode.mark k x :: KNode.marks (k + KNode.cnt x) xs
theorem KNode.len_le : ∀ xs : List KNode, xs.length ≤ KNode.cnts xs
  | [] => Nat.le_refl _
  | x :: xs => by have := KNode.len_le xs; simp only [KNode.cnts, KNode.cnt, List.length_cons]; omega
def KProg.w (x : KProg) : Nat := (x.nodes.length + KNode.us x.nodes)
def KProg.fit (x : KProg) : Prop := (x.nodes.length : Int) ≤ 1000000000000000 ∧ KNode.fits x.nodes ∧ True
def KValue.cnt (x : KValue) : Nat := 3
def KValue.cnts : List KValue → Nat
  | [] => 0
  | x :: xs => KValue.cnt x + KValue.cnts xs
def KValue.w (x : KValue) : Nat := x.s.size
def KValue.us : List KValue → Nat
  | [] => 0
  | x :: xs => KValue.w x + KValue.us xs
def KValue.fit (x : KValue) : Prop := (x.s.size : Int) ≤ 1000000000000000 ∧ True
def KValue.fits : List KValue → Prop
  | [] => True
  | x :: xs => KValue.fit x ∧ KValue.fits xs
theorem KValue.fits_of : ∀ {xs : List KValue}, (∀ x ∈ xs, KValue.fit x) → KValue.fits xs
  | [], _ => trivial
  | x :: xs, h => ⟨h x (by simp), KValue.fits_of fun y hy => h y (by simp [hy])⟩
theorem KValue.cnts_le : ∀ xs : List KValue, KValue.cnts xs ≤ 3 * (xs.length + KValue.us xs)
  | [] => by simp [KValue.cnts]
  | x :: xs => by
    have := KValue.cnts_le xs
    simp only [KValue.cnts, KValue.cnt, KValue.us, KValue.w, List.length_cons]; omega
noncomputable def KValue.mark (k : Int) (x : KValue) : KValue := { kind := k, n := k + 1, s := mtext (k + 1 + 1) }
noncomputable def KValue.marks (k : Int) : List KValue → List KValue
  | [] => []
  | x :: xs => KValue.mark k x :: KValue.marks (k + KValue.cnt x) xs
theorem KValue.len_le : ∀ xs : List KValue, xs.length ≤ KValue.cnts xs
  | [] => Nat.le_refl _
  | x :: xs => by have := KValue.len_le xs; simp only [KValue.cnts, KValue.cnt, List.length_cons]; omega
def KCell.cnt (x : KCell) : Nat := 4 + x.names.length + KValue.cnts x.vals
def KCell.cnts : List KCell → Nat
  | [] => 0
  | x :: xs => KCell.cnt x + KCell.cnts xs
def KCell.w (x : KCell) : Nat := x.s.size + (x.names.length + strsU x.names) + (x.vals.length + KValue.us x.vals)
def KCell.us : List KCell → Nat
  | [] => 0
  | x :: xs => KCell.w x + KCell.us xs
def KCell.fit (x : KCell) : Prop := (x.s.size : Int) ≤ 1000000000000000 ∧ (x.names.length : Int) ≤ 1000000000000000 ∧ strsFit x.names ∧ (x.vals.length : Int) ≤ 1000000000000000 ∧ KValue.fits x.vals ∧ True
def KCell.fits : List KCell → Prop
  | [] => True
  | x :: xs => KCell.fit x ∧ KCell.fits xs
theorem KCell.fits_of : ∀ {xs : List KCell}, (∀ x ∈ xs, KCell.fit x) → KCell.fits xs
  | [], _ => trivial
  | x :: xs, h => ⟨h x (by simp), KCell.fits_of fun y hy => h y (by simp [hy])⟩
theorem KCell.cnts_le : ∀ xs : List KCell, KCell.cnts xs ≤ 4 * (xs.length + KCell.us xs)
  | [] => by simp [KCell.cnts]
  | x :: xs => by
    have := KCell.cnts_le xs
    have := KValue.cnts_le x.vals
    simp only [KCell.cnts, KCell.cnt, KCell.us, KCell.w, List.length_cons]; omega
noncomputable def KCell.mark (k : Int) (x : KCell) : KCell := { kind := k, s := mtext (k + 1), a := k + 1 + 1, b := k + 1 + 1 + 1, names := markStrs (k + 1 + 1 + 1 + 1) x.names, vals := KValue.marks (k + 1 + 1 + 1 + 1 + ↑(x.names.length)) x.vals }
noncomputable def KCell.marks (k : Int) : List KCell → List KCell
  | [] => []
  | x :: xs => KCell.mark k x :: KCell.marks (k + KCell.cnt x) xs
theorem KCell.len_le : ∀ xs : List KCell, xs.length ≤ KCell.cnts xs
  | [] => Nat.le_refl _
  | x :: xs => by have := KCell.len_le xs; simp only [KCell.cnts, KCell.cnt, List.length_cons]; omega
def KLink.cnt (x : KLink) : Nat := 3
def KLink.cnts : List KLink → Nat
  | [] => 0
  | x :: xs => KLink.cnt x + KLink.cnts xs
def KLink.w (x : KLink) : Nat := x.name.size + x.at_.size
def KLink.us : List KLink → Nat
  | [] => 0
  | x :: xs => KLink.w x + KLink.us xs
def KLink.fit (x : KLink) : Prop := (x.name.size : Int) ≤ 1000000000000000 ∧ (x.at_.size : Int) ≤ 1000000000000000 ∧ True
def KLink.fits : List KLink → Prop
  | [] => True
  | x :: xs => KLink.fit x ∧ KLink.fits xs
theorem KLink.fits_of : ∀ {xs : List KLink}, (∀ x ∈ xs, KLink.fit x) → KLink.fits xs
  | [], _ => trivial
  | x :: xs, h => ⟨h x (by simp), KLink.fits_of fun y hy => h y (by simp [hy])⟩
theorem KLink.cnts_le : ∀ xs : List KLink, KLink.cnts xs ≤ 3 * (xs.length + KLink.us xs)
  | [] => by simp [KLink.cnts]
  | x :: xs => by
    have := KLink.cnts_le xs
    simp only [KLink.cnts, KLink.cnt, KLink.us, KLink.w, List.length_cons]; omega
noncomputable def KLink.mark (k : Int) (x : KLink) : KLink := { name := mtext (k), inst := k + 1, at_ := mtext (k + 1 + 1) }
noncomputable def KLink.marks (k : Int) : List KLink → List KLink
  | [] => []
  | x :: xs => KLink.mark k x :: KLink.marks (k + KLink.cnt x) xs
theorem KLink.len_le : ∀ xs : List KLink, xs.length ≤ KLink.cnts xs
  | [] => Nat.le_refl _
  | x :: xs => by have := KLink.len_le xs; simp only [KLink.cnts, KLink.cnt, List.length_cons]; omega
def KType.cnt (x : KType) : Nat := 2
def KType.cnts : List KType → Nat
  | [] => 0
  | x :: xs => KType.cnt x + KType.cnts xs
def KType.w (x : KType) : Nat := x.name.size
def KType.us : List KType → Nat
  | [] => 0
  | x :: xs => KType.w x + KType.us xs
def KType.fit (x : KType) : Prop := (x.name.size : Int) ≤ 1000000000000000 ∧ True
def KType.fits : List KType → Prop
  | [] => True
  | x :: xs => KType.fit x ∧ KType.fits xs
theorem KType.fits_of : ∀ {xs : List KType}, (∀ x ∈ xs, KType.fit x) → KType.fits xs
  | [], _ => trivial
  | x :: xs, h => ⟨h x (by simp), KType.fits_of fun y hy => h y (by simp [hy])⟩
theorem KType.cnts_le : ∀ xs : List KType, KType.cnts xs ≤ 2 * (xs.length + KType.us xs)
  | [] => by simp [KType.cnts]
  | x :: xs => by
    have := KType.cnts_le xs
    simp only [KType.cnts, KType.cnt, KType.us, KType.w, List.length_cons]; omega
noncomputable def KType.mark (k : Int) (x : KType) : KType := { name := mtext (k), size := k + 1 }
noncomputable def KType.marks (k : Int) : List KType → List KType
  | [] => []
  | x :: xs => KType.mark k x :: KType.marks (k + KType.cnt x) xs
theorem KType.len_le : ∀ xs : List KType, xs.length ≤ KType.cnts xs
  | [] => Nat.le_refl _
  | x :: xs => by have := KType.len_le xs; simp only [KType.cnts, KType.cnt, List.length_cons]; omega
def KInst.cnt (x : KInst) : Nat := 2 + x.names.length + KValue.cnts x.vals + KLink.cnts x.links + KType.cnts x.types
def KInst.cnts : List KInst → Nat
  | [] => 0
  | x :: xs => KInst.cnt x + KInst.cnts xs
def KInst.w (x : KInst) : Nat := x.lib.size + (x.names.length + strsU x.names) + (x.vals.length + KValue.us x.vals) + (x.links.length + KLink.us x.links) + (x.types.length + KType.us x.types)
def KInst.us : List KInst → Nat
  | [] => 0
  | x :: xs => KInst.w x + KInst.us xs
def KInst.fit (x : KInst) : Prop := (x.lib.size : Int) ≤ 1000000000000000 ∧ (x.names.length : Int) ≤ 1000000000000000 ∧ strsFit x.names ∧ (x.vals.length : Int) ≤ 1000000000000000 ∧ KValue.fits x.vals ∧ (x.links.length : Int) ≤ 1000000000000000 ∧ KLink.fits x.links ∧ (x.types.length : Int) ≤ 1000000000000000 ∧ KType.fits x.types ∧ True
def KInst.fits : List KInst → Prop
  | [] => True
  | x :: xs => KInst.fit x ∧ KInst.fits xs
theorem KInst.fits_of : ∀ {xs : List KInst}, (∀ x ∈ xs, KInst.fit x) → KInst.fits xs
  | [], _ => trivial
  | x :: xs, h => ⟨h x (by simp), KInst.fits_of fun y hy => h y (by simp [hy])⟩
theorem KInst.cnts_le : ∀ xs : List KInst, KInst.cnts xs ≤ 3 * (xs.length + KInst.us xs)
  | [] => by simp [KInst.cnts]
  | x :: xs => by
    have := KInst.cnts_le xs
    have := KValue.cnts_le x.vals
    have := KLink.cnts_le x.links
    have := KType.cnts_le x.types
    simp only [KInst.cnts, KInst.cnt, KInst.us, KInst.w, List.length_cons]; omega
noncomputable def KInst.mark (k : Int) (x : KInst) : KInst := { lib := mtext (k), ver := k + 1, names := markStrs (k + 1 + 1) x.names, vals := KValue.marks (k + 1 + 1 + ↑(x.names.length)) x.vals, links := KLink.marks (k + 1 + 1 + ↑(x.names.length) + ↑(KValue.cnts x.vals)) x.links, types := KType.marks (k + 1 + 1 + ↑(x.names.length) + ↑(KValue.cnts x.vals) + ↑(KLink.cnts x.links)) x.types }
noncomputable def KInst.marks (k : Int) : List KInst → List KInst
  | [] => []
  | x :: xs => KInst.mark k x :: KInst.marks (k + KInst.cnt x) xs
theorem KInst.len_le : ∀ xs : List KInst, xs.length ≤ KInst.cnts xs
  | [] => Nat.le_refl _
  | x :: xs => by have := KInst.len_le xs; simp only [KInst.cnts, KInst.cnt, List.length_cons]; omega
def KUnit.cnt (x : KUnit) : Nat := 2 + KNode.cnts x.prog.nodes
def KUnit.cnts : List KUnit → Nat
  | [] => 0
  | x :: xs => KUnit.cnt x + KUnit.cnts xs
def KUnit.w (x : KUnit) : Nat := KProg.w x.prog
def KUnit.us : List KUnit → Nat
  | [] => 0
  | x :: xs => KUnit.w x + KUnit.us xs
def KUnit.fit (x : KUnit) : Prop := KProg.fit x.prog ∧ True
def KUnit.fits : List KUnit → Prop
  | [] => True
  | x :: xs => KUnit.fit x ∧ KUnit.fits xs
theorem KUnit.fits_of : ∀ {xs : List KUnit}, (∀ x ∈ xs, KUnit.fit x) → KUnit.fits xs
  | [], _ => trivial
  | x :: xs, h => ⟨h x (by simp), KUnit.fits_of fun y hy => h y (by simp [hy])⟩
theorem KUnit.cnts_le : ∀ xs : List KUnit, KUnit.cnts xs ≤ 3 * (xs.length + KUnit.us xs)
  | [] => by simp [KUnit.cnts]
  | x :: xs => by
    have := KUnit.cnts_le xs
    have := KNode.cnts_le x.prog.nodes
    simp only [KUnit.cnts, KUnit.cnt, KUnit.us, KUnit.w, KProg.w, List.length_cons]; omega
noncomputable def KUnit.mark (k : Int) (x : KUnit) : KUnit := { home := k, prog := { nodes := KNode.marks (k + 1) x.prog.nodes, root := k + 1 + ↑(KNode.cnts x.prog.nodes) } }
noncomputable def KUnit.marks (k : Int) : List KUnit → List KUnit
  | [] => []
  | x :: xs => KUnit.mark k x :: KUnit.marks (k + KUnit.cnt x) xs
theorem KUnit.len_le : ∀ xs : List KUnit, xs.length ≤ KUnit.cnts xs
  | [] => Nat.le_refl _
  | x :: xs => by have := KUnit.len_le xs; simp only [KUnit.cnts, KUnit.cnt, List.length_cons]; omega
def KSys.w (x : KSys) : Nat := (x.heap.length + KCell.us x.heap) + (x.insts.length + KInst.us x.insts) + (x.units.length + KUnit.us x.units) + (x.out.length + strsU x.out)
def KSys.fit (x : KSys) : Prop := (x.heap.length : Int) ≤ 1000000000000000 ∧ KCell.fits x.heap ∧ (x.insts.length : Int) ≤ 1000000000000000 ∧ KInst.fits x.insts ∧ (x.units.length : Int) ≤ 1000000000000000 ∧ KUnit.fits x.units ∧ (x.out.length : Int) ≤ 1000000000000000 ∧ strsFit x.out ∧ True
noncomputable def KSys.markTop (k : Int) (x : KSys) : KSys := { heap := KCell.marks (k) x.heap, insts := KInst.marks (k + ↑(KCell.cnts x.heap)) x.insts, units := KUnit.marks (k + ↑(KCell.cnts x.heap) + ↑(KInst.cnts x.insts)) x.units, out := markStrs (k + ↑(KCell.cnts x.heap) + ↑(KInst.cnts x.insts) + ↑(KUnit.cnts x.units)) x.out }
def KSys.top (x : KSys) : Nat := 0 + KCell.cnts x.heap + KInst.cnts x.insts + KUnit.cnts x.units + x.out.length
def KBind.cnt (x : KBind) : Nat := 4
def KBind.cnts : List KBind → Nat
  | [] => 0
  | x :: xs => KBind.cnt x + KBind.cnts xs
noncomputable def KBind.mark (k : Int) (x : KBind) : KBind := { name := mtext (k), val := { kind := k + 1, n := k + 1 + 1, s := mtext (k + 1 + 1 + 1) } }
noncomputable def KBind.marks (k : Int) : List KBind → List KBind
  | [] => []
  | x :: xs => KBind.mark k x :: KBind.marks (k + KBind.cnt x) xs
theorem KBind.len_le : ∀ xs : List KBind, xs.length ≤ KBind.cnts xs
  | [] => Nat.le_refl _
  | x :: xs => by have := KBind.len_le xs; simp only [KBind.cnts, KBind.cnt, List.length_cons]; omega
def KFrame.cnt (x : KFrame) : Nat := 2 + KValue.cnts x.vals + KBind.cnts x.env
def KFrame.cnts : List KFrame → Nat
  | [] => 0
  | x :: xs => KFrame.cnt x + KFrame.cnts xs
noncomputable def KFrame.mark (k : Int) (x : KFrame) : KFrame := { unit := k, node := k + 1, vals := KValue.marks (k + 1 + 1) x.vals, env := KBind.marks (k + 1 + 1 + ↑(KValue.cnts x.vals)) x.env }
noncomputable def KFrame.marks (k : Int) : List KFrame → List KFrame
  | [] => []
  | x :: xs => KFrame.mark k x :: KFrame.marks (k + KFrame.cnt x) xs
theorem KFrame.len_le : ∀ xs : List KFrame, xs.length ≤ KFrame.cnts xs
  | [] => Nat.le_refl _
  | x :: xs => by have := KFrame.len_le xs; simp only [KFrame.cnts, KFrame.cnt, List.length_cons]; omega
noncomputable def KMachine.markTop (k : Int) (x : KMachine) : KMachine := { mode := x.mode, unit := x.unit, node := x.node, env := KBind.marks (k) x.env, val := x.val, stack := KFrame.marks (k + ↑(KBind.cnts x.env)) x.stack, end_ := x.end_ }
def KMachine.top (x : KMachine) : Nat := 0 + KBind.cnts x.env + KFrame.cnts x.stack
theorem eqIntS_loop (ks : List Fr) (Q : VX → Env → Prop) : ∀ (rest done : List Int) (i : Int), i = done.length → (done.length : Int) + (rest.length : Int) ≤ 1000000000000000 →
    Run G A (.exit 0) [(0, .v (.leaf (Kints false (done ++ rest)))), (1, .v (.leaf (Kints false (done ++ rest)))), (5, .v (.leaf (.int .i64 (done.length + rest.length)))), (14, .v (.leaf (.bool false)))] ks Q →
    Run G A (.loop laws_eqIntS.l0) [(0, .v (.leaf (Kints false (done ++ rest)))), (1, .v (.leaf (Kints false (done ++ rest)))), (5, .v (.leaf (.int .i64 i)))] ks Q := by
  intro rest
  induction rest with
  | nil =>
    intro done i hi h1 hq
    subst hi
    refine run_loop_at laws_eqIntS.l0.eq_1 ?_
    simpa using hq
  | cons x rest ih =>
    intro done i hi h1 hq
    subst hi
    simp only [List.length_cons] at h1
    have ih := ih (done ++ [x]) (done.length + 1) (by simp) (by simp; omega)
    refine run_loop_at laws_eqIntS.l0.eq_1 ?_
    simp (disch := omega) [ip, wr, get_mid]
    refine run_env (ih (run_env hq ?_)) ?_
    · simp <;> omega
    · simp
theorem eqIntS (xs : List Int) (h : (xs.length : Int) ≤ 1000000000000000) : A 185 [.leaf (Kints false (xs)), .leaf (Kints false (xs))] = some ([.leaf (.bool true)], [.gone, .gone]) := by
  refine run_laws_eqIntS ?_
  simp [laws_eqIntS.b]
  refine eqIntS_loop _ _ xs [] 0 (by simp) (by simp; omega) ?_
  simp
theorem markIntS_loop (ks : List Fr) (Q : VX → Env → Prop) : ∀ (rest done : List Int) (k i : Int), i = done.length → 0 ≤ k → k + (rest.length : Int) ≤ 1000000000000000 → (done.length : Int) + (rest.length : Int) ≤ 1000000000000000 →
    Run G A (.exit 0) [(0, .v (.leaf (Kints true (done ++ markInts k rest)))), (1, .v (.leaf (.int .i64 (k + (rest.length : Int))))), (5, .v (.leaf (.int .i64 (done.length + rest.length)))), (9, .v (.leaf (.bool false)))] ks Q →
    Run G A (.loop laws_markIntS.l0) [(0, .v (.leaf (Kints true (done ++ rest)))), (1, .v (.leaf (.int .i64 k))), (5, .v (.leaf (.int .i64 i)))] ks Q := by
  intro rest
  induction rest with
  | nil =>
    intro done k i hi h0 h1 h2 hq
    subst hi
    refine run_loop_at laws_markIntS.l0.eq_1 ?_
    simpa [markInts] using hq
  | cons x rest ih =>
    intro done k i hi h0 h1 h2 hq
    subst hi
    simp only [List.length_cons] at h1 h2
    have ih := ih (done ++ [k]) (k + 1) (done.length + 1) (by simp) (by omega) (by omega) (by simp; omega)
    refine run_loop_at laws_markIntS.l0.eq_1 ?_
    simp (disch := omega) [ip, wr, markText]
    refine run_env (ih (run_env hq ?_)) ?_
    · simp [markInts] <;> omega
    · simp [Nat.add_comm] <;> omega
theorem markIntS (xs : List Int) (k : Int) (h0 : 0 ≤ k) (h1 : k + (xs.length : Int) ≤ 1000000000000000) : A 136 [.leaf (Kints true (xs)), .leaf (.int .i64 k)] = some ([.leaf (.int .i64 (k + (xs.length : Int)))], [.leaf (Kints true (markInts k xs)), .gone]) := by
  refine run_laws_markIntS ?_
  simp [laws_markIntS.b]
  refine markIntS_loop _ _ xs [] k 0 (by simp) h0 h1 (by simp; omega) ?_
  simp
theorem toIntS_loop (ks : List Fr) (Q : VX → Env → Prop) : ∀ (rest done : List Int) (i : Int), i = done.length → (done.length : Int) + rest.length ≤ 1048576 → (0 : Int) ≤ 1048576 →
    Run G A (.exit 0) [(0, .v (.leaf (Kints false (done ++ rest)))), (3, .v (.leaf (Kints true (done ++ rest)))), (4, .v (.leaf (.int .i64 (done.length + rest.length)))), (11, .v (.leaf (.bool false)))] ks Q →
    Run G A (.loop laws_toIntS.l0) [(0, .v (.leaf (Kints false (done ++ rest)))), (3, .v (.leaf (.sl true 1 (done.map (fun n : Int => [L.int .i64 n]) ++ List.replicate rest.length [.int .i64 0])))), (4, .v (.leaf (.int .i64 i)))] ks Q := by
  intro rest
  induction rest with
  | nil =>
    intro done i hi h1 hu hq
    subst hi
    refine run_loop_at laws_toIntS.l0.eq_1 ?_
    simpa using hq
  | cons x rest ih =>
    intro done i hi h1 hu hq
    subst hi
    simp only [List.length_cons] at h1 hu
    have ih := ih (done ++ [x]) (done.length + 1) (by simp) (by simp; omega) (by omega)
    refine run_loop_at laws_toIntS.l0.eq_1 ?_
    simp (disch := omega) [ip, wr, get_mid, List.replicate_succ]
    refine run_env (ih (run_env hq ?_)) ?_
    · simp <;> omega
    · simp
theorem toIntS (xs : List Int) (h : (xs.length : Int) ≤ 1048576) : A 182 [.leaf (Kints false (xs))] = some ([.leaf (Kints true (xs))], [.gone]) := by
  refine run_laws_toIntS ?_
  simp (disch := omega) [ip, wr, laws_toIntS.b]
  refine run_env (toIntS_loop _ _ xs [] 0 (by simp) (by simp; omega) (by omega) ?_) ?_
  · simp
  · simp
theorem szIntS (xs : List Int) (left : Int) (h0 : 0 ≤ left) (h1 : left ≤ 1000000000000000) (hn : (xs.length : Int) ≤ 1000000000000000) : A 181 [.leaf (Kints false (xs)), .leaf (.int .i64 left)] = some ([.leaf (.int .i64 (szR xs.length left))], [.gone, .gone]) := by
  refine run_laws_szIntS ?_
  by_cases c : (xs.length : Int) ≤ left
  · simp (disch := omega) [ip, wr, laws_szIntS.b, szR_pos, szR_neg]
  · simp (disch := omega) [ip, wr, laws_szIntS.b, szR_pos, szR_neg]
theorem eqStringS_loop (ks : List Fr) (Q : VX → Env → Prop) : ∀ (rest done : List ByteArray) (i : Int), i = done.length → (done.length : Int) + (rest.length : Int) ≤ 1000000000000000 →
    Run G A (.exit 0) [(0, .v (.leaf (Kstrs false (done ++ rest)))), (1, .v (.leaf (Kstrs false (done ++ rest)))), (5, .v (.leaf (.int .i64 (done.length + rest.length)))), (14, .v (.leaf (.bool false)))] ks Q →
    Run G A (.loop laws_eqStringS.l0) [(0, .v (.leaf (Kstrs false (done ++ rest)))), (1, .v (.leaf (Kstrs false (done ++ rest)))), (5, .v (.leaf (.int .i64 i)))] ks Q := by
  intro rest
  induction rest with
  | nil =>
    intro done i hi h1 hq
    subst hi
    refine run_loop_at laws_eqStringS.l0.eq_1 ?_
    simpa using hq
  | cons x rest ih =>
    intro done i hi h1 hq
    subst hi
    simp only [List.length_cons] at h1
    have ih := ih (done ++ [x]) (done.length + 1) (by simp) (by simp; omega)
    refine run_loop_at laws_eqStringS.l0.eq_1 ?_
    simp (disch := omega) [ip, wr, eqIntS, get_mid]
    refine run_env (ih (run_env hq ?_)) ?_
    · simp <;> omega
    · simp
theorem eqStringS (xs : List ByteArray) (h : (xs.length : Int) ≤ 1000000000000000) : A 23 [.leaf (Kstrs false (xs)), .leaf (Kstrs false (xs))] = some ([.leaf (.bool true)], [.gone, .gone]) := by
  refine run_laws_eqStringS ?_
  simp [laws_eqStringS.b]
  refine eqStringS_loop _ _ xs [] 0 (by simp) (by simp; omega) ?_
  simp
theorem markStringS_loop (ks : List Fr) (Q : VX → Env → Prop) : ∀ (rest done : List ByteArray) (k i : Int), i = done.length → 0 ≤ k → k + (rest.length : Int) ≤ 1000000000000000 → (done.length : Int) + (rest.length : Int) ≤ 1000000000000000 →
    Run G A (.exit 0) [(0, .v (.leaf (Kstrs true (done ++ markStrs k rest)))), (1, .v (.leaf (.int .i64 (k + (rest.length : Int))))), (5, .v (.leaf (.int .i64 (done.length + rest.length)))), (9, .v (.leaf (.bool false)))] ks Q →
    Run G A (.loop laws_markStringS.l0) [(0, .v (.leaf (Kstrs true (done ++ rest)))), (1, .v (.leaf (.int .i64 k))), (5, .v (.leaf (.int .i64 i)))] ks Q := by
  intro rest
  induction rest with
  | nil =>
    intro done k i hi h0 h1 h2 hq
    subst hi
    refine run_loop_at laws_markStringS.l0.eq_1 ?_
    simpa [markStrs] using hq
  | cons x rest ih =>
    intro done k i hi h0 h1 h2 hq
    subst hi
    simp only [List.length_cons] at h1 h2
    have ih := ih (done ++ [mtext k]) (k + 1) (done.length + 1) (by simp) (by omega) (by omega) (by simp; omega)
    refine run_loop_at laws_markStringS.l0.eq_1 ?_
    simp (disch := omega) [ip, wr, markText, markIntS]
    refine run_env (ih (run_env hq ?_)) ?_
    · simp [markStrs] <;> omega
    · simp [Nat.add_comm] <;> omega
theorem markStringS (xs : List ByteArray) (k : Int) (h0 : 0 ≤ k) (h1 : k + (xs.length : Int) ≤ 1000000000000000) : A 26 [.leaf (Kstrs true (xs)), .leaf (.int .i64 k)] = some ([.leaf (.int .i64 (k + (xs.length : Int)))], [.leaf (Kstrs true (markStrs k xs)), .gone]) := by
  refine run_laws_markStringS ?_
  simp [laws_markStringS.b]
  refine markStringS_loop _ _ xs [] k 0 (by simp) h0 h1 (by simp; omega) ?_
  simp
theorem toStringS_loop (ks : List Fr) (Q : VX → Env → Prop) : ∀ (rest done : List ByteArray) (i : Int), i = done.length → (done.length : Int) + rest.length ≤ 1048576 → (strsU rest : Int) ≤ 1048576 →
    Run G A (.exit 0) [(0, .v (.leaf (Kstrs false (done ++ rest)))), (3, .v (.leaf (Kstrs true (done ++ rest)))), (4, .v (.leaf (.int .i64 (done.length + rest.length)))), (11, .v (.leaf (.bool false)))] ks Q →
    Run G A (.loop laws_toStringS.l0) [(0, .v (.leaf (Kstrs false (done ++ rest)))), (3, .v (.leaf (.sl true 1 (done.map (fun s : ByteArray => [L.str s]) ++ List.replicate rest.length [.str ⟨#[]⟩])))), (4, .v (.leaf (.int .i64 i)))] ks Q := by
  intro rest
  induction rest with
  | nil =>
    intro done i hi h1 hu hq
    subst hi
    refine run_loop_at laws_toStringS.l0.eq_1 ?_
    simpa using hq
  | cons x rest ih =>
    intro done i hi h1 hu hq
    subst hi
    simp only [strsU, List.length_cons] at h1 hu
    have ih := ih (done ++ [x]) (done.length + 1) (by simp) (by simp; omega) (by omega)
    refine run_loop_at laws_toStringS.l0.eq_1 ?_
    simp (disch := omega) [ip, wr, toIntS, get_mid, List.replicate_succ]
    refine run_env (ih (run_env hq ?_)) ?_
    · simp <;> omega
    · simp
theorem toStringS (xs : List ByteArray) (h : ((xs.length + strsU xs) : Int) ≤ 1048576) : A 97 [.leaf (Kstrs false (xs))] = some ([.leaf (Kstrs true (xs))], [.gone]) := by
  refine run_laws_toStringS ?_
  simp (disch := omega) [ip, wr, laws_toStringS.b]
  refine run_env (toStringS_loop _ _ xs [] 0 (by simp) (by simp; omega) (by omega) ?_) ?_
  · simp
  · simp
theorem szStringS_loop (ks : List Fr) (Q : VX → Env → Prop) : ∀ (rest done : List ByteArray) (l i : Int), i = done.length → 0 ≤ l → l ≤ 1000000000000000 → (done.length : Int) + rest.length ≤ 1000000000000000 → strsFit rest →
    ((strsU rest : Int) ≤ l → Run G A (.exit 0) [(0, .v (.leaf (Kstrs false (done ++ rest)))), (1, .v (.leaf (.int .i64 (l - strsU rest)))), (5, .v (.leaf (.int .i64 (done.length + rest.length)))), (15, .v (.leaf (.bool false)))] ks Q) →
    (l < strsU rest → Run G A .ret [(4, .v (.leaf (.int .i64 (-1))))] ks Q) →
    Run G A (.loop laws_szStringS.l0) [(0, .v (.leaf (Kstrs false (done ++ rest)))), (1, .v (.leaf (.int .i64 l))), (5, .v (.leaf (.int .i64 i)))] ks Q := by
  intro rest
  induction rest with
  | nil =>
    intro done l i hi h0 h1 hn hf hq hr
    subst hi
    refine run_loop_at laws_szStringS.l0.eq_1 ?_
    simpa [strsU] using hq (by simp [strsU]; omega)
  | cons x rest ih =>
    intro done l i hi h0 h1 hn hf hq hr
    subst hi
    simp only [strsU, List.length_cons, Int.natCast_add] at hn hq hr
    refine run_loop_at laws_szStringS.l0.eq_1 ?_
    simp only [strsFit] at hf
    have hf1 := hf.1
    by_cases c : ((x.size : Nat) : Int) ≤ l
    · have ih := ih (done ++ [x]) (l - ↑(x.size)) (done.length + 1) (by simp) (by omega) (by omega) (by simp; omega) hf.2
      simp (disch := omega) [ip, wr, get_mid, szR_pos, szR_neg]
      refine run_env (ih (fun g => run_env (hq (by omega)) ?_) (fun g => hr (by omega))) ?_
      · simp <;> omega
      · simp
    · have hr := hr (by omega)
      simp (disch := omega) [ip, wr, get_mid, szR_pos, szR_neg]
      first | exact hr | simpa using hr
theorem szStringS (xs : List ByteArray) (left : Int) (h0 : 0 ≤ left) (h1 : left ≤ 1000000000000000) (hn : (xs.length : Int) ≤ 1000000000000000) (hf : strsFit xs) : A 92 [.leaf (Kstrs false (xs)), .leaf (.int .i64 left)] = some ([.leaf (.int .i64 (szR ↑(xs.length + strsU xs) left))], [.gone, .gone]) := by
  refine run_laws_szStringS ?_
  by_cases c : (xs.length : Int) ≤ left
  · simp (disch := omega) [ip, wr, laws_szStringS.b]
    refine run_env (szStringS_loop _ _ xs [] (left - xs.length) 0 (by simp) (by omega) (by omega) (by simp; omega) hf (fun g => ?_) (fun g => ?_)) ?_
    · have g2 : ((xs.length + strsU xs : Nat) : Int) ≤ left := by omega
      simp (disch := omega) [ip, wr, laws_szStringS.b, szR_pos, szR_neg]
      omega
    · have g2 : left < ((xs.length + strsU xs : Nat) : Int) := by omega
      simp (disch := omega) [ip, wr, laws_szStringS.b, szR_pos, szR_neg]
    · simp
  · have g2 : left < ((xs.length + strsU xs : Nat) : Int) := by omega
    simp (disch := omega) [ip, wr, laws_szStringS.b, szR_pos, szR_neg]
theorem eqNode (x : KNode) (h : (x.names.length : Int) ≤ 1000000000000000 ∧ (x.args.length : Int) ≤ 1000000000000000) : A 135 [.agg (KNode.row false x), .agg (KNode.row false x)] = some ([.leaf (.bool true)], [.gone, .gone]) := by
  refine run_laws_eqNode ?_
  simp (disch := omega) [ip, wr, laws_eqNode.b, eqIntS, eqStringS]
theorem toNode (x : KNode) (h : (KNode.w x : Int) ≤ 1048576) : A 132 [.agg (KNode.row false x)] = some ([.agg (KNode.row true x)], [.gone]) := by
  simp only [KNode.w] at h
  refine run_laws_toNode ?_
  simp (disch := omega) [ip, wr, laws_toNode.b, toIntS, toStringS]
theorem szNode (x : KNode) (left : Int) (h0 : 0 ≤ left) (h1 : left ≤ 1000000000000000) (hf : KNode.fit x) : A 131 [.agg (KNode.row false x), .leaf (.int .i64 left)] = some ([.leaf (.int .i64 (szR ↑(KNode.w x) left))], [.gone, .gone]) := by
  obtain ⟨f1, f2, f3, f4, -⟩ := hf
  have e0 := fun l a b => szStringS x.names l a b f2 f3
  have e1 := fun l a b => szIntS x.args l a b f4
  simp only [KNode.w, Int.natCast_add]
  refine run_laws_szNode ?_
  by_cases c0 : ((x.s.size : Nat) : Int) ≤ left
  · by_cases c1 : ((x.s.size : Nat) : Int) + (((x.names.length + strsU x.names) : Nat) : Int) ≤ left
    · by_cases c2 : ((x.s.size : Nat) : Int) + (((x.names.length + strsU x.names) : Nat) : Int) + ((x.args.length : Nat) : Int) ≤ left
      · simp (disch := omega) [ip, wr, laws_szNode.b, e0, e1, szR_pos, szR_neg] <;> omega
      · simp (disch := omega) [ip, wr, laws_szNode.b, e0, e1, szR_pos, szR_neg] <;> omega
    · simp (disch := omega) [ip, wr, laws_szNode.b, e0, e1, szR_pos, szR_neg] <;> omega
  · simp (disch := omega) [ip, wr, laws_szNode.b, e0, e1, szR_pos, szR_neg] <;> omega
theorem eqNodeS_loop (ks : List Fr) (Q : VX → Env → Prop) : ∀ (rest done : List KNode) (i : Int), i = done.length → (done.length : Int) + (KNode.cnts rest : Int) ≤ 1000000000000000 →
    Run G A (.exit 0) [(0, .v (.leaf (KNode.sl false (done ++ rest)))), (1, .v (.leaf (KNode.sl false (done ++ rest)))), (5, .v (.leaf (.int .i64 (done.length + rest.length)))), (14, .v (.leaf (.bool false)))] ks Q →
    Run G A (.loop laws_eqNodeS.l0) [(0, .v (.leaf (KNode.sl false (done ++ rest)))), (1, .v (.leaf (KNode.sl false (done ++ rest)))), (5, .v (.leaf (.int .i64 i)))] ks Q := by
  intro rest
  induction rest with
  | nil =>
    intro done i hi h1 hq
    subst hi
    refine run_loop_at laws_eqNodeS.l0.eq_1 ?_
    simpa using hq
  | cons x rest ih =>
    intro done i hi h1 hq
    subst hi
    simp only [KNode.cnts, KNode.cnt, List.length_cons] at h1
    have := KNode.len_le rest
    have ih := ih (done ++ [x]) (done.length + 1) (by simp) (by simp; omega)
    refine run_loop_at laws_eqNodeS.l0.eq_1 ?_
    simp (disch := omega) [ip, wr, eqIntS, eqStringS, eqNode, get_mid]
    refine run_env (ih (run_env hq ?_)) ?_
    · simp <;> omega
    · simp
theorem eqNodeS (xs : List KNode) (h : (KNode.cnts xs : Int) ≤ 1000000000000000) : A 78 [.leaf (KNode.sl false (xs)), .leaf (KNode.sl false (xs))] = some ([.leaf (.bool true)], [.gone, .gone]) := by
  refine run_laws_eqNodeS ?_
  have := KNode.len_le xs
  simp [laws_eqNodeS.b]
  refine eqNodeS_loop _ _ xs [] 0 (by simp) (by simp; omega) ?_
  simp
theorem markNodeS_loop (ks : List Fr) (Q : VX → Env → Prop) : ∀ (rest done : List KNode) (k i : Int), i = done.length → 0 ≤ k → k + (KNode.cnts rest : Int) ≤ 1000000000000000 → (done.length : Int) + (KNode.cnts rest : Int) ≤ 1000000000000000 →
    Run G A (.exit 0) [(0, .v (.leaf (KNode.sl true (done ++ KNode.marks k rest)))), (1, .v (.leaf (.int .i64 (k + (KNode.cnts rest : Int))))), (5, .v (.leaf (.int .i64 (done.length + rest.length)))), (9, .v (.leaf (.bool false)))] ks Q →
    Run G A (.loop laws_markNodeS.l0) [(0, .v (.leaf (KNode.sl true (done ++ rest)))), (1, .v (.leaf (.int .i64 k))), (5, .v (.leaf (.int .i64 i)))] ks Q := by
  intro rest
  induction rest with
  | nil =>
    intro done k i hi h0 h1 h2 hq
    subst hi
    refine run_loop_at laws_markNodeS.l0.eq_1 ?_
    simpa [KNode.marks, KNode.cnts, KNode.cnt] using hq
  | cons x rest ih =>
    intro done k i hi h0 h1 h2 hq
    subst hi
    simp only [KNode.cnts, KNode.cnt, List.length_cons] at h1 h2
    have := KNode.len_le rest
    have ih := ih (done ++ [KNode.mark k x]) (k + (KNode.cnt x : Int)) (done.length + 1) (by simp) (by simp only [KNode.cnt]; omega) (by simp only [KNode.cnt]; omega) (by simp [KNode.cnt]; omega)
    refine run_loop_at laws_markNodeS.l0.eq_1 ?_
    simp (disch := omega) [ip, wr, markText, markIntS, markStringS]
    refine run_env (ih (run_env hq ?_)) ?_
    · simp [KNode.marks, KNode.cnts, KNode.cnt] <;> omega
    · simp [KNode.mark, KNode.cnts, KNode.cnt] <;> omega
theorem markNodeS (xs : List KNode) (k : Int) (h0 : 0 ≤ k) (h1 : k + (KNode.cnts xs : Int) ≤ 1000000000000000) : A 79 [.leaf (KNode.sl true (xs)), .leaf (.int .i64 k)] = some ([.leaf (.int .i64 (k + (KNode.cnts xs : Int)))], [.leaf (KNode.sl true (KNode.marks k xs)), .gone]) := by
  refine run_laws_markNodeS ?_
  simp [laws_markNodeS.b]
  refine markNodeS_loop _ _ xs [] k 0 (by simp) h0 h1 (by simp; omega) ?_
  simp
theorem toNodeS_loop (ks : List Fr) (Q : VX → Env → Prop) : ∀ (rest done : List KNode) (i : Int), i = done.length → (done.length : Int) + rest.length ≤ 1048576 → (KNode.us rest : Int) ≤ 1048576 →
    Run G A (.exit 0) [(0, .v (.leaf (KNode.sl false (done ++ rest)))), (3, .v (.leaf (KNode.sl true (done ++ rest)))), (4, .v (.leaf (.int .i64 (done.length + rest.length)))), (11, .v (.leaf (.bool false)))] ks Q →
    Run G A (.loop laws_toNodeS.l0) [(0, .v (.leaf (KNode.sl false (done ++ rest)))), (3, .v (.leaf (.sl true 5 (done.map (KNode.row true) ++ List.replicate rest.length [.int .i64 0, .int .i64 0, .str ⟨#[]⟩, .sl true 1 [], .sl true 1 []])))), (4, .v (.leaf (.int .i64 i)))] ks Q := by
  intro rest
  induction rest with
  | nil =>
    intro done i hi h1 hu hq
    subst hi
    refine run_loop_at laws_toNodeS.l0.eq_1 ?_
    simpa using hq
  | cons x rest ih =>
    intro done i hi h1 hu hq
    subst hi
    simp only [KNode.us, List.length_cons] at h1 hu
    have ih := ih (done ++ [x]) (done.length + 1) (by simp) (by simp; omega) (by omega)
    refine run_loop_at laws_toNodeS.l0.eq_1 ?_
    simp (disch := omega) [ip, wr, toIntS, toStringS, toNode, get_mid, List.replicate_succ]
    refine run_env (ih (run_env hq ?_)) ?_
    · simp <;> omega
    · simp
theorem toNodeS (xs : List KNode) (h : ((xs.length + KNode.us xs) : Int) ≤ 1048576) : A 74 [.leaf (KNode.sl false (xs))] = some ([.leaf (KNode.sl true (xs))], [.gone]) := by
  refine run_laws_toNodeS ?_
  simp (disch := omega) [ip, wr, laws_toNodeS.b]
  refine run_env (toNodeS_loop _ _ xs [] 0 (by simp) (by simp; omega) (by omega) ?_) ?_
  · simp
  · simp
theorem szNodeS_loop (ks : List Fr) (Q : VX → Env → Prop) : ∀ (rest done : List KNode) (l i : Int), i = done.length → 0 ≤ l → l ≤ 1000000000000000 → (done.length : Int) + rest.length ≤ 1000000000000000 → KNode.fits rest →
    ((KNode.us rest : Int) ≤ l → Run G A (.exit 0) [(0, .v (.leaf (KNode.sl false (done ++ rest)))), (1, .v (.leaf (.int .i64 (l - KNode.us rest)))), (5, .v (.leaf (.int .i64 (done.length + rest.length)))), (15, .v (.leaf (.bool false)))] ks Q) →
    (l < KNode.us rest → Run G A .ret [(4, .v (.leaf (.int .i64 (-1))))] ks Q) →
    Run G A (.loop laws_szNodeS.l0) [(0, .v (.leaf (KNode.sl false (done ++ rest)))), (1, .v (.leaf (.int .i64 l))), (5, .v (.leaf (.int .i64 i)))] ks Q := by
  intro rest
  induction rest with
  | nil =>
    intro done l i hi h0 h1 hn hf hq hr
    subst hi
    refine run_loop_at laws_szNodeS.l0.eq_1 ?_
    simpa [KNode.us] using hq (by simp [KNode.us]; omega)
  | cons x rest ih =>
    intro done l i hi h0 h1 hn hf hq hr
    subst hi
    simp only [KNode.us, List.length_cons, Int.natCast_add] at hn hq hr
    refine run_loop_at laws_szNodeS.l0.eq_1 ?_
    simp only [KNode.fits] at hf
    have e1 := fun l a b => szNode x l a b hf.1
    by_cases c : ((KNode.w x : Nat) : Int) ≤ l
    · have ih := ih (done ++ [x]) (l - ↑(KNode.w x)) (done.length + 1) (by simp) (by omega) (by omega) (by simp; omega) hf.2
      simp (disch := omega) [ip, wr, e1, get_mid, szR_pos, szR_neg]
      refine run_env (ih (fun g => run_env (hq (by omega)) ?_) (fun g => hr (by omega))) ?_
      · simp <;> omega
      · simp
    · have hr := hr (by omega)
      simp (disch := omega) [ip, wr, e1, get_mid, szR_pos, szR_neg]
      first | exact hr | simpa using hr
theorem szNodeS (xs : List KNode) (left : Int) (h0 : 0 ≤ left) (h1 : left ≤ 1000000000000000) (hn : (xs.length : Int) ≤ 1000000000000000) (hf : KNode.fits xs) : A 72 [.leaf (KNode.sl false (xs)), .leaf (.int .i64 left)] = some ([.leaf (.int .i64 (szR ↑(xs.length + KNode.us xs) left))], [.gone, .gone]) := by
  refine run_laws_szNodeS ?_
  by_cases c : (xs.length : Int) ≤ left
  · simp (disch := omega) [ip, wr, laws_szNodeS.b]
    refine run_env (szNodeS_loop _ _ xs [] (left - xs.length) 0 (by simp) (by omega) (by omega) (by simp; omega) hf (fun g => ?_) (fun g => ?_)) ?_
    · have g2 : ((xs.length + KNode.us xs : Nat) : Int) ≤ left := by omega
      simp (disch := omega) [ip, wr, laws_szNodeS.b, szR_pos, szR_neg]
      omega
    · have g2 : left < ((xs.length + KNode.us xs : Nat) : Int) := by omega
      simp (disch := omega) [ip, wr, laws_szNodeS.b, szR_pos, szR_neg]
    · simp
  · have g2 : left < ((xs.length + KNode.us xs : Nat) : Int) := by omega
    simp (disch := omega) [ip, wr, laws_szNodeS.b, szR_pos, szR_neg]
theorem eqProg (x : KProg) (h : (KNode.cnts x.nodes : Int) ≤ 1000000000000000) : A 24 [.agg (KProg.row false x), .agg (KProg.row false x)] = some ([.leaf (.bool true)], [.gone, .gone]) := by
  refine run_laws_eqProg ?_
  simp (disch := omega) [ip, wr, laws_eqProg.b, eqIntS, eqStringS, eqNode, eqNodeS]
theorem toProg (x : KProg) (h : (KProg.w x : Int) ≤ 1048576) : A 21 [.agg (KProg.row false x)] = some ([.agg (KProg.row true x)], [.gone]) := by
  simp only [KProg.w] at h
  refine run_laws_toProg ?_
  simp (disch := omega) [ip, wr, laws_toProg.b, toIntS, toStringS, toNode, toNodeS]
theorem szProg (x : KProg) (left : Int) (h0 : 0 ≤ left) (h1 : left ≤ 1000000000000000) (hf : KProg.fit x) : A 19 [.agg (KProg.row false x), .leaf (.int .i64 left)] = some ([.leaf (.int .i64 (szR ↑(KProg.w x) left))], [.gone, .gone]) := by
  obtain ⟨f1, f2, -⟩ := hf
  have e0 := fun l a b => szNodeS x.nodes l a b f1 f2
  simp only [KProg.w, Int.natCast_add]
  refine run_laws_szProg ?_
  by_cases c0 : (((x.nodes.length + KNode.us x.nodes) : Nat) : Int) ≤ left
  · simp (disch := omega) [ip, wr, laws_szProg.b, e0, szR_pos, szR_neg] <;> omega
  · simp (disch := omega) [ip, wr, laws_szProg.b, e0, szR_pos, szR_neg] <;> omega
theorem eqValue (x : KValue) : A 42 [.agg (KValue.row false x), .agg (KValue.row false x)] = some ([.leaf (.bool true)], [.gone, .gone]) := by
  refine run_laws_eqValue ?_
  simp (disch := omega) [ip, wr, laws_eqValue.b, eqIntS, eqStringS, eqNode, eqNodeS, eqProg]
theorem toValue (x : KValue) (h : (KValue.w x : Int) ≤ 1048576) : A 227 [.agg (KValue.row false x)] = some ([.agg (KValue.row true x)], [.gone]) := by
  simp only [KValue.w] at h
  refine run_laws_toValue ?_
  simp (disch := omega) [ip, wr, laws_toValue.b, toIntS, toStringS, toNode, toNodeS, toProg]
theorem szValue (x : KValue) (left : Int) (h0 : 0 ≤ left) (h1 : left ≤ 1000000000000000) (hf : KValue.fit x) : A 224 [.agg (KValue.row false x), .leaf (.int .i64 left)] = some ([.leaf (.int .i64 (szR ↑(KValue.w x) left))], [.gone, .gone]) := by
  obtain ⟨f1, -⟩ := hf
  simp only [KValue.w, Int.natCast_add]
  refine run_laws_szValue ?_
  by_cases c0 : ((x.s.size : Nat) : Int) ≤ left
  · simp (disch := omega) [ip, wr, laws_szValue.b, szR_pos, szR_neg] <;> omega
  · simp (disch := omega) [ip, wr, laws_szValue.b, szR_pos, szR_neg] <;> omega
theorem eqValueS_loop (ks : List Fr) (Q : VX → Env → Prop) : ∀ (rest done : List KValue) (i : Int), i = done.length → (done.length : Int) + (KValue.cnts rest : Int) ≤ 1000000000000000 →
    Run G A (.exit 0) [(0, .v (.leaf (KValue.sl false (done ++ rest)))), (1, .v (.leaf (KValue.sl false (done ++ rest)))), (5, .v (.leaf (.int .i64 (done.length + rest.length)))), (14, .v (.leaf (.bool false)))] ks Q →
    Run G A (.loop laws_eqValueS.l0) [(0, .v (.leaf (KValue.sl false (done ++ rest)))), (1, .v (.leaf (KValue.sl false (done ++ rest)))), (5, .v (.leaf (.int .i64 i)))] ks Q := by
  intro rest
  induction rest with
  | nil =>
    intro done i hi h1 hq
    subst hi
    refine run_loop_at laws_eqValueS.l0.eq_1 ?_
    simpa using hq
  | cons x rest ih =>
    intro done i hi h1 hq
    subst hi
    simp only [KValue.cnts, KValue.cnt, List.length_cons] at h1
    have := KValue.len_le rest
    have ih := ih (done ++ [x]) (done.length + 1) (by simp) (by simp; omega)
    refine run_loop_at laws_eqValueS.l0.eq_1 ?_
    simp (disch := omega) [ip, wr, eqIntS, eqStringS, eqNode, eqNodeS, eqProg, eqValue, get_mid]
    refine run_env (ih (run_env hq ?_)) ?_
    · simp <;> omega
    · simp
theorem eqValueS (xs : List KValue) (h : (KValue.cnts xs : Int) ≤ 1000000000000000) : A 201 [.leaf (KValue.sl false (xs)), .leaf (KValue.sl false (xs))] = some ([.leaf (.bool true)], [.gone, .gone]) := by
  refine run_laws_eqValueS ?_
  have := KValue.len_le xs
  simp [laws_eqValueS.b]
  refine eqValueS_loop _ _ xs [] 0 (by simp) (by simp; omega) ?_
  simp
theorem markValueS_loop (ks : List Fr) (Q : VX → Env → Prop) : ∀ (rest done : List KValue) (k i : Int), i = done.length → 0 ≤ k → k + (KValue.cnts rest : Int) ≤ 1000000000000000 → (done.length : Int) + (KValue.cnts rest : Int) ≤ 1000000000000000 →
    Run G A (.exit 0) [(0, .v (.leaf (KValue.sl true (done ++ KValue.marks k rest)))), (1, .v (.leaf (.int .i64 (k + (KValue.cnts rest : Int))))), (5, .v (.leaf (.int .i64 (done.length + rest.length)))), (9, .v (.leaf (.bool false)))] ks Q →
    Run G A (.loop laws_markValueS.l0) [(0, .v (.leaf (KValue.sl true (done ++ rest)))), (1, .v (.leaf (.int .i64 k))), (5, .v (.leaf (.int .i64 i)))] ks Q := by
  intro rest
  induction rest with
  | nil =>
    intro done k i hi h0 h1 h2 hq
    subst hi
    refine run_loop_at laws_markValueS.l0.eq_1 ?_
    simpa [KValue.marks, KValue.cnts, KValue.cnt] using hq
  | cons x rest ih =>
    intro done k i hi h0 h1 h2 hq
    subst hi
    simp only [KValue.cnts, KValue.cnt, List.length_cons] at h1 h2
    have := KValue.len_le rest
    have ih := ih (done ++ [KValue.mark k x]) (k + (KValue.cnt x : Int)) (done.length + 1) (by simp) (by simp only [KValue.cnt]; omega) (by simp only [KValue.cnt]; omega) (by simp [KValue.cnt]; omega)
    refine run_loop_at laws_markValueS.l0.eq_1 ?_
    simp (disch := omega) [ip, wr, markText, markIntS, markStringS, markNodeS]
    refine run_env (ih (run_env hq ?_)) ?_
    · simp [KValue.marks, KValue.cnts, KValue.cnt] <;> omega
    · simp [KValue.mark, KValue.cnts, KValue.cnt] <;> omega
theorem markValueS (xs : List KValue) (k : Int) (h0 : 0 ≤ k) (h1 : k + (KValue.cnts xs : Int) ≤ 1000000000000000) : A 162 [.leaf (KValue.sl true (xs)), .leaf (.int .i64 k)] = some ([.leaf (.int .i64 (k + (KValue.cnts xs : Int)))], [.leaf (KValue.sl true (KValue.marks k xs)), .gone]) := by
  refine run_laws_markValueS ?_
  simp [laws_markValueS.b]
  refine markValueS_loop _ _ xs [] k 0 (by simp) h0 h1 (by simp; omega) ?_
  simp
theorem heldValueS_loop (ks : List Fr) (Q : VX → Env → Prop) : ∀ (rest done : List KValue) (k i : Int), i = done.length → 0 ≤ k → k + (KValue.cnts rest : Int) ≤ 1000000000000000 → (done.length : Int) + (KValue.cnts rest : Int) ≤ 1000000000000000 →
    Run G A (.exit 0) [(0, .v (.leaf (KValue.sl false (done ++ KValue.marks k rest)))), (1, .v (.leaf (.int .i64 (k + (KValue.cnts rest : Int))))), (5, .v (.leaf (.int .i64 (done.length + rest.length)))), (9, .v (.leaf (.bool false)))] ks Q →
    Run G A (.loop laws_heldValueS.l0) [(0, .v (.leaf (KValue.sl false (done ++ KValue.marks k rest)))), (1, .v (.leaf (.int .i64 k))), (5, .v (.leaf (.int .i64 i)))] ks Q := by
  intro rest
  induction rest with
  | nil =>
    intro done k i hi h0 h1 h2 hq
    subst hi
    refine run_loop_at laws_heldValueS.l0.eq_1 ?_
    simp [KValue.marks, KValue.cnts, KValue.cnt] at hq ⊢
    exact hq
  | cons x rest ih =>
    intro done k i hi h0 h1 h2 hq
    subst hi
    simp only [KValue.cnts, KValue.cnt, List.length_cons] at h1 h2
    have := KValue.len_le rest
    have ih := ih (done ++ [KValue.mark k x]) (k + (KValue.cnt x : Int)) (done.length + 1) (by simp) (by simp only [KValue.cnt]; omega) (by simp only [KValue.cnt]; omega) (by simp [KValue.cnt]; omega)
    refine run_loop_at laws_heldValueS.l0.eq_1 ?_
    simp only [KValue.marks]
    simp (disch := omega) [ip, wr, markText, KValue.mark]
    refine run_env (ih (run_env hq ?_)) ?_
    · simp [KValue.marks, KValue.cnts, KValue.cnt] <;> omega
    · simp [KValue.mark, KValue.cnts, KValue.cnt] <;> omega
theorem heldValueS (xs : List KValue) (k : Int) (h0 : 0 ≤ k) (h1 : k + (KValue.cnts xs : Int) ≤ 1000000000000000) : A 165 [.leaf (KValue.sl false (KValue.marks k xs)), .leaf (.int .i64 k)] = some ([.leaf (.int .i64 (k + (KValue.cnts xs : Int)))], [.gone, .gone]) := by
  refine run_laws_heldValueS ?_
  simp [laws_heldValueS.b]
  refine heldValueS_loop _ _ xs [] k 0 (by simp) h0 h1 (by simp; omega) ?_
  simp
theorem toValueS_loop (ks : List Fr) (Q : VX → Env → Prop) : ∀ (rest done : List KValue) (i : Int), i = done.length → (done.length : Int) + rest.length ≤ 1048576 → (KValue.us rest : Int) ≤ 1048576 →
    Run G A (.exit 0) [(0, .v (.leaf (KValue.sl false (done ++ rest)))), (3, .v (.leaf (KValue.sl true (done ++ rest)))), (4, .v (.leaf (.int .i64 (done.length + rest.length)))), (11, .v (.leaf (.bool false)))] ks Q →
    Run G A (.loop laws_toValueS.l0) [(0, .v (.leaf (KValue.sl false (done ++ rest)))), (3, .v (.leaf (.sl true 3 (done.map (KValue.row true) ++ List.replicate rest.length [.int .i64 0, .int .i64 0, .str ⟨#[]⟩])))), (4, .v (.leaf (.int .i64 i)))] ks Q := by
  intro rest
  induction rest with
  | nil =>
    intro done i hi h1 hu hq
    subst hi
    refine run_loop_at laws_toValueS.l0.eq_1 ?_
    simpa using hq
  | cons x rest ih =>
    intro done i hi h1 hu hq
    subst hi
    simp only [KValue.us, List.length_cons] at h1 hu
    have ih := ih (done ++ [x]) (done.length + 1) (by simp) (by simp; omega) (by omega)
    refine run_loop_at laws_toValueS.l0.eq_1 ?_
    simp (disch := omega) [ip, wr, toIntS, toStringS, toNode, toNodeS, toProg, toValue, get_mid, List.replicate_succ]
    refine run_env (ih (run_env hq ?_)) ?_
    · simp <;> omega
    · simp
theorem toValueS (xs : List KValue) (h : ((xs.length + KValue.us xs) : Int) ≤ 1048576) : A 198 [.leaf (KValue.sl false (xs))] = some ([.leaf (KValue.sl true (xs))], [.gone]) := by
  refine run_laws_toValueS ?_
  simp (disch := omega) [ip, wr, laws_toValueS.b]
  refine run_env (toValueS_loop _ _ xs [] 0 (by simp) (by simp; omega) (by omega) ?_) ?_
  · simp
  · simp
theorem szValueS_loop (ks : List Fr) (Q : VX → Env → Prop) : ∀ (rest done : List KValue) (l i : Int), i = done.length → 0 ≤ l → l ≤ 1000000000000000 → (done.length : Int) + rest.length ≤ 1000000000000000 → KValue.fits rest →
    ((KValue.us rest : Int) ≤ l → Run G A (.exit 0) [(0, .v (.leaf (KValue.sl false (done ++ rest)))), (1, .v (.leaf (.int .i64 (l - KValue.us rest)))), (5, .v (.leaf (.int .i64 (done.length + rest.length)))), (15, .v (.leaf (.bool false)))] ks Q) →
    (l < KValue.us rest → Run G A .ret [(4, .v (.leaf (.int .i64 (-1))))] ks Q) →
    Run G A (.loop laws_szValueS.l0) [(0, .v (.leaf (KValue.sl false (done ++ rest)))), (1, .v (.leaf (.int .i64 l))), (5, .v (.leaf (.int .i64 i)))] ks Q := by
  intro rest
  induction rest with
  | nil =>
    intro done l i hi h0 h1 hn hf hq hr
    subst hi
    refine run_loop_at laws_szValueS.l0.eq_1 ?_
    simpa [KValue.us] using hq (by simp [KValue.us]; omega)
  | cons x rest ih =>
    intro done l i hi h0 h1 hn hf hq hr
    subst hi
    simp only [KValue.us, List.length_cons, Int.natCast_add] at hn hq hr
    refine run_loop_at laws_szValueS.l0.eq_1 ?_
    simp only [KValue.fits] at hf
    have e1 := fun l a b => szValue x l a b hf.1
    by_cases c : ((KValue.w x : Nat) : Int) ≤ l
    · have ih := ih (done ++ [x]) (l - ↑(KValue.w x)) (done.length + 1) (by simp) (by omega) (by omega) (by simp; omega) hf.2
      simp (disch := omega) [ip, wr, e1, get_mid, szR_pos, szR_neg]
      refine run_env (ih (fun g => run_env (hq (by omega)) ?_) (fun g => hr (by omega))) ?_
      · simp <;> omega
      · simp
    · have hr := hr (by omega)
      simp (disch := omega) [ip, wr, e1, get_mid, szR_pos, szR_neg]
      first | exact hr | simpa using hr
theorem szValueS (xs : List KValue) (left : Int) (h0 : 0 ≤ left) (h1 : left ≤ 1000000000000000) (hn : (xs.length : Int) ≤ 1000000000000000) (hf : KValue.fits xs) : A 195 [.leaf (KValue.sl false (xs)), .leaf (.int .i64 left)] = some ([.leaf (.int .i64 (szR ↑(xs.length + KValue.us xs) left))], [.gone, .gone]) := by
  refine run_laws_szValueS ?_
  by_cases c : (xs.length : Int) ≤ left
  · simp (disch := omega) [ip, wr, laws_szValueS.b]
    refine run_env (szValueS_loop _ _ xs [] (left - xs.length) 0 (by simp) (by omega) (by omega) (by simp; omega) hf (fun g => ?_) (fun g => ?_)) ?_
    · have g2 : ((xs.length + KValue.us xs : Nat) : Int) ≤ left := by omega
      simp (disch := omega) [ip, wr, laws_szValueS.b, szR_pos, szR_neg]
      omega
    · have g2 : left < ((xs.length + KValue.us xs : Nat) : Int) := by omega
      simp (disch := omega) [ip, wr, laws_szValueS.b, szR_pos, szR_neg]
    · simp
  · have g2 : left < ((xs.length + KValue.us xs : Nat) : Int) := by omega
    simp (disch := omega) [ip, wr, laws_szValueS.b, szR_pos, szR_neg]
theorem eqCell (x : KCell) (h : (x.names.length : Int) ≤ 1000000000000000 ∧ (KValue.cnts x.vals : Int) ≤ 1000000000000000) : A 157 [.agg (KCell.row false x), .agg (KCell.row false x)] = some ([.leaf (.bool true)], [.gone, .gone]) := by
  refine run_laws_eqCell ?_
  simp (disch := omega) [ip, wr, laws_eqCell.b, eqIntS, eqStringS, eqNode, eqNodeS, eqProg, eqValue, eqValueS]
theorem toCell (x : KCell) (h : (KCell.w x : Int) ≤ 1048576) : A 153 [.agg (KCell.row false x)] = some ([.agg (KCell.row true x)], [.gone]) := by
  simp only [KCell.w] at h
  refine run_laws_toCell ?_
  simp (disch := omega) [ip, wr, laws_toCell.b, toIntS, toStringS, toNode, toNodeS, toProg, toValue, toValueS]
theorem szCell (x : KCell) (left : Int) (h0 : 0 ≤ left) (h1 : left ≤ 1000000000000000) (hf : KCell.fit x) : A 149 [.agg (KCell.row false x), .leaf (.int .i64 left)] = some ([.leaf (.int .i64 (szR ↑(KCell.w x) left))], [.gone, .gone]) := by
  obtain ⟨f1, f2, f3, f4, f5, -⟩ := hf
  have e0 := fun l a b => szStringS x.names l a b f2 f3
  have e1 := fun l a b => szValueS x.vals l a b f4 f5
  simp only [KCell.w, Int.natCast_add]
  refine run_laws_szCell ?_
  by_cases c0 : ((x.s.size : Nat) : Int) ≤ left
  · by_cases c1 : ((x.s.size : Nat) : Int) + (((x.names.length + strsU x.names) : Nat) : Int) ≤ left
    · by_cases c2 : ((x.s.size : Nat) : Int) + (((x.names.length + strsU x.names) : Nat) : Int) + (((x.vals.length + KValue.us x.vals) : Nat) : Int) ≤ left
      · simp (disch := omega) [ip, wr, laws_szCell.b, e0, e1, szR_pos, szR_neg] <;> omega
      · simp (disch := omega) [ip, wr, laws_szCell.b, e0, e1, szR_pos, szR_neg] <;> omega
    · simp (disch := omega) [ip, wr, laws_szCell.b, e0, e1, szR_pos, szR_neg] <;> omega
  · simp (disch := omega) [ip, wr, laws_szCell.b, e0, e1, szR_pos, szR_neg] <;> omega
theorem eqCellS_loop (ks : List Fr) (Q : VX → Env → Prop) : ∀ (rest done : List KCell) (i : Int), i = done.length → (done.length : Int) + (KCell.cnts rest : Int) ≤ 1000000000000000 →
    Run G A (.exit 0) [(0, .v (.leaf (KCell.sl false (done ++ rest)))), (1, .v (.leaf (KCell.sl false (done ++ rest)))), (5, .v (.leaf (.int .i64 (done.length + rest.length)))), (14, .v (.leaf (.bool false)))] ks Q →
    Run G A (.loop laws_eqCellS.l0) [(0, .v (.leaf (KCell.sl false (done ++ rest)))), (1, .v (.leaf (KCell.sl false (done ++ rest)))), (5, .v (.leaf (.int .i64 i)))] ks Q := by
  intro rest
  induction rest with
  | nil =>
    intro done i hi h1 hq
    subst hi
    refine run_loop_at laws_eqCellS.l0.eq_1 ?_
    simpa using hq
  | cons x rest ih =>
    intro done i hi h1 hq
    subst hi
    simp only [KCell.cnts, KCell.cnt, List.length_cons] at h1
    have := KCell.len_le rest
    have ih := ih (done ++ [x]) (done.length + 1) (by simp) (by simp; omega)
    refine run_loop_at laws_eqCellS.l0.eq_1 ?_
    simp (disch := omega) [ip, wr, eqIntS, eqStringS, eqNode, eqNodeS, eqProg, eqValue, eqValueS, eqCell, get_mid]
    refine run_env (ih (run_env hq ?_)) ?_
    · simp <;> omega
    · simp
theorem eqCellS (xs : List KCell) (h : (KCell.cnts xs : Int) ≤ 1000000000000000) : A 99 [.leaf (KCell.sl false (xs)), .leaf (KCell.sl false (xs))] = some ([.leaf (.bool true)], [.gone, .gone]) := by
  refine run_laws_eqCellS ?_
  have := KCell.len_le xs
  simp [laws_eqCellS.b]
  refine eqCellS_loop _ _ xs [] 0 (by simp) (by simp; omega) ?_
  simp
theorem markCellS_loop (ks : List Fr) (Q : VX → Env → Prop) : ∀ (rest done : List KCell) (k i : Int), i = done.length → 0 ≤ k → k + (KCell.cnts rest : Int) ≤ 1000000000000000 → (done.length : Int) + (KCell.cnts rest : Int) ≤ 1000000000000000 →
    Run G A (.exit 0) [(0, .v (.leaf (KCell.sl true (done ++ KCell.marks k rest)))), (1, .v (.leaf (.int .i64 (k + (KCell.cnts rest : Int))))), (5, .v (.leaf (.int .i64 (done.length + rest.length)))), (9, .v (.leaf (.bool false)))] ks Q →
    Run G A (.loop laws_markCellS.l0) [(0, .v (.leaf (KCell.sl true (done ++ rest)))), (1, .v (.leaf (.int .i64 k))), (5, .v (.leaf (.int .i64 i)))] ks Q := by
  intro rest
  induction rest with
  | nil =>
    intro done k i hi h0 h1 h2 hq
    subst hi
    refine run_loop_at laws_markCellS.l0.eq_1 ?_
    simpa [KCell.marks, KCell.cnts, KCell.cnt] using hq
  | cons x rest ih =>
    intro done k i hi h0 h1 h2 hq
    subst hi
    simp only [KCell.cnts, KCell.cnt, List.length_cons] at h1 h2
    have := KCell.len_le rest
    have ih := ih (done ++ [KCell.mark k x]) (k + (KCell.cnt x : Int)) (done.length + 1) (by simp) (by simp only [KCell.cnt]; omega) (by simp only [KCell.cnt]; omega) (by simp [KCell.cnt]; omega)
    refine run_loop_at laws_markCellS.l0.eq_1 ?_
    simp (disch := omega) [ip, wr, markText, markIntS, markStringS, markNodeS, markValueS]
    refine run_env (ih (run_env hq ?_)) ?_
    · simp [KCell.marks, KCell.cnts, KCell.cnt] <;> omega
    · simp [KCell.mark, KCell.cnts, KCell.cnt] <;> omega
theorem markCellS (xs : List KCell) (k : Int) (h0 : 0 ≤ k) (h1 : k + (KCell.cnts xs : Int) ≤ 1000000000000000) : A 105 [.leaf (KCell.sl true (xs)), .leaf (.int .i64 k)] = some ([.leaf (.int .i64 (k + (KCell.cnts xs : Int)))], [.leaf (KCell.sl true (KCell.marks k xs)), .gone]) := by
  refine run_laws_markCellS ?_
  simp [laws_markCellS.b]
  refine markCellS_loop _ _ xs [] k 0 (by simp) h0 h1 (by simp; omega) ?_
  simp
theorem toCellS_loop (ks : List Fr) (Q : VX → Env → Prop) : ∀ (rest done : List KCell) (i : Int), i = done.length → (done.length : Int) + rest.length ≤ 1048576 → (KCell.us rest : Int) ≤ 1048576 →
    Run G A (.exit 0) [(0, .v (.leaf (KCell.sl false (done ++ rest)))), (3, .v (.leaf (KCell.sl true (done ++ rest)))), (4, .v (.leaf (.int .i64 (done.length + rest.length)))), (11, .v (.leaf (.bool false)))] ks Q →
    Run G A (.loop laws_toCellS.l0) [(0, .v (.leaf (KCell.sl false (done ++ rest)))), (3, .v (.leaf (.sl true 6 (done.map (KCell.row true) ++ List.replicate rest.length [.int .i64 0, .str ⟨#[]⟩, .int .i64 0, .int .i64 0, .sl true 1 [], .sl true 3 []])))), (4, .v (.leaf (.int .i64 i)))] ks Q := by
  intro rest
  induction rest with
  | nil =>
    intro done i hi h1 hu hq
    subst hi
    refine run_loop_at laws_toCellS.l0.eq_1 ?_
    simpa using hq
  | cons x rest ih =>
    intro done i hi h1 hu hq
    subst hi
    simp only [KCell.us, List.length_cons] at h1 hu
    have ih := ih (done ++ [x]) (done.length + 1) (by simp) (by simp; omega) (by omega)
    refine run_loop_at laws_toCellS.l0.eq_1 ?_
    simp (disch := omega) [ip, wr, toIntS, toStringS, toNode, toNodeS, toProg, toValue, toValueS, toCell, get_mid, List.replicate_succ]
    refine run_env (ih (run_env hq ?_)) ?_
    · simp <;> omega
    · simp
theorem toCellS (xs : List KCell) (h : ((xs.length + KCell.us xs) : Int) ≤ 1048576) : A 94 [.leaf (KCell.sl false (xs))] = some ([.leaf (KCell.sl true (xs))], [.gone]) := by
  refine run_laws_toCellS ?_
  simp (disch := omega) [ip, wr, laws_toCellS.b]
  refine run_env (toCellS_loop _ _ xs [] 0 (by simp) (by simp; omega) (by omega) ?_) ?_
  · simp
  · simp
theorem szCellS_loop (ks : List Fr) (Q : VX → Env → Prop) : ∀ (rest done : List KCell) (l i : Int), i = done.length → 0 ≤ l → l ≤ 1000000000000000 → (done.length : Int) + rest.length ≤ 1000000000000000 → KCell.fits rest →
    ((KCell.us rest : Int) ≤ l → Run G A (.exit 0) [(0, .v (.leaf (KCell.sl false (done ++ rest)))), (1, .v (.leaf (.int .i64 (l - KCell.us rest)))), (5, .v (.leaf (.int .i64 (done.length + rest.length)))), (15, .v (.leaf (.bool false)))] ks Q) →
    (l < KCell.us rest → Run G A .ret [(4, .v (.leaf (.int .i64 (-1))))] ks Q) →
    Run G A (.loop laws_szCellS.l0) [(0, .v (.leaf (KCell.sl false (done ++ rest)))), (1, .v (.leaf (.int .i64 l))), (5, .v (.leaf (.int .i64 i)))] ks Q := by
  intro rest
  induction rest with
  | nil =>
    intro done l i hi h0 h1 hn hf hq hr
    subst hi
    refine run_loop_at laws_szCellS.l0.eq_1 ?_
    simpa [KCell.us] using hq (by simp [KCell.us]; omega)
  | cons x rest ih =>
    intro done l i hi h0 h1 hn hf hq hr
    subst hi
    simp only [KCell.us, List.length_cons, Int.natCast_add] at hn hq hr
    refine run_loop_at laws_szCellS.l0.eq_1 ?_
    simp only [KCell.fits] at hf
    have e1 := fun l a b => szCell x l a b hf.1
    by_cases c : ((KCell.w x : Nat) : Int) ≤ l
    · have ih := ih (done ++ [x]) (l - ↑(KCell.w x)) (done.length + 1) (by simp) (by omega) (by omega) (by simp; omega) hf.2
      simp (disch := omega) [ip, wr, e1, get_mid, szR_pos, szR_neg]
      refine run_env (ih (fun g => run_env (hq (by omega)) ?_) (fun g => hr (by omega))) ?_
      · simp <;> omega
      · simp
    · have hr := hr (by omega)
      simp (disch := omega) [ip, wr, e1, get_mid, szR_pos, szR_neg]
      first | exact hr | simpa using hr
theorem szCellS (xs : List KCell) (left : Int) (h0 : 0 ≤ left) (h1 : left ≤ 1000000000000000) (hn : (xs.length : Int) ≤ 1000000000000000) (hf : KCell.fits xs) : A 89 [.leaf (KCell.sl false (xs)), .leaf (.int .i64 left)] = some ([.leaf (.int .i64 (szR ↑(xs.length + KCell.us xs) left))], [.gone, .gone]) := by
  refine run_laws_szCellS ?_
  by_cases c : (xs.length : Int) ≤ left
  · simp (disch := omega) [ip, wr, laws_szCellS.b]
    refine run_env (szCellS_loop _ _ xs [] (left - xs.length) 0 (by simp) (by omega) (by omega) (by simp; omega) hf (fun g => ?_) (fun g => ?_)) ?_
    · have g2 : ((xs.length + KCell.us xs : Nat) : Int) ≤ left := by omega
      simp (disch := omega) [ip, wr, laws_szCellS.b, szR_pos, szR_neg]
      omega
    · have g2 : left < ((xs.length + KCell.us xs : Nat) : Int) := by omega
      simp (disch := omega) [ip, wr, laws_szCellS.b, szR_pos, szR_neg]
    · simp
  · have g2 : left < ((xs.length + KCell.us xs : Nat) : Int) := by omega
    simp (disch := omega) [ip, wr, laws_szCellS.b, szR_pos, szR_neg]
theorem eqLink (x : KLink) : A 230 [.agg (KLink.row false x), .agg (KLink.row false x)] = some ([.leaf (.bool true)], [.gone, .gone]) := by
  refine run_laws_eqLink ?_
  simp (disch := omega) [ip, wr, laws_eqLink.b, eqIntS, eqStringS, eqNode, eqNodeS, eqProg, eqValue, eqValueS, eqCell, eqCellS]
theorem toLink (x : KLink) (h : (KLink.w x : Int) ≤ 1048576) : A 228 [.agg (KLink.row false x)] = some ([.agg (KLink.row true x)], [.gone]) := by
  simp only [KLink.w] at h
  refine run_laws_toLink ?_
  simp (disch := omega) [ip, wr, laws_toLink.b, toIntS, toStringS, toNode, toNodeS, toProg, toValue, toValueS, toCell, toCellS]
theorem szLink (x : KLink) (left : Int) (h0 : 0 ≤ left) (h1 : left ≤ 1000000000000000) (hf : KLink.fit x) : A 225 [.agg (KLink.row false x), .leaf (.int .i64 left)] = some ([.leaf (.int .i64 (szR ↑(KLink.w x) left))], [.gone, .gone]) := by
  obtain ⟨f1, f2, -⟩ := hf
  simp only [KLink.w, Int.natCast_add]
  refine run_laws_szLink ?_
  by_cases c0 : ((x.name.size : Nat) : Int) ≤ left
  · by_cases c1 : ((x.name.size : Nat) : Int) + ((x.at_.size : Nat) : Int) ≤ left
    · simp (disch := omega) [ip, wr, laws_szLink.b, szR_pos, szR_neg] <;> omega
    · simp (disch := omega) [ip, wr, laws_szLink.b, szR_pos, szR_neg] <;> omega
  · simp (disch := omega) [ip, wr, laws_szLink.b, szR_pos, szR_neg] <;> omega
theorem eqLinkS_loop (ks : List Fr) (Q : VX → Env → Prop) : ∀ (rest done : List KLink) (i : Int), i = done.length → (done.length : Int) + (KLink.cnts rest : Int) ≤ 1000000000000000 →
    Run G A (.exit 0) [(0, .v (.leaf (KLink.sl false (done ++ rest)))), (1, .v (.leaf (KLink.sl false (done ++ rest)))), (5, .v (.leaf (.int .i64 (done.length + rest.length)))), (14, .v (.leaf (.bool false)))] ks Q →
    Run G A (.loop laws_eqLinkS.l0) [(0, .v (.leaf (KLink.sl false (done ++ rest)))), (1, .v (.leaf (KLink.sl false (done ++ rest)))), (5, .v (.leaf (.int .i64 i)))] ks Q := by
  intro rest
  induction rest with
  | nil =>
    intro done i hi h1 hq
    subst hi
    refine run_loop_at laws_eqLinkS.l0.eq_1 ?_
    simpa using hq
  | cons x rest ih =>
    intro done i hi h1 hq
    subst hi
    simp only [KLink.cnts, KLink.cnt, List.length_cons] at h1
    have := KLink.len_le rest
    have ih := ih (done ++ [x]) (done.length + 1) (by simp) (by simp; omega)
    refine run_loop_at laws_eqLinkS.l0.eq_1 ?_
    simp (disch := omega) [ip, wr, eqIntS, eqStringS, eqNode, eqNodeS, eqProg, eqValue, eqValueS, eqCell, eqCellS, eqLink, get_mid]
    refine run_env (ih (run_env hq ?_)) ?_
    · simp <;> omega
    · simp
theorem eqLinkS (xs : List KLink) (h : (KLink.cnts xs : Int) ≤ 1000000000000000) : A 202 [.leaf (KLink.sl false (xs)), .leaf (KLink.sl false (xs))] = some ([.leaf (.bool true)], [.gone, .gone]) := by
  refine run_laws_eqLinkS ?_
  have := KLink.len_le xs
  simp [laws_eqLinkS.b]
  refine eqLinkS_loop _ _ xs [] 0 (by simp) (by simp; omega) ?_
  simp
theorem markLinkS_loop (ks : List Fr) (Q : VX → Env → Prop) : ∀ (rest done : List KLink) (k i : Int), i = done.length → 0 ≤ k → k + (KLink.cnts rest : Int) ≤ 1000000000000000 → (done.length : Int) + (KLink.cnts rest : Int) ≤ 1000000000000000 →
    Run G A (.exit 0) [(0, .v (.leaf (KLink.sl true (done ++ KLink.marks k rest)))), (1, .v (.leaf (.int .i64 (k + (KLink.cnts rest : Int))))), (5, .v (.leaf (.int .i64 (done.length + rest.length)))), (9, .v (.leaf (.bool false)))] ks Q →
    Run G A (.loop laws_markLinkS.l0) [(0, .v (.leaf (KLink.sl true (done ++ rest)))), (1, .v (.leaf (.int .i64 k))), (5, .v (.leaf (.int .i64 i)))] ks Q := by
  intro rest
  induction rest with
  | nil =>
    intro done k i hi h0 h1 h2 hq
    subst hi
    refine run_loop_at laws_markLinkS.l0.eq_1 ?_
    simpa [KLink.marks, KLink.cnts, KLink.cnt] using hq
  | cons x rest ih =>
    intro done k i hi h0 h1 h2 hq
    subst hi
    simp only [KLink.cnts, KLink.cnt, List.length_cons] at h1 h2
    have := KLink.len_le rest
    have ih := ih (done ++ [KLink.mark k x]) (k + (KLink.cnt x : Int)) (done.length + 1) (by simp) (by simp only [KLink.cnt]; omega) (by simp only [KLink.cnt]; omega) (by simp [KLink.cnt]; omega)
    refine run_loop_at laws_markLinkS.l0.eq_1 ?_
    simp (disch := omega) [ip, wr, markText, markIntS, markStringS, markNodeS, markValueS, markCellS]
    refine run_env (ih (run_env hq ?_)) ?_
    · simp [KLink.marks, KLink.cnts, KLink.cnt] <;> omega
    · simp [KLink.mark, KLink.cnts, KLink.cnt] <;> omega
theorem markLinkS (xs : List KLink) (k : Int) (h0 : 0 ≤ k) (h1 : k + (KLink.cnts xs : Int) ≤ 1000000000000000) : A 163 [.leaf (KLink.sl true (xs)), .leaf (.int .i64 k)] = some ([.leaf (.int .i64 (k + (KLink.cnts xs : Int)))], [.leaf (KLink.sl true (KLink.marks k xs)), .gone]) := by
  refine run_laws_markLinkS ?_
  simp [laws_markLinkS.b]
  refine markLinkS_loop _ _ xs [] k 0 (by simp) h0 h1 (by simp; omega) ?_
  simp
theorem toLinkS_loop (ks : List Fr) (Q : VX → Env → Prop) : ∀ (rest done : List KLink) (i : Int), i = done.length → (done.length : Int) + rest.length ≤ 1048576 → (KLink.us rest : Int) ≤ 1048576 →
    Run G A (.exit 0) [(0, .v (.leaf (KLink.sl false (done ++ rest)))), (3, .v (.leaf (KLink.sl true (done ++ rest)))), (4, .v (.leaf (.int .i64 (done.length + rest.length)))), (11, .v (.leaf (.bool false)))] ks Q →
    Run G A (.loop laws_toLinkS.l0) [(0, .v (.leaf (KLink.sl false (done ++ rest)))), (3, .v (.leaf (.sl true 3 (done.map (KLink.row true) ++ List.replicate rest.length [.str ⟨#[]⟩, .int .i64 0, .str ⟨#[]⟩])))), (4, .v (.leaf (.int .i64 i)))] ks Q := by
  intro rest
  induction rest with
  | nil =>
    intro done i hi h1 hu hq
    subst hi
    refine run_loop_at laws_toLinkS.l0.eq_1 ?_
    simpa using hq
  | cons x rest ih =>
    intro done i hi h1 hu hq
    subst hi
    simp only [KLink.us, List.length_cons] at h1 hu
    have ih := ih (done ++ [x]) (done.length + 1) (by simp) (by simp; omega) (by omega)
    refine run_loop_at laws_toLinkS.l0.eq_1 ?_
    simp (disch := omega) [ip, wr, toIntS, toStringS, toNode, toNodeS, toProg, toValue, toValueS, toCell, toCellS, toLink, get_mid, List.replicate_succ]
    refine run_env (ih (run_env hq ?_)) ?_
    · simp <;> omega
    · simp
theorem toLinkS (xs : List KLink) (h : ((xs.length + KLink.us xs) : Int) ≤ 1048576) : A 199 [.leaf (KLink.sl false (xs))] = some ([.leaf (KLink.sl true (xs))], [.gone]) := by
  refine run_laws_toLinkS ?_
  simp (disch := omega) [ip, wr, laws_toLinkS.b]
  refine run_env (toLinkS_loop _ _ xs [] 0 (by simp) (by simp; omega) (by omega) ?_) ?_
  · simp
  · simp
theorem szLinkS_loop (ks : List Fr) (Q : VX → Env → Prop) : ∀ (rest done : List KLink) (l i : Int), i = done.length → 0 ≤ l → l ≤ 1000000000000000 → (done.length : Int) + rest.length ≤ 1000000000000000 → KLink.fits rest →
    ((KLink.us rest : Int) ≤ l → Run G A (.exit 0) [(0, .v (.leaf (KLink.sl false (done ++ rest)))), (1, .v (.leaf (.int .i64 (l - KLink.us rest)))), (5, .v (.leaf (.int .i64 (done.length + rest.length)))), (15, .v (.leaf (.bool false)))] ks Q) →
    (l < KLink.us rest → Run G A .ret [(4, .v (.leaf (.int .i64 (-1))))] ks Q) →
    Run G A (.loop laws_szLinkS.l0) [(0, .v (.leaf (KLink.sl false (done ++ rest)))), (1, .v (.leaf (.int .i64 l))), (5, .v (.leaf (.int .i64 i)))] ks Q := by
  intro rest
  induction rest with
  | nil =>
    intro done l i hi h0 h1 hn hf hq hr
    subst hi
    refine run_loop_at laws_szLinkS.l0.eq_1 ?_
    simpa [KLink.us] using hq (by simp [KLink.us]; omega)
  | cons x rest ih =>
    intro done l i hi h0 h1 hn hf hq hr
    subst hi
    simp only [KLink.us, List.length_cons, Int.natCast_add] at hn hq hr
    refine run_loop_at laws_szLinkS.l0.eq_1 ?_
    simp only [KLink.fits] at hf
    have e1 := fun l a b => szLink x l a b hf.1
    by_cases c : ((KLink.w x : Nat) : Int) ≤ l
    · have ih := ih (done ++ [x]) (l - ↑(KLink.w x)) (done.length + 1) (by simp) (by omega) (by omega) (by simp; omega) hf.2
      simp (disch := omega) [ip, wr, e1, get_mid, szR_pos, szR_neg]
      refine run_env (ih (fun g => run_env (hq (by omega)) ?_) (fun g => hr (by omega))) ?_
      · simp <;> omega
      · simp
    · have hr := hr (by omega)
      simp (disch := omega) [ip, wr, e1, get_mid, szR_pos, szR_neg]
      first | exact hr | simpa using hr
theorem szLinkS (xs : List KLink) (left : Int) (h0 : 0 ≤ left) (h1 : left ≤ 1000000000000000) (hn : (xs.length : Int) ≤ 1000000000000000) (hf : KLink.fits xs) : A 196 [.leaf (KLink.sl false (xs)), .leaf (.int .i64 left)] = some ([.leaf (.int .i64 (szR ↑(xs.length + KLink.us xs) left))], [.gone, .gone]) := by
  refine run_laws_szLinkS ?_
  by_cases c : (xs.length : Int) ≤ left
  · simp (disch := omega) [ip, wr, laws_szLinkS.b]
    refine run_env (szLinkS_loop _ _ xs [] (left - xs.length) 0 (by simp) (by omega) (by omega) (by simp; omega) hf (fun g => ?_) (fun g => ?_)) ?_
    · have g2 : ((xs.length + KLink.us xs : Nat) : Int) ≤ left := by omega
      simp (disch := omega) [ip, wr, laws_szLinkS.b, szR_pos, szR_neg]
      omega
    · have g2 : left < ((xs.length + KLink.us xs : Nat) : Int) := by omega
      simp (disch := omega) [ip, wr, laws_szLinkS.b, szR_pos, szR_neg]
    · simp
  · have g2 : left < ((xs.length + KLink.us xs : Nat) : Int) := by omega
    simp (disch := omega) [ip, wr, laws_szLinkS.b, szR_pos, szR_neg]
theorem eqType (x : KType) : A 231 [.agg (KType.row false x), .agg (KType.row false x)] = some ([.leaf (.bool true)], [.gone, .gone]) := by
  refine run_laws_eqType ?_
  simp (disch := omega) [ip, wr, laws_eqType.b, eqIntS, eqStringS, eqNode, eqNodeS, eqProg, eqValue, eqValueS, eqCell, eqCellS, eqLink, eqLinkS]
theorem toType (x : KType) (h : (KType.w x : Int) ≤ 1048576) : A 229 [.agg (KType.row false x)] = some ([.agg (KType.row true x)], [.gone]) := by
  simp only [KType.w] at h
  refine run_laws_toType ?_
  simp (disch := omega) [ip, wr, laws_toType.b, toIntS, toStringS, toNode, toNodeS, toProg, toValue, toValueS, toCell, toCellS, toLink, toLinkS]
theorem szType (x : KType) (left : Int) (h0 : 0 ≤ left) (h1 : left ≤ 1000000000000000) (hf : KType.fit x) : A 226 [.agg (KType.row false x), .leaf (.int .i64 left)] = some ([.leaf (.int .i64 (szR ↑(KType.w x) left))], [.gone, .gone]) := by
  obtain ⟨f1, -⟩ := hf
  simp only [KType.w, Int.natCast_add]
  refine run_laws_szType ?_
  by_cases c0 : ((x.name.size : Nat) : Int) ≤ left
  · simp (disch := omega) [ip, wr, laws_szType.b, szR_pos, szR_neg] <;> omega
  · simp (disch := omega) [ip, wr, laws_szType.b, szR_pos, szR_neg] <;> omega
theorem eqTypeS_loop (ks : List Fr) (Q : VX → Env → Prop) : ∀ (rest done : List KType) (i : Int), i = done.length → (done.length : Int) + (KType.cnts rest : Int) ≤ 1000000000000000 →
    Run G A (.exit 0) [(0, .v (.leaf (KType.sl false (done ++ rest)))), (1, .v (.leaf (KType.sl false (done ++ rest)))), (5, .v (.leaf (.int .i64 (done.length + rest.length)))), (14, .v (.leaf (.bool false)))] ks Q →
    Run G A (.loop laws_eqTypeS.l0) [(0, .v (.leaf (KType.sl false (done ++ rest)))), (1, .v (.leaf (KType.sl false (done ++ rest)))), (5, .v (.leaf (.int .i64 i)))] ks Q := by
  intro rest
  induction rest with
  | nil =>
    intro done i hi h1 hq
    subst hi
    refine run_loop_at laws_eqTypeS.l0.eq_1 ?_
    simpa using hq
  | cons x rest ih =>
    intro done i hi h1 hq
    subst hi
    simp only [KType.cnts, KType.cnt, List.length_cons] at h1
    have := KType.len_le rest
    have ih := ih (done ++ [x]) (done.length + 1) (by simp) (by simp; omega)
    refine run_loop_at laws_eqTypeS.l0.eq_1 ?_
    simp (disch := omega) [ip, wr, eqIntS, eqStringS, eqNode, eqNodeS, eqProg, eqValue, eqValueS, eqCell, eqCellS, eqLink, eqLinkS, eqType, get_mid]
    refine run_env (ih (run_env hq ?_)) ?_
    · simp <;> omega
    · simp
theorem eqTypeS (xs : List KType) (h : (KType.cnts xs : Int) ≤ 1000000000000000) : A 203 [.leaf (KType.sl false (xs)), .leaf (KType.sl false (xs))] = some ([.leaf (.bool true)], [.gone, .gone]) := by
  refine run_laws_eqTypeS ?_
  have := KType.len_le xs
  simp [laws_eqTypeS.b]
  refine eqTypeS_loop _ _ xs [] 0 (by simp) (by simp; omega) ?_
  simp
theorem markTypeS_loop (ks : List Fr) (Q : VX → Env → Prop) : ∀ (rest done : List KType) (k i : Int), i = done.length → 0 ≤ k → k + (KType.cnts rest : Int) ≤ 1000000000000000 → (done.length : Int) + (KType.cnts rest : Int) ≤ 1000000000000000 →
    Run G A (.exit 0) [(0, .v (.leaf (KType.sl true (done ++ KType.marks k rest)))), (1, .v (.leaf (.int .i64 (k + (KType.cnts rest : Int))))), (5, .v (.leaf (.int .i64 (done.length + rest.length)))), (9, .v (.leaf (.bool false)))] ks Q →
    Run G A (.loop laws_markTypeS.l0) [(0, .v (.leaf (KType.sl true (done ++ rest)))), (1, .v (.leaf (.int .i64 k))), (5, .v (.leaf (.int .i64 i)))] ks Q := by
  intro rest
  induction rest with
  | nil =>
    intro done k i hi h0 h1 h2 hq
    subst hi
    refine run_loop_at laws_markTypeS.l0.eq_1 ?_
    simpa [KType.marks, KType.cnts, KType.cnt] using hq
  | cons x rest ih =>
    intro done k i hi h0 h1 h2 hq
    subst hi
    simp only [KType.cnts, KType.cnt, List.length_cons] at h1 h2
    have := KType.len_le rest
    have ih := ih (done ++ [KType.mark k x]) (k + (KType.cnt x : Int)) (done.length + 1) (by simp) (by simp only [KType.cnt]; omega) (by simp only [KType.cnt]; omega) (by simp [KType.cnt]; omega)
    refine run_loop_at laws_markTypeS.l0.eq_1 ?_
    simp (disch := omega) [ip, wr, markText, markIntS, markStringS, markNodeS, markValueS, markCellS, markLinkS]
    refine run_env (ih (run_env hq ?_)) ?_
    · simp [KType.marks, KType.cnts, KType.cnt] <;> omega
    · simp [KType.mark, KType.cnts, KType.cnt] <;> omega
theorem markTypeS (xs : List KType) (k : Int) (h0 : 0 ≤ k) (h1 : k + (KType.cnts xs : Int) ≤ 1000000000000000) : A 164 [.leaf (KType.sl true (xs)), .leaf (.int .i64 k)] = some ([.leaf (.int .i64 (k + (KType.cnts xs : Int)))], [.leaf (KType.sl true (KType.marks k xs)), .gone]) := by
  refine run_laws_markTypeS ?_
  simp [laws_markTypeS.b]
  refine markTypeS_loop _ _ xs [] k 0 (by simp) h0 h1 (by simp; omega) ?_
  simp
theorem toTypeS_loop (ks : List Fr) (Q : VX → Env → Prop) : ∀ (rest done : List KType) (i : Int), i = done.length → (done.length : Int) + rest.length ≤ 1048576 → (KType.us rest : Int) ≤ 1048576 →
    Run G A (.exit 0) [(0, .v (.leaf (KType.sl false (done ++ rest)))), (3, .v (.leaf (KType.sl true (done ++ rest)))), (4, .v (.leaf (.int .i64 (done.length + rest.length)))), (11, .v (.leaf (.bool false)))] ks Q →
    Run G A (.loop laws_toTypeS.l0) [(0, .v (.leaf (KType.sl false (done ++ rest)))), (3, .v (.leaf (.sl true 2 (done.map (KType.row true) ++ List.replicate rest.length [.str ⟨#[]⟩, .int .i64 0])))), (4, .v (.leaf (.int .i64 i)))] ks Q := by
  intro rest
  induction rest with
  | nil =>
    intro done i hi h1 hu hq
    subst hi
    refine run_loop_at laws_toTypeS.l0.eq_1 ?_
    simpa using hq
  | cons x rest ih =>
    intro done i hi h1 hu hq
    subst hi
    simp only [KType.us, List.length_cons] at h1 hu
    have ih := ih (done ++ [x]) (done.length + 1) (by simp) (by simp; omega) (by omega)
    refine run_loop_at laws_toTypeS.l0.eq_1 ?_
    simp (disch := omega) [ip, wr, toIntS, toStringS, toNode, toNodeS, toProg, toValue, toValueS, toCell, toCellS, toLink, toLinkS, toType, get_mid, List.replicate_succ]
    refine run_env (ih (run_env hq ?_)) ?_
    · simp <;> omega
    · simp
theorem toTypeS (xs : List KType) (h : ((xs.length + KType.us xs) : Int) ≤ 1048576) : A 200 [.leaf (KType.sl false (xs))] = some ([.leaf (KType.sl true (xs))], [.gone]) := by
  refine run_laws_toTypeS ?_
  simp (disch := omega) [ip, wr, laws_toTypeS.b]
  refine run_env (toTypeS_loop _ _ xs [] 0 (by simp) (by simp; omega) (by omega) ?_) ?_
  · simp
  · simp
theorem szTypeS_loop (ks : List Fr) (Q : VX → Env → Prop) : ∀ (rest done : List KType) (l i : Int), i = done.length → 0 ≤ l → l ≤ 1000000000000000 → (done.length : Int) + rest.length ≤ 1000000000000000 → KType.fits rest →
    ((KType.us rest : Int) ≤ l → Run G A (.exit 0) [(0, .v (.leaf (KType.sl false (done ++ rest)))), (1, .v (.leaf (.int .i64 (l - KType.us rest)))), (5, .v (.leaf (.int .i64 (done.length + rest.length)))), (15, .v (.leaf (.bool false)))] ks Q) →
    (l < KType.us rest → Run G A .ret [(4, .v (.leaf (.int .i64 (-1))))] ks Q) →
    Run G A (.loop laws_szTypeS.l0) [(0, .v (.leaf (KType.sl false (done ++ rest)))), (1, .v (.leaf (.int .i64 l))), (5, .v (.leaf (.int .i64 i)))] ks Q := by
  intro rest
  induction rest with
  | nil =>
    intro done l i hi h0 h1 hn hf hq hr
    subst hi
    refine run_loop_at laws_szTypeS.l0.eq_1 ?_
    simpa [KType.us] using hq (by simp [KType.us]; omega)
  | cons x rest ih =>
    intro done l i hi h0 h1 hn hf hq hr
    subst hi
    simp only [KType.us, List.length_cons, Int.natCast_add] at hn hq hr
    refine run_loop_at laws_szTypeS.l0.eq_1 ?_
    simp only [KType.fits] at hf
    have e1 := fun l a b => szType x l a b hf.1
    by_cases c : ((KType.w x : Nat) : Int) ≤ l
    · have ih := ih (done ++ [x]) (l - ↑(KType.w x)) (done.length + 1) (by simp) (by omega) (by omega) (by simp; omega) hf.2
      simp (disch := omega) [ip, wr, e1, get_mid, szR_pos, szR_neg]
      refine run_env (ih (fun g => run_env (hq (by omega)) ?_) (fun g => hr (by omega))) ?_
      · simp <;> omega
      · simp
    · have hr := hr (by omega)
      simp (disch := omega) [ip, wr, e1, get_mid, szR_pos, szR_neg]
      first | exact hr | simpa using hr
theorem szTypeS (xs : List KType) (left : Int) (h0 : 0 ≤ left) (h1 : left ≤ 1000000000000000) (hn : (xs.length : Int) ≤ 1000000000000000) (hf : KType.fits xs) : A 197 [.leaf (KType.sl false (xs)), .leaf (.int .i64 left)] = some ([.leaf (.int .i64 (szR ↑(xs.length + KType.us xs) left))], [.gone, .gone]) := by
  refine run_laws_szTypeS ?_
  by_cases c : (xs.length : Int) ≤ left
  · simp (disch := omega) [ip, wr, laws_szTypeS.b]
    refine run_env (szTypeS_loop _ _ xs [] (left - xs.length) 0 (by simp) (by omega) (by omega) (by simp; omega) hf (fun g => ?_) (fun g => ?_)) ?_
    · have g2 : ((xs.length + KType.us xs : Nat) : Int) ≤ left := by omega
      simp (disch := omega) [ip, wr, laws_szTypeS.b, szR_pos, szR_neg]
      omega
    · have g2 : left < ((xs.length + KType.us xs : Nat) : Int) := by omega
      simp (disch := omega) [ip, wr, laws_szTypeS.b, szR_pos, szR_neg]
    · simp
  · have g2 : left < ((xs.length + KType.us xs : Nat) : Int) := by omega
    simp (disch := omega) [ip, wr, laws_szTypeS.b, szR_pos, szR_neg]
theorem eqInst (x : KInst) (h : (x.names.length : Int) ≤ 1000000000000000 ∧ (KValue.cnts x.vals : Int) ≤ 1000000000000000 ∧ (KLink.cnts x.links : Int) ≤ 1000000000000000 ∧ (KType.cnts x.types : Int) ≤ 1000000000000000) : A 158 [.agg (KInst.row false x), .agg (KInst.row false x)] = some ([.leaf (.bool true)], [.gone, .gone]) := by
  refine run_laws_eqInst ?_
  simp (disch := omega) [ip, wr, laws_eqInst.b, eqIntS, eqStringS, eqNode, eqNodeS, eqProg, eqValue, eqValueS, eqCell, eqCellS, eqLink, eqLinkS, eqType, eqTypeS]
theorem toInst (x : KInst) (h : (KInst.w x : Int) ≤ 1048576) : A 154 [.agg (KInst.row false x)] = some ([.agg (KInst.row true x)], [.gone]) := by
  simp only [KInst.w] at h
  refine run_laws_toInst ?_
  simp (disch := omega) [ip, wr, laws_toInst.b, toIntS, toStringS, toNode, toNodeS, toProg, toValue, toValueS, toCell, toCellS, toLink, toLinkS, toType, toTypeS]
theorem szInst (x : KInst) (left : Int) (h0 : 0 ≤ left) (h1 : left ≤ 1000000000000000) (hf : KInst.fit x) : A 150 [.agg (KInst.row false x), .leaf (.int .i64 left)] = some ([.leaf (.int .i64 (szR ↑(KInst.w x) left))], [.gone, .gone]) := by
  obtain ⟨f1, f2, f3, f4, f5, f6, f7, f8, f9, -⟩ := hf
  have e0 := fun l a b => szStringS x.names l a b f2 f3
  have e1 := fun l a b => szValueS x.vals l a b f4 f5
  have e2 := fun l a b => szLinkS x.links l a b f6 f7
  have e3 := fun l a b => szTypeS x.types l a b f8 f9
  simp only [KInst.w, Int.natCast_add]
  refine run_laws_szInst ?_
  by_cases c0 : ((x.lib.size : Nat) : Int) ≤ left
  · by_cases c1 : ((x.lib.size : Nat) : Int) + (((x.names.length + strsU x.names) : Nat) : Int) ≤ left
    · by_cases c2 : ((x.lib.size : Nat) : Int) + (((x.names.length + strsU x.names) : Nat) : Int) + (((x.vals.length + KValue.us x.vals) : Nat) : Int) ≤ left
      · by_cases c3 : ((x.lib.size : Nat) : Int) + (((x.names.length + strsU x.names) : Nat) : Int) + (((x.vals.length + KValue.us x.vals) : Nat) : Int) + (((x.links.length + KLink.us x.links) : Nat) : Int) ≤ left
        · by_cases c4 : ((x.lib.size : Nat) : Int) + (((x.names.length + strsU x.names) : Nat) : Int) + (((x.vals.length + KValue.us x.vals) : Nat) : Int) + (((x.links.length + KLink.us x.links) : Nat) : Int) + (((x.types.length + KType.us x.types) : Nat) : Int) ≤ left
          · simp (disch := omega) [ip, wr, laws_szInst.b, e0, e1, e2, e3, szR_pos, szR_neg] <;> omega
          · simp (disch := omega) [ip, wr, laws_szInst.b, e0, e1, e2, e3, szR_pos, szR_neg] <;> omega
        · simp (disch := omega) [ip, wr, laws_szInst.b, e0, e1, e2, e3, szR_pos, szR_neg] <;> omega
      · simp (disch := omega) [ip, wr, laws_szInst.b, e0, e1, e2, e3, szR_pos, szR_neg] <;> omega
    · simp (disch := omega) [ip, wr, laws_szInst.b, e0, e1, e2, e3, szR_pos, szR_neg] <;> omega
  · simp (disch := omega) [ip, wr, laws_szInst.b, e0, e1, e2, e3, szR_pos, szR_neg] <;> omega
theorem eqInstS_loop (ks : List Fr) (Q : VX → Env → Prop) : ∀ (rest done : List KInst) (i : Int), i = done.length → (done.length : Int) + (KInst.cnts rest : Int) ≤ 1000000000000000 →
    Run G A (.exit 0) [(0, .v (.leaf (KInst.sl false (done ++ rest)))), (1, .v (.leaf (KInst.sl false (done ++ rest)))), (5, .v (.leaf (.int .i64 (done.length + rest.length)))), (14, .v (.leaf (.bool false)))] ks Q →
    Run G A (.loop laws_eqInstS.l0) [(0, .v (.leaf (KInst.sl false (done ++ rest)))), (1, .v (.leaf (KInst.sl false (done ++ rest)))), (5, .v (.leaf (.int .i64 i)))] ks Q := by
  intro rest
  induction rest with
  | nil =>
    intro done i hi h1 hq
    subst hi
    refine run_loop_at laws_eqInstS.l0.eq_1 ?_
    simpa using hq
  | cons x rest ih =>
    intro done i hi h1 hq
    subst hi
    simp only [KInst.cnts, KInst.cnt, List.length_cons] at h1
    have := KInst.len_le rest
    have ih := ih (done ++ [x]) (done.length + 1) (by simp) (by simp; omega)
    refine run_loop_at laws_eqInstS.l0.eq_1 ?_
    simp (disch := omega) [ip, wr, eqIntS, eqStringS, eqNode, eqNodeS, eqProg, eqValue, eqValueS, eqCell, eqCellS, eqLink, eqLinkS, eqType, eqTypeS, eqInst, get_mid]
    refine run_env (ih (run_env hq ?_)) ?_
    · simp <;> omega
    · simp
theorem eqInstS (xs : List KInst) (h : (KInst.cnts xs : Int) ≤ 1000000000000000) : A 100 [.leaf (KInst.sl false (xs)), .leaf (KInst.sl false (xs))] = some ([.leaf (.bool true)], [.gone, .gone]) := by
  refine run_laws_eqInstS ?_
  have := KInst.len_le xs
  simp [laws_eqInstS.b]
  refine eqInstS_loop _ _ xs [] 0 (by simp) (by simp; omega) ?_
  simp
theorem markInstS_loop (ks : List Fr) (Q : VX → Env → Prop) : ∀ (rest done : List KInst) (k i : Int), i = done.length → 0 ≤ k → k + (KInst.cnts rest : Int) ≤ 1000000000000000 → (done.length : Int) + (KInst.cnts rest : Int) ≤ 1000000000000000 →
    Run G A (.exit 0) [(0, .v (.leaf (KInst.sl true (done ++ KInst.marks k rest)))), (1, .v (.leaf (.int .i64 (k + (KInst.cnts rest : Int))))), (5, .v (.leaf (.int .i64 (done.length + rest.length)))), (9, .v (.leaf (.bool false)))] ks Q →
    Run G A (.loop laws_markInstS.l0) [(0, .v (.leaf (KInst.sl true (done ++ rest)))), (1, .v (.leaf (.int .i64 k))), (5, .v (.leaf (.int .i64 i)))] ks Q := by
  intro rest
  induction rest with
  | nil =>
    intro done k i hi h0 h1 h2 hq
    subst hi
    refine run_loop_at laws_markInstS.l0.eq_1 ?_
    simpa [KInst.marks, KInst.cnts, KInst.cnt] using hq
  | cons x rest ih =>
    intro done k i hi h0 h1 h2 hq
    subst hi
    simp only [KInst.cnts, KInst.cnt, List.length_cons] at h1 h2
    have := KInst.len_le rest
    have ih := ih (done ++ [KInst.mark k x]) (k + (KInst.cnt x : Int)) (done.length + 1) (by simp) (by simp only [KInst.cnt]; omega) (by simp only [KInst.cnt]; omega) (by simp [KInst.cnt]; omega)
    refine run_loop_at laws_markInstS.l0.eq_1 ?_
    simp (disch := omega) [ip, wr, markText, markIntS, markStringS, markNodeS, markValueS, markCellS, markLinkS, markTypeS]
    refine run_env (ih (run_env hq ?_)) ?_
    · simp [KInst.marks, KInst.cnts, KInst.cnt] <;> omega
    · simp [KInst.mark, KInst.cnts, KInst.cnt] <;> omega
theorem markInstS (xs : List KInst) (k : Int) (h0 : 0 ≤ k) (h1 : k + (KInst.cnts xs : Int) ≤ 1000000000000000) : A 106 [.leaf (KInst.sl true (xs)), .leaf (.int .i64 k)] = some ([.leaf (.int .i64 (k + (KInst.cnts xs : Int)))], [.leaf (KInst.sl true (KInst.marks k xs)), .gone]) := by
  refine run_laws_markInstS ?_
  simp [laws_markInstS.b]
  refine markInstS_loop _ _ xs [] k 0 (by simp) h0 h1 (by simp; omega) ?_
  simp
theorem toInstS_loop (ks : List Fr) (Q : VX → Env → Prop) : ∀ (rest done : List KInst) (i : Int), i = done.length → (done.length : Int) + rest.length ≤ 1048576 → (KInst.us rest : Int) ≤ 1048576 →
    Run G A (.exit 0) [(0, .v (.leaf (KInst.sl false (done ++ rest)))), (3, .v (.leaf (KInst.sl true (done ++ rest)))), (4, .v (.leaf (.int .i64 (done.length + rest.length)))), (11, .v (.leaf (.bool false)))] ks Q →
    Run G A (.loop laws_toInstS.l0) [(0, .v (.leaf (KInst.sl false (done ++ rest)))), (3, .v (.leaf (.sl true 6 (done.map (KInst.row true) ++ List.replicate rest.length [.str ⟨#[]⟩, .int .i64 0, .sl true 1 [], .sl true 3 [], .sl true 3 [], .sl true 2 []])))), (4, .v (.leaf (.int .i64 i)))] ks Q := by
  intro rest
  induction rest with
  | nil =>
    intro done i hi h1 hu hq
    subst hi
    refine run_loop_at laws_toInstS.l0.eq_1 ?_
    simpa using hq
  | cons x rest ih =>
    intro done i hi h1 hu hq
    subst hi
    simp only [KInst.us, List.length_cons] at h1 hu
    have ih := ih (done ++ [x]) (done.length + 1) (by simp) (by simp; omega) (by omega)
    refine run_loop_at laws_toInstS.l0.eq_1 ?_
    simp (disch := omega) [ip, wr, toIntS, toStringS, toNode, toNodeS, toProg, toValue, toValueS, toCell, toCellS, toLink, toLinkS, toType, toTypeS, toInst, get_mid, List.replicate_succ]
    refine run_env (ih (run_env hq ?_)) ?_
    · simp <;> omega
    · simp
theorem toInstS (xs : List KInst) (h : ((xs.length + KInst.us xs) : Int) ≤ 1048576) : A 95 [.leaf (KInst.sl false (xs))] = some ([.leaf (KInst.sl true (xs))], [.gone]) := by
  refine run_laws_toInstS ?_
  simp (disch := omega) [ip, wr, laws_toInstS.b]
  refine run_env (toInstS_loop _ _ xs [] 0 (by simp) (by simp; omega) (by omega) ?_) ?_
  · simp
  · simp
theorem szInstS_loop (ks : List Fr) (Q : VX → Env → Prop) : ∀ (rest done : List KInst) (l i : Int), i = done.length → 0 ≤ l → l ≤ 1000000000000000 → (done.length : Int) + rest.length ≤ 1000000000000000 → KInst.fits rest →
    ((KInst.us rest : Int) ≤ l → Run G A (.exit 0) [(0, .v (.leaf (KInst.sl false (done ++ rest)))), (1, .v (.leaf (.int .i64 (l - KInst.us rest)))), (5, .v (.leaf (.int .i64 (done.length + rest.length)))), (15, .v (.leaf (.bool false)))] ks Q) →
    (l < KInst.us rest → Run G A .ret [(4, .v (.leaf (.int .i64 (-1))))] ks Q) →
    Run G A (.loop laws_szInstS.l0) [(0, .v (.leaf (KInst.sl false (done ++ rest)))), (1, .v (.leaf (.int .i64 l))), (5, .v (.leaf (.int .i64 i)))] ks Q := by
  intro rest
  induction rest with
  | nil =>
    intro done l i hi h0 h1 hn hf hq hr
    subst hi
    refine run_loop_at laws_szInstS.l0.eq_1 ?_
    simpa [KInst.us] using hq (by simp [KInst.us]; omega)
  | cons x rest ih =>
    intro done l i hi h0 h1 hn hf hq hr
    subst hi
    simp only [KInst.us, List.length_cons, Int.natCast_add] at hn hq hr
    refine run_loop_at laws_szInstS.l0.eq_1 ?_
    simp only [KInst.fits] at hf
    have e1 := fun l a b => szInst x l a b hf.1
    by_cases c : ((KInst.w x : Nat) : Int) ≤ l
    · have ih := ih (done ++ [x]) (l - ↑(KInst.w x)) (done.length + 1) (by simp) (by omega) (by omega) (by simp; omega) hf.2
      simp (disch := omega) [ip, wr, e1, get_mid, szR_pos, szR_neg]
      refine run_env (ih (fun g => run_env (hq (by omega)) ?_) (fun g => hr (by omega))) ?_
      · simp <;> omega
      · simp
    · have hr := hr (by omega)
      simp (disch := omega) [ip, wr, e1, get_mid, szR_pos, szR_neg]
      first | exact hr | simpa using hr
theorem szInstS (xs : List KInst) (left : Int) (h0 : 0 ≤ left) (h1 : left ≤ 1000000000000000) (hn : (xs.length : Int) ≤ 1000000000000000) (hf : KInst.fits xs) : A 90 [.leaf (KInst.sl false (xs)), .leaf (.int .i64 left)] = some ([.leaf (.int .i64 (szR ↑(xs.length + KInst.us xs) left))], [.gone, .gone]) := by
  refine run_laws_szInstS ?_
  by_cases c : (xs.length : Int) ≤ left
  · simp (disch := omega) [ip, wr, laws_szInstS.b]
    refine run_env (szInstS_loop _ _ xs [] (left - xs.length) 0 (by simp) (by omega) (by omega) (by simp; omega) hf (fun g => ?_) (fun g => ?_)) ?_
    · have g2 : ((xs.length + KInst.us xs : Nat) : Int) ≤ left := by omega
      simp (disch := omega) [ip, wr, laws_szInstS.b, szR_pos, szR_neg]
      omega
    · have g2 : left < ((xs.length + KInst.us xs : Nat) : Int) := by omega
      simp (disch := omega) [ip, wr, laws_szInstS.b, szR_pos, szR_neg]
    · simp
  · have g2 : left < ((xs.length + KInst.us xs : Nat) : Int) := by omega
    simp (disch := omega) [ip, wr, laws_szInstS.b, szR_pos, szR_neg]
theorem eqUnit (x : KUnit) (h : (KNode.cnts x.prog.nodes : Int) ≤ 1000000000000000) : A 159 [.agg (KUnit.row false x), .agg (KUnit.row false x)] = some ([.leaf (.bool true)], [.gone, .gone]) := by
  refine run_laws_eqUnit ?_
  simp (disch := omega) [ip, wr, laws_eqUnit.b, eqIntS, eqStringS, eqNode, eqNodeS, eqProg, eqValue, eqValueS, eqCell, eqCellS, eqLink, eqLinkS, eqType, eqTypeS, eqInst, eqInstS]
theorem toUnit (x : KUnit) (h : (KUnit.w x : Int) ≤ 1048576) : A 155 [.agg (KUnit.row false x)] = some ([.agg (KUnit.row true x)], [.gone]) := by
  simp only [KUnit.w] at h
  refine run_laws_toUnit ?_
  simp (disch := omega) [ip, wr, laws_toUnit.b, toIntS, toStringS, toNode, toNodeS, toProg, toValue, toValueS, toCell, toCellS, toLink, toLinkS, toType, toTypeS, toInst, toInstS]
theorem szUnit (x : KUnit) (left : Int) (h0 : 0 ≤ left) (h1 : left ≤ 1000000000000000) (hf : KUnit.fit x) : A 151 [.agg (KUnit.row false x), .leaf (.int .i64 left)] = some ([.leaf (.int .i64 (szR ↑(KUnit.w x) left))], [.gone, .gone]) := by
  obtain ⟨f1, -⟩ := hf
  have e0 := fun l a b => szProg x.prog l a b f1
  simp only [KUnit.w, Int.natCast_add]
  refine run_laws_szUnit ?_
  by_cases c0 : ((KProg.w x.prog : Nat) : Int) ≤ left
  · simp (disch := omega) [ip, wr, laws_szUnit.b, e0, szR_pos, szR_neg] <;> omega
  · simp (disch := omega) [ip, wr, laws_szUnit.b, e0, szR_pos, szR_neg] <;> omega
theorem eqUnitS_loop (ks : List Fr) (Q : VX → Env → Prop) : ∀ (rest done : List KUnit) (i : Int), i = done.length → (done.length : Int) + (KUnit.cnts rest : Int) ≤ 1000000000000000 →
    Run G A (.exit 0) [(0, .v (.leaf (KUnit.sl false (done ++ rest)))), (1, .v (.leaf (KUnit.sl false (done ++ rest)))), (5, .v (.leaf (.int .i64 (done.length + rest.length)))), (14, .v (.leaf (.bool false)))] ks Q →
    Run G A (.loop laws_eqUnitS.l0) [(0, .v (.leaf (KUnit.sl false (done ++ rest)))), (1, .v (.leaf (KUnit.sl false (done ++ rest)))), (5, .v (.leaf (.int .i64 i)))] ks Q := by
  intro rest
  induction rest with
  | nil =>
    intro done i hi h1 hq
    subst hi
    refine run_loop_at laws_eqUnitS.l0.eq_1 ?_
    simpa using hq
  | cons x rest ih =>
    intro done i hi h1 hq
    subst hi
    simp only [KUnit.cnts, KUnit.cnt, List.length_cons] at h1
    have := KUnit.len_le rest
    have ih := ih (done ++ [x]) (done.length + 1) (by simp) (by simp; omega)
    refine run_loop_at laws_eqUnitS.l0.eq_1 ?_
    simp (disch := omega) [ip, wr, eqIntS, eqStringS, eqNode, eqNodeS, eqProg, eqValue, eqValueS, eqCell, eqCellS, eqLink, eqLinkS, eqType, eqTypeS, eqInst, eqInstS, eqUnit, get_mid]
    refine run_env (ih (run_env hq ?_)) ?_
    · simp <;> omega
    · simp
theorem eqUnitS (xs : List KUnit) (h : (KUnit.cnts xs : Int) ≤ 1000000000000000) : A 101 [.leaf (KUnit.sl false (xs)), .leaf (KUnit.sl false (xs))] = some ([.leaf (.bool true)], [.gone, .gone]) := by
  refine run_laws_eqUnitS ?_
  have := KUnit.len_le xs
  simp [laws_eqUnitS.b]
  refine eqUnitS_loop _ _ xs [] 0 (by simp) (by simp; omega) ?_
  simp
theorem markUnitS_loop (ks : List Fr) (Q : VX → Env → Prop) : ∀ (rest done : List KUnit) (k i : Int), i = done.length → 0 ≤ k → k + (KUnit.cnts rest : Int) ≤ 1000000000000000 → (done.length : Int) + (KUnit.cnts rest : Int) ≤ 1000000000000000 →
    Run G A (.exit 0) [(0, .v (.leaf (KUnit.sl true (done ++ KUnit.marks k rest)))), (1, .v (.leaf (.int .i64 (k + (KUnit.cnts rest : Int))))), (5, .v (.leaf (.int .i64 (done.length + rest.length)))), (9, .v (.leaf (.bool false)))] ks Q →
    Run G A (.loop laws_markUnitS.l0) [(0, .v (.leaf (KUnit.sl true (done ++ rest)))), (1, .v (.leaf (.int .i64 k))), (5, .v (.leaf (.int .i64 i)))] ks Q := by
  intro rest
  induction rest with
  | nil =>
    intro done k i hi h0 h1 h2 hq
    subst hi
    refine run_loop_at laws_markUnitS.l0.eq_1 ?_
    simpa [KUnit.marks, KUnit.cnts, KUnit.cnt] using hq
  | cons x rest ih =>
    intro done k i hi h0 h1 h2 hq
    subst hi
    simp only [KUnit.cnts, KUnit.cnt, List.length_cons] at h1 h2
    have := KUnit.len_le rest
    have ih := ih (done ++ [KUnit.mark k x]) (k + (KUnit.cnt x : Int)) (done.length + 1) (by simp) (by simp only [KUnit.cnt]; omega) (by simp only [KUnit.cnt]; omega) (by simp [KUnit.cnt]; omega)
    refine run_loop_at laws_markUnitS.l0.eq_1 ?_
    simp (disch := omega) [ip, wr, markText, markIntS, markStringS, markNodeS, markValueS, markCellS, markLinkS, markTypeS, markInstS]
    refine run_env (ih (run_env hq ?_)) ?_
    · simp [KUnit.marks, KUnit.cnts, KUnit.cnt] <;> omega
    · simp [KUnit.mark, KUnit.cnts, KUnit.cnt] <;> omega
theorem markUnitS (xs : List KUnit) (k : Int) (h0 : 0 ≤ k) (h1 : k + (KUnit.cnts xs : Int) ≤ 1000000000000000) : A 107 [.leaf (KUnit.sl true (xs)), .leaf (.int .i64 k)] = some ([.leaf (.int .i64 (k + (KUnit.cnts xs : Int)))], [.leaf (KUnit.sl true (KUnit.marks k xs)), .gone]) := by
  refine run_laws_markUnitS ?_
  simp [laws_markUnitS.b]
  refine markUnitS_loop _ _ xs [] k 0 (by simp) h0 h1 (by simp; omega) ?_
  simp
theorem toUnitS_loop (ks : List Fr) (Q : VX → Env → Prop) : ∀ (rest done : List KUnit) (i : Int), i = done.length → (done.length : Int) + rest.length ≤ 1048576 → (KUnit.us rest : Int) ≤ 1048576 →
    Run G A (.exit 0) [(0, .v (.leaf (KUnit.sl false (done ++ rest)))), (3, .v (.leaf (KUnit.sl true (done ++ rest)))), (4, .v (.leaf (.int .i64 (done.length + rest.length)))), (11, .v (.leaf (.bool false)))] ks Q →
    Run G A (.loop laws_toUnitS.l0) [(0, .v (.leaf (KUnit.sl false (done ++ rest)))), (3, .v (.leaf (.sl true 3 (done.map (KUnit.row true) ++ List.replicate rest.length [.int .i64 0, .sl true 5 [], .int .i64 0])))), (4, .v (.leaf (.int .i64 i)))] ks Q := by
  intro rest
  induction rest with
  | nil =>
    intro done i hi h1 hu hq
    subst hi
    refine run_loop_at laws_toUnitS.l0.eq_1 ?_
    simpa using hq
  | cons x rest ih =>
    intro done i hi h1 hu hq
    subst hi
    simp only [KUnit.us, List.length_cons] at h1 hu
    have ih := ih (done ++ [x]) (done.length + 1) (by simp) (by simp; omega) (by omega)
    refine run_loop_at laws_toUnitS.l0.eq_1 ?_
    simp (disch := omega) [ip, wr, toIntS, toStringS, toNode, toNodeS, toProg, toValue, toValueS, toCell, toCellS, toLink, toLinkS, toType, toTypeS, toInst, toInstS, toUnit, get_mid, List.replicate_succ]
    refine run_env (ih (run_env hq ?_)) ?_
    · simp <;> omega
    · simp
theorem toUnitS (xs : List KUnit) (h : ((xs.length + KUnit.us xs) : Int) ≤ 1048576) : A 96 [.leaf (KUnit.sl false (xs))] = some ([.leaf (KUnit.sl true (xs))], [.gone]) := by
  refine run_laws_toUnitS ?_
  simp (disch := omega) [ip, wr, laws_toUnitS.b]
  refine run_env (toUnitS_loop _ _ xs [] 0 (by simp) (by simp; omega) (by omega) ?_) ?_
  · simp
  · simp
theorem szUnitS_loop (ks : List Fr) (Q : VX → Env → Prop) : ∀ (rest done : List KUnit) (l i : Int), i = done.length → 0 ≤ l → l ≤ 1000000000000000 → (done.length : Int) + rest.length ≤ 1000000000000000 → KUnit.fits rest →
    ((KUnit.us rest : Int) ≤ l → Run G A (.exit 0) [(0, .v (.leaf (KUnit.sl false (done ++ rest)))), (1, .v (.leaf (.int .i64 (l - KUnit.us rest)))), (5, .v (.leaf (.int .i64 (done.length + rest.length)))), (15, .v (.leaf (.bool false)))] ks Q) →
    (l < KUnit.us rest → Run G A .ret [(4, .v (.leaf (.int .i64 (-1))))] ks Q) →
    Run G A (.loop laws_szUnitS.l0) [(0, .v (.leaf (KUnit.sl false (done ++ rest)))), (1, .v (.leaf (.int .i64 l))), (5, .v (.leaf (.int .i64 i)))] ks Q := by
  intro rest
  induction rest with
  | nil =>
    intro done l i hi h0 h1 hn hf hq hr
    subst hi
    refine run_loop_at laws_szUnitS.l0.eq_1 ?_
    simpa [KUnit.us] using hq (by simp [KUnit.us]; omega)
  | cons x rest ih =>
    intro done l i hi h0 h1 hn hf hq hr
    subst hi
    simp only [KUnit.us, List.length_cons, Int.natCast_add] at hn hq hr
    refine run_loop_at laws_szUnitS.l0.eq_1 ?_
    simp only [KUnit.fits] at hf
    have e1 := fun l a b => szUnit x l a b hf.1
    by_cases c : ((KUnit.w x : Nat) : Int) ≤ l
    · have ih := ih (done ++ [x]) (l - ↑(KUnit.w x)) (done.length + 1) (by simp) (by omega) (by omega) (by simp; omega) hf.2
      simp (disch := omega) [ip, wr, e1, get_mid, szR_pos, szR_neg]
      refine run_env (ih (fun g => run_env (hq (by omega)) ?_) (fun g => hr (by omega))) ?_
      · simp <;> omega
      · simp
    · have hr := hr (by omega)
      simp (disch := omega) [ip, wr, e1, get_mid, szR_pos, szR_neg]
      first | exact hr | simpa using hr
theorem szUnitS (xs : List KUnit) (left : Int) (h0 : 0 ≤ left) (h1 : left ≤ 1000000000000000) (hn : (xs.length : Int) ≤ 1000000000000000) (hf : KUnit.fits xs) : A 91 [.leaf (KUnit.sl false (xs)), .leaf (.int .i64 left)] = some ([.leaf (.int .i64 (szR ↑(xs.length + KUnit.us xs) left))], [.gone, .gone]) := by
  refine run_laws_szUnitS ?_
  by_cases c : (xs.length : Int) ≤ left
  · simp (disch := omega) [ip, wr, laws_szUnitS.b]
    refine run_env (szUnitS_loop _ _ xs [] (left - xs.length) 0 (by simp) (by omega) (by omega) (by simp; omega) hf (fun g => ?_) (fun g => ?_)) ?_
    · have g2 : ((xs.length + KUnit.us xs : Nat) : Int) ≤ left := by omega
      simp (disch := omega) [ip, wr, laws_szUnitS.b, szR_pos, szR_neg]
      omega
    · have g2 : left < ((xs.length + KUnit.us xs : Nat) : Int) := by omega
      simp (disch := omega) [ip, wr, laws_szUnitS.b, szR_pos, szR_neg]
    · simp
  · have g2 : left < ((xs.length + KUnit.us xs : Nat) : Int) := by omega
    simp (disch := omega) [ip, wr, laws_szUnitS.b, szR_pos, szR_neg]
theorem eqSys (x : KSys) (h : (KCell.cnts x.heap : Int) ≤ 1000000000000000 ∧ (KInst.cnts x.insts : Int) ≤ 1000000000000000 ∧ (KUnit.cnts x.units : Int) ≤ 1000000000000000 ∧ (x.out.length : Int) ≤ 1000000000000000) : A 43 [.agg (KSys.row false x), .agg (KSys.row false x)] = some ([.leaf (.bool true)], [.gone, .gone]) := by
  refine run_laws_eqSys ?_
  simp (disch := omega) [ip, wr, laws_eqSys.b, eqIntS, eqStringS, eqNode, eqNodeS, eqProg, eqValue, eqValueS, eqCell, eqCellS, eqLink, eqLinkS, eqType, eqTypeS, eqInst, eqInstS, eqUnit, eqUnitS]
theorem markSys (x : KSys) (k : Int) (h0 : 0 ≤ k) (h1 : k + (KSys.top x : Int) ≤ 1000000000000000) : A 47 [.agg (KSys.row true x), .leaf (.int .i64 k)] = some ([.leaf (.int .i64 (k + (KSys.top x : Int)))], [.agg (KSys.row true (KSys.markTop k x)), .gone]) := by
  simp only [KSys.top] at h1
  refine run_laws_markSys ?_
  simp (disch := omega) [ip, wr, laws_markSys.b, markText, markIntS, markStringS, markNodeS, markValueS, markCellS, markLinkS, markTypeS, markInstS, markUnitS]
  simp [KSys.top, KSys.markTop] <;> omega
theorem toSys (x : KSys) (h : (KSys.w x : Int) ≤ 1048576) : A 40 [.agg (KSys.row false x)] = some ([.agg (KSys.row true x)], [.gone]) := by
  simp only [KSys.w] at h
  refine run_laws_toSys ?_
  simp (disch := omega) [ip, wr, laws_toSys.b, toIntS, toStringS, toNode, toNodeS, toProg, toValue, toValueS, toCell, toCellS, toLink, toLinkS, toType, toTypeS, toInst, toInstS, toUnit, toUnitS]
theorem szSys (x : KSys) (left : Int) (h0 : 0 ≤ left) (h1 : left ≤ 1000000000000000) (hf : KSys.fit x) : A 38 [.agg (KSys.row false x), .leaf (.int .i64 left)] = some ([.leaf (.int .i64 (szR ↑(KSys.w x) left))], [.gone, .gone]) := by
  obtain ⟨f1, f2, f3, f4, f5, f6, f7, f8, -⟩ := hf
  have e0 := fun l a b => szCellS x.heap l a b f1 f2
  have e1 := fun l a b => szInstS x.insts l a b f3 f4
  have e2 := fun l a b => szUnitS x.units l a b f5 f6
  have e3 := fun l a b => szStringS x.out l a b f7 f8
  simp only [KSys.w, Int.natCast_add]
  refine run_laws_szSys ?_
  by_cases c0 : (((x.heap.length + KCell.us x.heap) : Nat) : Int) ≤ left
  · by_cases c1 : (((x.heap.length + KCell.us x.heap) : Nat) : Int) + (((x.insts.length + KInst.us x.insts) : Nat) : Int) ≤ left
    · by_cases c2 : (((x.heap.length + KCell.us x.heap) : Nat) : Int) + (((x.insts.length + KInst.us x.insts) : Nat) : Int) + (((x.units.length + KUnit.us x.units) : Nat) : Int) ≤ left
      · by_cases c3 : (((x.heap.length + KCell.us x.heap) : Nat) : Int) + (((x.insts.length + KInst.us x.insts) : Nat) : Int) + (((x.units.length + KUnit.us x.units) : Nat) : Int) + (((x.out.length + strsU x.out) : Nat) : Int) ≤ left
        · simp (disch := omega) [ip, wr, laws_szSys.b, e0, e1, e2, e3, szR_pos, szR_neg] <;> omega
        · simp (disch := omega) [ip, wr, laws_szSys.b, e0, e1, e2, e3, szR_pos, szR_neg] <;> omega
      · simp (disch := omega) [ip, wr, laws_szSys.b, e0, e1, e2, e3, szR_pos, szR_neg] <;> omega
    · simp (disch := omega) [ip, wr, laws_szSys.b, e0, e1, e2, e3, szR_pos, szR_neg] <;> omega
  · simp (disch := omega) [ip, wr, laws_szSys.b, e0, e1, e2, e3, szR_pos, szR_neg] <;> omega
theorem eqBind (x : KBind) : A 160 [.agg (KBind.row false x), .agg (KBind.row false x)] = some ([.leaf (.bool true)], [.gone, .gone]) := by
  refine run_laws_eqBind ?_
  simp (disch := omega) [ip, wr, laws_eqBind.b, eqIntS, eqStringS, eqNode, eqNodeS, eqProg, eqValue, eqValueS, eqCell, eqCellS, eqLink, eqLinkS, eqType, eqTypeS, eqInst, eqInstS, eqUnit, eqUnitS, eqSys]
theorem eqBindS_loop (ks : List Fr) (Q : VX → Env → Prop) : ∀ (rest done : List KBind) (i : Int), i = done.length → (done.length : Int) + (KBind.cnts rest : Int) ≤ 1000000000000000 →
    Run G A (.exit 0) [(0, .v (.leaf (KBind.sl false (done ++ rest)))), (1, .v (.leaf (KBind.sl false (done ++ rest)))), (5, .v (.leaf (.int .i64 (done.length + rest.length)))), (14, .v (.leaf (.bool false)))] ks Q →
    Run G A (.loop laws_eqBindS.l0) [(0, .v (.leaf (KBind.sl false (done ++ rest)))), (1, .v (.leaf (KBind.sl false (done ++ rest)))), (5, .v (.leaf (.int .i64 i)))] ks Q := by
  intro rest
  induction rest with
  | nil =>
    intro done i hi h1 hq
    subst hi
    refine run_loop_at laws_eqBindS.l0.eq_1 ?_
    simpa using hq
  | cons x rest ih =>
    intro done i hi h1 hq
    subst hi
    simp only [KBind.cnts, KBind.cnt, List.length_cons] at h1
    have := KBind.len_le rest
    have ih := ih (done ++ [x]) (done.length + 1) (by simp) (by simp; omega)
    refine run_loop_at laws_eqBindS.l0.eq_1 ?_
    simp (disch := omega) [ip, wr, eqIntS, eqStringS, eqNode, eqNodeS, eqProg, eqValue, eqValueS, eqCell, eqCellS, eqLink, eqLinkS, eqType, eqTypeS, eqInst, eqInstS, eqUnit, eqUnitS, eqSys, eqBind, get_mid]
    refine run_env (ih (run_env hq ?_)) ?_
    · simp <;> omega
    · simp
theorem eqBindS (xs : List KBind) (h : (KBind.cnts xs : Int) ≤ 1000000000000000) : A 103 [.leaf (KBind.sl false (xs)), .leaf (KBind.sl false (xs))] = some ([.leaf (.bool true)], [.gone, .gone]) := by
  refine run_laws_eqBindS ?_
  have := KBind.len_le xs
  simp [laws_eqBindS.b]
  refine eqBindS_loop _ _ xs [] 0 (by simp) (by simp; omega) ?_
  simp
theorem markBindS_loop (ks : List Fr) (Q : VX → Env → Prop) : ∀ (rest done : List KBind) (k i : Int), i = done.length → 0 ≤ k → k + (KBind.cnts rest : Int) ≤ 1000000000000000 → (done.length : Int) + (KBind.cnts rest : Int) ≤ 1000000000000000 →
    Run G A (.exit 0) [(0, .v (.leaf (KBind.sl true (done ++ KBind.marks k rest)))), (1, .v (.leaf (.int .i64 (k + (KBind.cnts rest : Int))))), (5, .v (.leaf (.int .i64 (done.length + rest.length)))), (9, .v (.leaf (.bool false)))] ks Q →
    Run G A (.loop laws_markBindS.l0) [(0, .v (.leaf (KBind.sl true (done ++ rest)))), (1, .v (.leaf (.int .i64 k))), (5, .v (.leaf (.int .i64 i)))] ks Q := by
  intro rest
  induction rest with
  | nil =>
    intro done k i hi h0 h1 h2 hq
    subst hi
    refine run_loop_at laws_markBindS.l0.eq_1 ?_
    simpa [KBind.marks, KBind.cnts, KBind.cnt] using hq
  | cons x rest ih =>
    intro done k i hi h0 h1 h2 hq
    subst hi
    simp only [KBind.cnts, KBind.cnt, List.length_cons] at h1 h2
    have := KBind.len_le rest
    have ih := ih (done ++ [KBind.mark k x]) (k + (KBind.cnt x : Int)) (done.length + 1) (by simp) (by simp only [KBind.cnt]; omega) (by simp only [KBind.cnt]; omega) (by simp [KBind.cnt]; omega)
    refine run_loop_at laws_markBindS.l0.eq_1 ?_
    simp (disch := omega) [ip, wr, markText, markIntS, markStringS, markNodeS, markValueS, markCellS, markLinkS, markTypeS, markInstS, markUnitS, markSys]
    refine run_env (ih (run_env hq ?_)) ?_
    · simp [KBind.marks, KBind.cnts, KBind.cnt] <;> omega
    · simp [KBind.mark, KBind.cnts, KBind.cnt] <;> omega
theorem markBindS (xs : List KBind) (k : Int) (h0 : 0 ≤ k) (h1 : k + (KBind.cnts xs : Int) ≤ 1000000000000000) : A 108 [.leaf (KBind.sl true (xs)), .leaf (.int .i64 k)] = some ([.leaf (.int .i64 (k + (KBind.cnts xs : Int)))], [.leaf (KBind.sl true (KBind.marks k xs)), .gone]) := by
  refine run_laws_markBindS ?_
  simp [laws_markBindS.b]
  refine markBindS_loop _ _ xs [] k 0 (by simp) h0 h1 (by simp; omega) ?_
  simp
theorem heldBindS_loop (ks : List Fr) (Q : VX → Env → Prop) : ∀ (rest done : List KBind) (k i : Int), i = done.length → 0 ≤ k → k + (KBind.cnts rest : Int) ≤ 1000000000000000 → (done.length : Int) + (KBind.cnts rest : Int) ≤ 1000000000000000 →
    Run G A (.exit 0) [(0, .v (.leaf (KBind.sl false (done ++ KBind.marks k rest)))), (1, .v (.leaf (.int .i64 (k + (KBind.cnts rest : Int))))), (5, .v (.leaf (.int .i64 (done.length + rest.length)))), (9, .v (.leaf (.bool false)))] ks Q →
    Run G A (.loop laws_heldBindS.l0) [(0, .v (.leaf (KBind.sl false (done ++ KBind.marks k rest)))), (1, .v (.leaf (.int .i64 k))), (5, .v (.leaf (.int .i64 i)))] ks Q := by
  intro rest
  induction rest with
  | nil =>
    intro done k i hi h0 h1 h2 hq
    subst hi
    refine run_loop_at laws_heldBindS.l0.eq_1 ?_
    simp [KBind.marks, KBind.cnts, KBind.cnt] at hq ⊢
    exact hq
  | cons x rest ih =>
    intro done k i hi h0 h1 h2 hq
    subst hi
    simp only [KBind.cnts, KBind.cnt, List.length_cons] at h1 h2
    have := KBind.len_le rest
    have ih := ih (done ++ [KBind.mark k x]) (k + (KBind.cnt x : Int)) (done.length + 1) (by simp) (by simp only [KBind.cnt]; omega) (by simp only [KBind.cnt]; omega) (by simp [KBind.cnt]; omega)
    refine run_loop_at laws_heldBindS.l0.eq_1 ?_
    simp only [KBind.marks]
    simp (disch := omega) [ip, wr, markText, heldValueS, KBind.mark]
    refine run_env (ih (run_env hq ?_)) ?_
    · simp [KBind.marks, KBind.cnts, KBind.cnt] <;> omega
    · simp [KBind.mark, KBind.cnts, KBind.cnt] <;> omega
theorem heldBindS (xs : List KBind) (k : Int) (h0 : 0 ≤ k) (h1 : k + (KBind.cnts xs : Int) ≤ 1000000000000000) : A 110 [.leaf (KBind.sl false (KBind.marks k xs)), .leaf (.int .i64 k)] = some ([.leaf (.int .i64 (k + (KBind.cnts xs : Int)))], [.gone, .gone]) := by
  refine run_laws_heldBindS ?_
  simp [laws_heldBindS.b]
  refine heldBindS_loop _ _ xs [] k 0 (by simp) h0 h1 (by simp; omega) ?_
  simp
theorem eqFrame (x : KFrame) (h : (KValue.cnts x.vals : Int) ≤ 1000000000000000 ∧ (KBind.cnts x.env : Int) ≤ 1000000000000000) : A 161 [.agg (KFrame.row false x), .agg (KFrame.row false x)] = some ([.leaf (.bool true)], [.gone, .gone]) := by
  refine run_laws_eqFrame ?_
  simp (disch := omega) [ip, wr, laws_eqFrame.b, eqIntS, eqStringS, eqNode, eqNodeS, eqProg, eqValue, eqValueS, eqCell, eqCellS, eqLink, eqLinkS, eqType, eqTypeS, eqInst, eqInstS, eqUnit, eqUnitS, eqSys, eqBind, eqBindS]
theorem eqFrameS_loop (ks : List Fr) (Q : VX → Env → Prop) : ∀ (rest done : List KFrame) (i : Int), i = done.length → (done.length : Int) + (KFrame.cnts rest : Int) ≤ 1000000000000000 →
    Run G A (.exit 0) [(0, .v (.leaf (KFrame.sl false (done ++ rest)))), (1, .v (.leaf (KFrame.sl false (done ++ rest)))), (5, .v (.leaf (.int .i64 (done.length + rest.length)))), (14, .v (.leaf (.bool false)))] ks Q →
    Run G A (.loop laws_eqFrameS.l0) [(0, .v (.leaf (KFrame.sl false (done ++ rest)))), (1, .v (.leaf (KFrame.sl false (done ++ rest)))), (5, .v (.leaf (.int .i64 i)))] ks Q := by
  intro rest
  induction rest with
  | nil =>
    intro done i hi h1 hq
    subst hi
    refine run_loop_at laws_eqFrameS.l0.eq_1 ?_
    simpa using hq
  | cons x rest ih =>
    intro done i hi h1 hq
    subst hi
    simp only [KFrame.cnts, KFrame.cnt, List.length_cons] at h1
    have := KFrame.len_le rest
    have ih := ih (done ++ [x]) (done.length + 1) (by simp) (by simp; omega)
    refine run_loop_at laws_eqFrameS.l0.eq_1 ?_
    simp (disch := omega) [ip, wr, eqIntS, eqStringS, eqNode, eqNodeS, eqProg, eqValue, eqValueS, eqCell, eqCellS, eqLink, eqLinkS, eqType, eqTypeS, eqInst, eqInstS, eqUnit, eqUnitS, eqSys, eqBind, eqBindS, eqFrame, get_mid]
    refine run_env (ih (run_env hq ?_)) ?_
    · simp <;> omega
    · simp
theorem eqFrameS (xs : List KFrame) (h : (KFrame.cnts xs : Int) ≤ 1000000000000000) : A 104 [.leaf (KFrame.sl false (xs)), .leaf (KFrame.sl false (xs))] = some ([.leaf (.bool true)], [.gone, .gone]) := by
  refine run_laws_eqFrameS ?_
  have := KFrame.len_le xs
  simp [laws_eqFrameS.b]
  refine eqFrameS_loop _ _ xs [] 0 (by simp) (by simp; omega) ?_
  simp
theorem markFrameS_loop (ks : List Fr) (Q : VX → Env → Prop) : ∀ (rest done : List KFrame) (k i : Int), i = done.length → 0 ≤ k → k + (KFrame.cnts rest : Int) ≤ 1000000000000000 → (done.length : Int) + (KFrame.cnts rest : Int) ≤ 1000000000000000 →
    Run G A (.exit 0) [(0, .v (.leaf (KFrame.sl true (done ++ KFrame.marks k rest)))), (1, .v (.leaf (.int .i64 (k + (KFrame.cnts rest : Int))))), (5, .v (.leaf (.int .i64 (done.length + rest.length)))), (9, .v (.leaf (.bool false)))] ks Q →
    Run G A (.loop laws_markFrameS.l0) [(0, .v (.leaf (KFrame.sl true (done ++ rest)))), (1, .v (.leaf (.int .i64 k))), (5, .v (.leaf (.int .i64 i)))] ks Q := by
  intro rest
  induction rest with
  | nil =>
    intro done k i hi h0 h1 h2 hq
    subst hi
    refine run_loop_at laws_markFrameS.l0.eq_1 ?_
    simpa [KFrame.marks, KFrame.cnts, KFrame.cnt] using hq
  | cons x rest ih =>
    intro done k i hi h0 h1 h2 hq
    subst hi
    simp only [KFrame.cnts, KFrame.cnt, List.length_cons] at h1 h2
    have := KFrame.len_le rest
    have ih := ih (done ++ [KFrame.mark k x]) (k + (KFrame.cnt x : Int)) (done.length + 1) (by simp) (by simp only [KFrame.cnt]; omega) (by simp only [KFrame.cnt]; omega) (by simp [KFrame.cnt]; omega)
    refine run_loop_at laws_markFrameS.l0.eq_1 ?_
    simp (disch := omega) [ip, wr, markText, markIntS, markStringS, markNodeS, markValueS, markCellS, markLinkS, markTypeS, markInstS, markUnitS, markSys, markBindS]
    refine run_env (ih (run_env hq ?_)) ?_
    · simp [KFrame.marks, KFrame.cnts, KFrame.cnt] <;> omega
    · simp [KFrame.mark, KFrame.cnts, KFrame.cnt] <;> omega
theorem markFrameS (xs : List KFrame) (k : Int) (h0 : 0 ≤ k) (h1 : k + (KFrame.cnts xs : Int) ≤ 1000000000000000) : A 109 [.leaf (KFrame.sl true (xs)), .leaf (.int .i64 k)] = some ([.leaf (.int .i64 (k + (KFrame.cnts xs : Int)))], [.leaf (KFrame.sl true (KFrame.marks k xs)), .gone]) := by
  refine run_laws_markFrameS ?_
  simp [laws_markFrameS.b]
  refine markFrameS_loop _ _ xs [] k 0 (by simp) h0 h1 (by simp; omega) ?_
  simp
theorem heldFrameS_loop (ks : List Fr) (Q : VX → Env → Prop) : ∀ (rest done : List KFrame) (k i : Int), i = done.length → 0 ≤ k → k + (KFrame.cnts rest : Int) ≤ 1000000000000000 → (done.length : Int) + (KFrame.cnts rest : Int) ≤ 1000000000000000 →
    Run G A (.exit 0) [(0, .v (.leaf (KFrame.sl false (done ++ KFrame.marks k rest)))), (1, .v (.leaf (.int .i64 (k + (KFrame.cnts rest : Int))))), (5, .v (.leaf (.int .i64 (done.length + rest.length)))), (9, .v (.leaf (.bool false)))] ks Q →
    Run G A (.loop laws_heldFrameS.l0) [(0, .v (.leaf (KFrame.sl false (done ++ KFrame.marks k rest)))), (1, .v (.leaf (.int .i64 k))), (5, .v (.leaf (.int .i64 i)))] ks Q := by
  intro rest
  induction rest with
  | nil =>
    intro done k i hi h0 h1 h2 hq
    subst hi
    refine run_loop_at laws_heldFrameS.l0.eq_1 ?_
    simp [KFrame.marks, KFrame.cnts, KFrame.cnt] at hq ⊢
    exact hq
  | cons x rest ih =>
    intro done k i hi h0 h1 h2 hq
    subst hi
    simp only [KFrame.cnts, KFrame.cnt, List.length_cons] at h1 h2
    have := KFrame.len_le rest
    have ih := ih (done ++ [KFrame.mark k x]) (k + (KFrame.cnt x : Int)) (done.length + 1) (by simp) (by simp only [KFrame.cnt]; omega) (by simp only [KFrame.cnt]; omega) (by simp [KFrame.cnt]; omega)
    refine run_loop_at laws_heldFrameS.l0.eq_1 ?_
    simp only [KFrame.marks]
    simp (disch := omega) [ip, wr, markText, heldValueS, heldBindS, KFrame.mark]
    refine run_env (ih (run_env hq ?_)) ?_
    · simp [KFrame.marks, KFrame.cnts, KFrame.cnt] <;> omega
    · simp [KFrame.mark, KFrame.cnts, KFrame.cnt] <;> omega
theorem heldFrameS (xs : List KFrame) (k : Int) (h0 : 0 ≤ k) (h1 : k + (KFrame.cnts xs : Int) ≤ 1000000000000000) : A 111 [.leaf (KFrame.sl false (KFrame.marks k xs)), .leaf (.int .i64 k)] = some ([.leaf (.int .i64 (k + (KFrame.cnts xs : Int)))], [.gone, .gone]) := by
  refine run_laws_heldFrameS ?_
  simp [laws_heldFrameS.b]
  refine heldFrameS_loop _ _ xs [] k 0 (by simp) h0 h1 (by simp; omega) ?_
  simp
theorem eqMachine (x : KMachine) (h : (KBind.cnts x.env : Int) ≤ 1000000000000000 ∧ (KFrame.cnts x.stack : Int) ≤ 1000000000000000) : A 46 [.agg (KMachine.row false x), .agg (KMachine.row false x)] = some ([.leaf (.bool true)], [.gone, .gone]) := by
  refine run_laws_eqMachine ?_
  simp (disch := omega) [ip, wr, laws_eqMachine.b, eqIntS, eqStringS, eqNode, eqNodeS, eqProg, eqValue, eqValueS, eqCell, eqCellS, eqLink, eqLinkS, eqType, eqTypeS, eqInst, eqInstS, eqUnit, eqUnitS, eqSys, eqBind, eqBindS, eqFrame, eqFrameS]
theorem markMachine (x : KMachine) (k : Int) (h0 : 0 ≤ k) (h1 : k + (KMachine.top x : Int) ≤ 1000000000000000) : A 48 [.agg (KMachine.row true x), .leaf (.int .i64 k)] = some ([.leaf (.int .i64 (k + (KMachine.top x : Int)))], [.agg (KMachine.row true (KMachine.markTop k x)), .gone]) := by
  simp only [KMachine.top] at h1
  refine run_laws_markMachine ?_
  simp (disch := omega) [ip, wr, laws_markMachine.b, markText, markIntS, markStringS, markNodeS, markValueS, markCellS, markLinkS, markTypeS, markInstS, markUnitS, markSys, markBindS, markFrameS]
  simp [KMachine.top, KMachine.markTop] <;> omega
theorem heldMachine (x : KMachine) (k : Int) (h0 : 0 ≤ k) (h1 : k + (KMachine.top x : Int) ≤ 1000000000000000) : A 49 [.agg (KMachine.row false (KMachine.markTop k x)), .leaf (.int .i64 k)] = some ([.leaf (.int .i64 (k + (KMachine.top x : Int)))], [.gone, .gone]) := by
  simp only [KMachine.top] at h1
  refine run_laws_heldMachine ?_
  simp (disch := omega) [ip, wr, laws_heldMachine.b, markText, heldValueS, heldBindS, heldFrameS, KMachine.markTop]
  simp [KMachine.top] <;> omega
end Go.Proofs.YticecjjfbjnaaaaGreatDoor.SA
