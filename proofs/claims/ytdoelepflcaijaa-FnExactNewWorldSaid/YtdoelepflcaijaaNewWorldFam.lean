/- The laws' own functions over their structs: comparisons, marks, sizes, copies (printed by fam.py). -/
import Derived.Test.YtdoelepflcaijaaEngLib
import Derived.Test.YtdoelepflcaijaaNewWorldFam0
namespace Go.Proofs.Ytdoelepflcaijaa.NewWorld
open Go Go.VS
set_option maxRecDepth 10000
set_option linter.unusedSimpArgs false
set_option linter.unusedVariables false

def markInts (k : Int) : List Int → List Int
  | [] => []
  | _ :: xs => k :: markInts (k + 1) xs
noncomputable def markStrs (k : Int) : List ByteArray → List ByteArray
  | [] => []
  | _ :: xs => mtext k :: markStrs (k + 1) xs
def strsW : List ByteArray → Nat
  | [] => 0
  | s :: xs => 1 + s.size + strsW xs
@[simp] theorem markInts_length : ∀ (xs : List Int) (k : Int), (markInts k xs).length = xs.length
  | [], _ => rfl
  | _ :: xs, k => by simp [markInts, markInts_length xs]
@[simp] theorem markStrs_length : ∀ (xs : List ByteArray) (k : Int), (markStrs k xs).length = xs.length
  | [], _ => rfl
  | _ :: xs, k => by simp [markStrs, markStrs_length xs]
theorem strsW_len : ∀ xs : List ByteArray, xs.length ≤ strsW xs
  | [] => Nat.le_refl _
  | s :: xs => by have := strsW_len xs; simp only [strsW, List.length_cons]; omega
def KDatum.cnt (x : KDatum) : Nat := 5
def KDatum.cnts : List KDatum → Nat
  | [] => 0
  | x :: xs => KDatum.cnt x + KDatum.cnts xs
def KDatum.w (x : KDatum) : Nat := 0 + x.s.size
def KDatum.ws : List KDatum → Nat
  | [] => 0
  | x :: xs => 1 + KDatum.w x + KDatum.ws xs
noncomputable def KDatum.mark (k : Int) (x : KDatum) : KDatum := { kind := k, n := k + 1, s := mtext (k + 1 + 1), l := k + 1 + 1 + 1, r := k + 1 + 1 + 1 + 1 }
noncomputable def KDatum.marks (k : Int) : List KDatum → List KDatum
  | [] => []
  | x :: xs => KDatum.mark k x :: KDatum.marks (k + KDatum.cnt x) xs
noncomputable def KDatum.markTop (k : Int) (x : KDatum) : KDatum := { kind := x.kind, n := x.n, s := x.s, l := x.l, r := x.r }
def KDatum.top (x : KDatum) : Nat := 0
theorem KDatum.len_le : ∀ xs : List KDatum, xs.length ≤ KDatum.cnts xs
  | [] => Nat.le_refl _
  | x :: xs => by have := KDatum.len_le xs; simp only [KDatum.cnts, KDatum.cnt, List.length_cons]; omega
def KData.cnt (x : KData) : Nat := 0 + KDatum.cnts x.cells + x.tops.length
def KData.cnts : List KData → Nat
  | [] => 0
  | x :: xs => KData.cnt x + KData.cnts xs
def KData.w (x : KData) : Nat := 0 + KDatum.ws x.cells + x.tops.length
def KData.ws : List KData → Nat
  | [] => 0
  | x :: xs => 1 + KData.w x + KData.ws xs
noncomputable def KData.mark (k : Int) (x : KData) : KData := { cells := KDatum.marks (k) x.cells, tops := markInts (k + ↑(KDatum.cnts x.cells)) x.tops }
noncomputable def KData.marks (k : Int) : List KData → List KData
  | [] => []
  | x :: xs => KData.mark k x :: KData.marks (k + KData.cnt x) xs
noncomputable def KData.markTop (k : Int) (x : KData) : KData := { cells := KDatum.marks (k) x.cells, tops := markInts (k + ↑(KDatum.cnts x.cells)) x.tops }
def KData.top (x : KData) : Nat := 0 + KDatum.cnts x.cells + x.tops.length
def KNode.cnt (x : KNode) : Nat := 3 + x.names.length + x.args.length
def KNode.cnts : List KNode → Nat
  | [] => 0
  | x :: xs => KNode.cnt x + KNode.cnts xs
def KNode.w (x : KNode) : Nat := 0 + x.s.size + strsW x.names + x.args.length
def KNode.ws : List KNode → Nat
  | [] => 0
  | x :: xs => 1 + KNode.w x + KNode.ws xs
noncomputable def KNode.mark (k : Int) (x : KNode) : KNode := { kind := k, n := k + 1, s := mtext (k + 1 + 1), names := markStrs (k + 1 + 1 + 1) x.names, args := markInts (k + 1 + 1 + 1 + ↑(x.names.length)) x.args }
noncomputable def KNode.marks (k : Int) : List KNode → List KNode
  | [] => []
  | x :: xs => KNode.mark k x :: KNode.marks (k + KNode.cnt x) xs
noncomputable def KNode.markTop (k : Int) (x : KNode) : KNode := { kind := x.kind, n := x.n, s := x.s, names := markStrs (k) x.names, args := markInts (k + ↑(x.names.length)) x.args }
def KNode.top (x : KNode) : Nat := 0 + x.names.length + x.args.length
theorem KNode.len_le : ∀ xs : List KNode, xs.length ≤ KNode.cnts xs
  | [] => Nat.le_refl _
  | x :: xs => by have := KNode.len_le xs; simp only [KNode.cnts, KNode.cnt, List.length_cons]; omega
def KProg.cnt (x : KProg) : Nat := 1 + KNode.cnts x.nodes
def KProg.cnts : List KProg → Nat
  | [] => 0
  | x :: xs => KProg.cnt x + KProg.cnts xs
def KProg.w (x : KProg) : Nat := 0 + KNode.ws x.nodes
def KProg.ws : List KProg → Nat
  | [] => 0
  | x :: xs => 1 + KProg.w x + KProg.ws xs
noncomputable def KProg.mark (k : Int) (x : KProg) : KProg := { nodes := KNode.marks (k) x.nodes, root := k + ↑(KNode.cnts x.nodes) }
noncomputable def KProg.marks (k : Int) : List KProg → List KProg
  | [] => []
  | x :: xs => KProg.mark k x :: KProg.marks (k + KProg.cnt x) xs
noncomputable def KProg.markTop (k : Int) (x : KProg) : KProg := { nodes := KNode.marks (k) x.nodes, root := x.root }
def KProg.top (x : KProg) : Nat := 0 + KNode.cnts x.nodes
theorem KProg.len_le : ∀ xs : List KProg, xs.length ≤ KProg.cnts xs
  | [] => Nat.le_refl _
  | x :: xs => by have := KProg.len_le xs; simp only [KProg.cnts, KProg.cnt, List.length_cons]; omega
def KValue.cnt (x : KValue) : Nat := 3
def KValue.cnts : List KValue → Nat
  | [] => 0
  | x :: xs => KValue.cnt x + KValue.cnts xs
def KValue.w (x : KValue) : Nat := 0 + x.s.size
def KValue.ws : List KValue → Nat
  | [] => 0
  | x :: xs => 1 + KValue.w x + KValue.ws xs
noncomputable def KValue.mark (k : Int) (x : KValue) : KValue := { kind := k, n := k + 1, s := mtext (k + 1 + 1) }
noncomputable def KValue.marks (k : Int) : List KValue → List KValue
  | [] => []
  | x :: xs => KValue.mark k x :: KValue.marks (k + KValue.cnt x) xs
noncomputable def KValue.markTop (k : Int) (x : KValue) : KValue := { kind := x.kind, n := x.n, s := x.s }
def KValue.top (x : KValue) : Nat := 0
theorem KValue.len_le : ∀ xs : List KValue, xs.length ≤ KValue.cnts xs
  | [] => Nat.le_refl _
  | x :: xs => by have := KValue.len_le xs; simp only [KValue.cnts, KValue.cnt, List.length_cons]; omega
def KCell.cnt (x : KCell) : Nat := 4 + x.names.length + KValue.cnts x.vals
def KCell.cnts : List KCell → Nat
  | [] => 0
  | x :: xs => KCell.cnt x + KCell.cnts xs
def KCell.w (x : KCell) : Nat := 0 + x.s.size + strsW x.names + KValue.ws x.vals
def KCell.ws : List KCell → Nat
  | [] => 0
  | x :: xs => 1 + KCell.w x + KCell.ws xs
noncomputable def KCell.mark (k : Int) (x : KCell) : KCell := { kind := k, s := mtext (k + 1), a := k + 1 + 1, b := k + 1 + 1 + 1, names := markStrs (k + 1 + 1 + 1 + 1) x.names, vals := KValue.marks (k + 1 + 1 + 1 + 1 + ↑(x.names.length)) x.vals }
noncomputable def KCell.marks (k : Int) : List KCell → List KCell
  | [] => []
  | x :: xs => KCell.mark k x :: KCell.marks (k + KCell.cnt x) xs
noncomputable def KCell.markTop (k : Int) (x : KCell) : KCell := { kind := x.kind, s := x.s, a := x.a, b := x.b, names := markStrs (k) x.names, vals := KValue.marks (k + ↑(x.names.length)) x.vals }
def KCell.top (x : KCell) : Nat := 0 + x.names.length + KValue.cnts x.vals
theorem KCell.len_le : ∀ xs : List KCell, xs.length ≤ KCell.cnts xs
  | [] => Nat.le_refl _
  | x :: xs => by have := KCell.len_le xs; simp only [KCell.cnts, KCell.cnt, List.length_cons]; omega
def KLink.cnt (x : KLink) : Nat := 3
def KLink.cnts : List KLink → Nat
  | [] => 0
  | x :: xs => KLink.cnt x + KLink.cnts xs
def KLink.w (x : KLink) : Nat := 0 + x.name.size + x.at_.size
def KLink.ws : List KLink → Nat
  | [] => 0
  | x :: xs => 1 + KLink.w x + KLink.ws xs
noncomputable def KLink.mark (k : Int) (x : KLink) : KLink := { name := mtext (k), inst := k + 1, at_ := mtext (k + 1 + 1) }
noncomputable def KLink.marks (k : Int) : List KLink → List KLink
  | [] => []
  | x :: xs => KLink.mark k x :: KLink.marks (k + KLink.cnt x) xs
noncomputable def KLink.markTop (k : Int) (x : KLink) : KLink := { name := x.name, inst := x.inst, at_ := x.at_ }
def KLink.top (x : KLink) : Nat := 0
theorem KLink.len_le : ∀ xs : List KLink, xs.length ≤ KLink.cnts xs
  | [] => Nat.le_refl _
  | x :: xs => by have := KLink.len_le xs; simp only [KLink.cnts, KLink.cnt, List.length_cons]; omega
def KType.cnt (x : KType) : Nat := 2
def KType.cnts : List KType → Nat
  | [] => 0
  | x :: xs => KType.cnt x + KType.cnts xs
def KType.w (x : KType) : Nat := 0 + x.name.size
def KType.ws : List KType → Nat
  | [] => 0
  | x :: xs => 1 + KType.w x + KType.ws xs
noncomputable def KType.mark (k : Int) (x : KType) : KType := { name := mtext (k), size := k + 1 }
noncomputable def KType.marks (k : Int) : List KType → List KType
  | [] => []
  | x :: xs => KType.mark k x :: KType.marks (k + KType.cnt x) xs
noncomputable def KType.markTop (k : Int) (x : KType) : KType := { name := x.name, size := x.size }
def KType.top (x : KType) : Nat := 0
theorem KType.len_le : ∀ xs : List KType, xs.length ≤ KType.cnts xs
  | [] => Nat.le_refl _
  | x :: xs => by have := KType.len_le xs; simp only [KType.cnts, KType.cnt, List.length_cons]; omega
def KInst.cnt (x : KInst) : Nat := 2 + x.names.length + KValue.cnts x.vals + KLink.cnts x.links + KType.cnts x.types
def KInst.cnts : List KInst → Nat
  | [] => 0
  | x :: xs => KInst.cnt x + KInst.cnts xs
def KInst.w (x : KInst) : Nat := 0 + x.lib.size + strsW x.names + KValue.ws x.vals + KLink.ws x.links + KType.ws x.types
def KInst.ws : List KInst → Nat
  | [] => 0
  | x :: xs => 1 + KInst.w x + KInst.ws xs
noncomputable def KInst.mark (k : Int) (x : KInst) : KInst := { lib := mtext (k), ver := k + 1, names := markStrs (k + 1 + 1) x.names, vals := KValue.marks (k + 1 + 1 + ↑(x.names.length)) x.vals, links := KLink.marks (k + 1 + 1 + ↑(x.names.length) + ↑(KValue.cnts x.vals)) x.links, types := KType.marks (k + 1 + 1 + ↑(x.names.length) + ↑(KValue.cnts x.vals) + ↑(KLink.cnts x.links)) x.types }
noncomputable def KInst.marks (k : Int) : List KInst → List KInst
  | [] => []
  | x :: xs => KInst.mark k x :: KInst.marks (k + KInst.cnt x) xs
noncomputable def KInst.markTop (k : Int) (x : KInst) : KInst := { lib := x.lib, ver := x.ver, names := markStrs (k) x.names, vals := KValue.marks (k + ↑(x.names.length)) x.vals, links := KLink.marks (k + ↑(x.names.length) + ↑(KValue.cnts x.vals)) x.links, types := KType.marks (k + ↑(x.names.length) + ↑(KValue.cnts x.vals) + ↑(KLink.cnts x.links)) x.types }
def KInst.top (x : KInst) : Nat := 0 + x.names.length + KValue.cnts x.vals + KLink.cnts x.links + KType.cnts x.types
theorem KInst.len_le : ∀ xs : List KInst, xs.length ≤ KInst.cnts xs
  | [] => Nat.le_refl _
  | x :: xs => by have := KInst.len_le xs; simp only [KInst.cnts, KInst.cnt, List.length_cons]; omega
def KUnit.cnt (x : KUnit) : Nat := 2 + KNode.cnts x.prog.nodes
def KUnit.cnts : List KUnit → Nat
  | [] => 0
  | x :: xs => KUnit.cnt x + KUnit.cnts xs
def KUnit.w (x : KUnit) : Nat := 0 + KNode.ws x.prog.nodes
def KUnit.ws : List KUnit → Nat
  | [] => 0
  | x :: xs => 1 + KUnit.w x + KUnit.ws xs
noncomputable def KUnit.mark (k : Int) (x : KUnit) : KUnit := { home := k, prog := { nodes := KNode.marks (k + 1) x.prog.nodes, root := k + 1 + ↑(KNode.cnts x.prog.nodes) } }
noncomputable def KUnit.marks (k : Int) : List KUnit → List KUnit
  | [] => []
  | x :: xs => KUnit.mark k x :: KUnit.marks (k + KUnit.cnt x) xs
noncomputable def KUnit.markTop (k : Int) (x : KUnit) : KUnit := { home := x.home, prog := KProg.markTop (k) x.prog }
def KUnit.top (x : KUnit) : Nat := 0 + KProg.top x.prog
theorem KUnit.len_le : ∀ xs : List KUnit, xs.length ≤ KUnit.cnts xs
  | [] => Nat.le_refl _
  | x :: xs => by have := KUnit.len_le xs; simp only [KUnit.cnts, KUnit.cnt, List.length_cons]; omega
def KSys.cnt (x : KSys) : Nat := 0 + KCell.cnts x.heap + KInst.cnts x.insts + KUnit.cnts x.units + x.out.length
def KSys.cnts : List KSys → Nat
  | [] => 0
  | x :: xs => KSys.cnt x + KSys.cnts xs
def KSys.w (x : KSys) : Nat := 0 + KCell.ws x.heap + KInst.ws x.insts + KUnit.ws x.units + strsW x.out
def KSys.ws : List KSys → Nat
  | [] => 0
  | x :: xs => 1 + KSys.w x + KSys.ws xs
noncomputable def KSys.mark (k : Int) (x : KSys) : KSys := { heap := KCell.marks (k) x.heap, insts := KInst.marks (k + ↑(KCell.cnts x.heap)) x.insts, units := KUnit.marks (k + ↑(KCell.cnts x.heap) + ↑(KInst.cnts x.insts)) x.units, out := markStrs (k + ↑(KCell.cnts x.heap) + ↑(KInst.cnts x.insts) + ↑(KUnit.cnts x.units)) x.out }
noncomputable def KSys.marks (k : Int) : List KSys → List KSys
  | [] => []
  | x :: xs => KSys.mark k x :: KSys.marks (k + KSys.cnt x) xs
noncomputable def KSys.markTop (k : Int) (x : KSys) : KSys := { heap := KCell.marks (k) x.heap, insts := KInst.marks (k + ↑(KCell.cnts x.heap)) x.insts, units := KUnit.marks (k + ↑(KCell.cnts x.heap) + ↑(KInst.cnts x.insts)) x.units, out := markStrs (k + ↑(KCell.cnts x.heap) + ↑(KInst.cnts x.insts) + ↑(KUnit.cnts x.units)) x.out }
def KSys.top (x : KSys) : Nat := 0 + KCell.cnts x.heap + KInst.cnts x.insts + KUnit.cnts x.units + x.out.length
def KBind.cnt (x : KBind) : Nat := 4
def KBind.cnts : List KBind → Nat
  | [] => 0
  | x :: xs => KBind.cnt x + KBind.cnts xs
def KBind.w (x : KBind) : Nat := 0 + x.name.size + x.val.s.size
def KBind.ws : List KBind → Nat
  | [] => 0
  | x :: xs => 1 + KBind.w x + KBind.ws xs
noncomputable def KBind.mark (k : Int) (x : KBind) : KBind := { name := mtext (k), val := { kind := k + 1, n := k + 1 + 1, s := mtext (k + 1 + 1 + 1) } }
noncomputable def KBind.marks (k : Int) : List KBind → List KBind
  | [] => []
  | x :: xs => KBind.mark k x :: KBind.marks (k + KBind.cnt x) xs
noncomputable def KBind.markTop (k : Int) (x : KBind) : KBind := { name := x.name, val := x.val }
def KBind.top (x : KBind) : Nat := 0
theorem KBind.len_le : ∀ xs : List KBind, xs.length ≤ KBind.cnts xs
  | [] => Nat.le_refl _
  | x :: xs => by have := KBind.len_le xs; simp only [KBind.cnts, KBind.cnt, List.length_cons]; omega
def KFrame.cnt (x : KFrame) : Nat := 2 + KValue.cnts x.vals + KBind.cnts x.env
def KFrame.cnts : List KFrame → Nat
  | [] => 0
  | x :: xs => KFrame.cnt x + KFrame.cnts xs
def KFrame.w (x : KFrame) : Nat := 0 + KValue.ws x.vals + KBind.ws x.env
def KFrame.ws : List KFrame → Nat
  | [] => 0
  | x :: xs => 1 + KFrame.w x + KFrame.ws xs
noncomputable def KFrame.mark (k : Int) (x : KFrame) : KFrame := { unit := k, node := k + 1, vals := KValue.marks (k + 1 + 1) x.vals, env := KBind.marks (k + 1 + 1 + ↑(KValue.cnts x.vals)) x.env }
noncomputable def KFrame.marks (k : Int) : List KFrame → List KFrame
  | [] => []
  | x :: xs => KFrame.mark k x :: KFrame.marks (k + KFrame.cnt x) xs
noncomputable def KFrame.markTop (k : Int) (x : KFrame) : KFrame := { unit := x.unit, node := x.node, vals := KValue.marks (k) x.vals, env := KBind.marks (k + ↑(KValue.cnts x.vals)) x.env }
def KFrame.top (x : KFrame) : Nat := 0 + KValue.cnts x.vals + KBind.cnts x.env
theorem KFrame.len_le : ∀ xs : List KFrame, xs.length ≤ KFrame.cnts xs
  | [] => Nat.le_refl _
  | x :: xs => by have := KFrame.len_le xs; simp only [KFrame.cnts, KFrame.cnt, List.length_cons]; omega
def KMachine.cnt (x : KMachine) : Nat := 7 + KBind.cnts x.env + KFrame.cnts x.stack
def KMachine.cnts : List KMachine → Nat
  | [] => 0
  | x :: xs => KMachine.cnt x + KMachine.cnts xs
def KMachine.w (x : KMachine) : Nat := 0 + x.val.s.size + KBind.ws x.env + KFrame.ws x.stack
def KMachine.ws : List KMachine → Nat
  | [] => 0
  | x :: xs => 1 + KMachine.w x + KMachine.ws xs
noncomputable def KMachine.mark (k : Int) (x : KMachine) : KMachine := { mode := k, unit := k + 1, node := k + 1 + 1, env := KBind.marks (k + 1 + 1 + 1) x.env, val := { kind := k + 1 + 1 + 1 + ↑(KBind.cnts x.env), n := k + 1 + 1 + 1 + ↑(KBind.cnts x.env) + 1, s := mtext (k + 1 + 1 + 1 + ↑(KBind.cnts x.env) + 1 + 1) }, stack := KFrame.marks (k + 1 + 1 + 1 + ↑(KBind.cnts x.env) + 1 + 1 + 1) x.stack, end_ := k + 1 + 1 + 1 + ↑(KBind.cnts x.env) + 1 + 1 + 1 + ↑(KFrame.cnts x.stack) }
noncomputable def KMachine.marks (k : Int) : List KMachine → List KMachine
  | [] => []
  | x :: xs => KMachine.mark k x :: KMachine.marks (k + KMachine.cnt x) xs
noncomputable def KMachine.markTop (k : Int) (x : KMachine) : KMachine := { mode := x.mode, unit := x.unit, node := x.node, env := KBind.marks (k) x.env, val := x.val, stack := KFrame.marks (k + ↑(KBind.cnts x.env)) x.stack, end_ := x.end_ }
def KMachine.top (x : KMachine) : Nat := 0 + KBind.cnts x.env + KFrame.cnts x.stack
theorem KMachine.len_le : ∀ xs : List KMachine, xs.length ≤ KMachine.cnts xs
  | [] => Nat.le_refl _
  | x :: xs => by have := KMachine.len_le xs; simp only [KMachine.cnts, KMachine.cnt, List.length_cons]; omega
def KDef.cnt (x : KDef) : Nat := 2 + KNode.cnts x.prog.nodes
def KDef.cnts : List KDef → Nat
  | [] => 0
  | x :: xs => KDef.cnt x + KDef.cnts xs
def KDef.w (x : KDef) : Nat := 0 + x.name.size + KNode.ws x.prog.nodes
def KDef.ws : List KDef → Nat
  | [] => 0
  | x :: xs => 1 + KDef.w x + KDef.ws xs
noncomputable def KDef.mark (k : Int) (x : KDef) : KDef := { name := mtext (k), prog := { nodes := KNode.marks (k + 1) x.prog.nodes, root := k + 1 + ↑(KNode.cnts x.prog.nodes) } }
noncomputable def KDef.marks (k : Int) : List KDef → List KDef
  | [] => []
  | x :: xs => KDef.mark k x :: KDef.marks (k + KDef.cnt x) xs
noncomputable def KDef.markTop (k : Int) (x : KDef) : KDef := { name := x.name, prog := KProg.markTop (k) x.prog }
def KDef.top (x : KDef) : Nat := 0 + KProg.top x.prog
theorem KDef.len_le : ∀ xs : List KDef, xs.length ≤ KDef.cnts xs
  | [] => Nat.le_refl _
  | x :: xs => by have := KDef.len_le xs; simp only [KDef.cnts, KDef.cnt, List.length_cons]; omega
def KSrc.cnt (x : KSrc) : Nat := 1 + x.imports.length + x.exports.length + KType.cnts x.types + KDef.cnts x.defs + KDef.cnts x.convs
def KSrc.cnts : List KSrc → Nat
  | [] => 0
  | x :: xs => KSrc.cnt x + KSrc.cnts xs
def KSrc.w (x : KSrc) : Nat := 0 + x.name.size + strsW x.imports + strsW x.exports + KType.ws x.types + KDef.ws x.defs + KDef.ws x.convs
def KSrc.ws : List KSrc → Nat
  | [] => 0
  | x :: xs => 1 + KSrc.w x + KSrc.ws xs
noncomputable def KSrc.mark (k : Int) (x : KSrc) : KSrc := { name := mtext (k), imports := markStrs (k + 1) x.imports, exports := markStrs (k + 1 + ↑(x.imports.length)) x.exports, types := KType.marks (k + 1 + ↑(x.imports.length) + ↑(x.exports.length)) x.types, defs := KDef.marks (k + 1 + ↑(x.imports.length) + ↑(x.exports.length) + ↑(KType.cnts x.types)) x.defs, convs := KDef.marks (k + 1 + ↑(x.imports.length) + ↑(x.exports.length) + ↑(KType.cnts x.types) + ↑(KDef.cnts x.defs)) x.convs }
noncomputable def KSrc.marks (k : Int) : List KSrc → List KSrc
  | [] => []
  | x :: xs => KSrc.mark k x :: KSrc.marks (k + KSrc.cnt x) xs
noncomputable def KSrc.markTop (k : Int) (x : KSrc) : KSrc := { name := x.name, imports := markStrs (k) x.imports, exports := markStrs (k + ↑(x.imports.length)) x.exports, types := KType.marks (k + ↑(x.imports.length) + ↑(x.exports.length)) x.types, defs := KDef.marks (k + ↑(x.imports.length) + ↑(x.exports.length) + ↑(KType.cnts x.types)) x.defs, convs := KDef.marks (k + ↑(x.imports.length) + ↑(x.exports.length) + ↑(KType.cnts x.types) + ↑(KDef.cnts x.defs)) x.convs }
def KSrc.top (x : KSrc) : Nat := 0 + x.imports.length + x.exports.length + KType.cnts x.types + KDef.cnts x.defs + KDef.cnts x.convs
theorem KSrc.len_le : ∀ xs : List KSrc, xs.length ≤ KSrc.cnts xs
  | [] => Nat.le_refl _
  | x :: xs => by have := KSrc.len_le xs; simp only [KSrc.cnts, KSrc.cnt, List.length_cons]; omega
def KEnt.cnt (x : KEnt) : Nat := 3 + x.src.imports.length + x.src.exports.length + KType.cnts x.src.types + KDef.cnts x.src.defs + KDef.cnts x.src.convs
def KEnt.cnts : List KEnt → Nat
  | [] => 0
  | x :: xs => KEnt.cnt x + KEnt.cnts xs
def KEnt.w (x : KEnt) : Nat := 0 + x.src.name.size + strsW x.src.imports + strsW x.src.exports + KType.ws x.src.types + KDef.ws x.src.defs + KDef.ws x.src.convs
def KEnt.ws : List KEnt → Nat
  | [] => 0
  | x :: xs => 1 + KEnt.w x + KEnt.ws xs
noncomputable def KEnt.mark (k : Int) (x : KEnt) : KEnt := { src := { name := mtext (k), imports := markStrs (k + 1) x.src.imports, exports := markStrs (k + 1 + ↑(x.src.imports.length)) x.src.exports, types := KType.marks (k + 1 + ↑(x.src.imports.length) + ↑(x.src.exports.length)) x.src.types, defs := KDef.marks (k + 1 + ↑(x.src.imports.length) + ↑(x.src.exports.length) + ↑(KType.cnts x.src.types)) x.src.defs, convs := KDef.marks (k + 1 + ↑(x.src.imports.length) + ↑(x.src.exports.length) + ↑(KType.cnts x.src.types) + ↑(KDef.cnts x.src.defs)) x.src.convs }, ver := k + 1 + ↑(x.src.imports.length) + ↑(x.src.exports.length) + ↑(KType.cnts x.src.types) + ↑(KDef.cnts x.src.defs) + ↑(KDef.cnts x.src.convs), inst := k + 1 + ↑(x.src.imports.length) + ↑(x.src.exports.length) + ↑(KType.cnts x.src.types) + ↑(KDef.cnts x.src.defs) + ↑(KDef.cnts x.src.convs) + 1 }
noncomputable def KEnt.marks (k : Int) : List KEnt → List KEnt
  | [] => []
  | x :: xs => KEnt.mark k x :: KEnt.marks (k + KEnt.cnt x) xs
noncomputable def KEnt.markTop (k : Int) (x : KEnt) : KEnt := { src := KSrc.markTop (k) x.src, ver := x.ver, inst := x.inst }
def KEnt.top (x : KEnt) : Nat := 0 + KSrc.top x.src
theorem KEnt.len_le : ∀ xs : List KEnt, xs.length ≤ KEnt.cnts xs
  | [] => Nat.le_refl _
  | x :: xs => by have := KEnt.len_le xs; simp only [KEnt.cnts, KEnt.cnt, List.length_cons]; omega
def KTask.cnt (x : KTask) : Nat := 8 + KBind.cnts x.mac.env + KFrame.cnts x.mac.stack
def KTask.cnts : List KTask → Nat
  | [] => 0
  | x :: xs => KTask.cnt x + KTask.cnts xs
def KTask.w (x : KTask) : Nat := 0 + x.mac.val.s.size + KBind.ws x.mac.env + KFrame.ws x.mac.stack
def KTask.ws : List KTask → Nat
  | [] => 0
  | x :: xs => 1 + KTask.w x + KTask.ws xs
noncomputable def KTask.mark (k : Int) (x : KTask) : KTask := { id := k, mac := { mode := k + 1, unit := k + 1 + 1, node := k + 1 + 1 + 1, env := KBind.marks (k + 1 + 1 + 1 + 1) x.mac.env, val := { kind := k + 1 + 1 + 1 + 1 + ↑(KBind.cnts x.mac.env), n := k + 1 + 1 + 1 + 1 + ↑(KBind.cnts x.mac.env) + 1, s := mtext (k + 1 + 1 + 1 + 1 + ↑(KBind.cnts x.mac.env) + 1 + 1) }, stack := KFrame.marks (k + 1 + 1 + 1 + 1 + ↑(KBind.cnts x.mac.env) + 1 + 1 + 1) x.mac.stack, end_ := k + 1 + 1 + 1 + 1 + ↑(KBind.cnts x.mac.env) + 1 + 1 + 1 + ↑(KFrame.cnts x.mac.stack) } }
noncomputable def KTask.marks (k : Int) : List KTask → List KTask
  | [] => []
  | x :: xs => KTask.mark k x :: KTask.marks (k + KTask.cnt x) xs
noncomputable def KTask.markTop (k : Int) (x : KTask) : KTask := { id := x.id, mac := KMachine.markTop (k) x.mac }
def KTask.top (x : KTask) : Nat := 0 + KMachine.top x.mac
theorem KTask.len_le : ∀ xs : List KTask, xs.length ≤ KTask.cnts xs
  | [] => Nat.le_refl _
  | x :: xs => by have := KTask.len_le xs; simp only [KTask.cnts, KTask.cnt, List.length_cons]; omega
def KWorld.cnt (x : KWorld) : Nat := 1 + KCell.cnts x.sys.heap + KInst.cnts x.sys.insts + KUnit.cnts x.sys.units + x.sys.out.length + KEnt.cnts x.libs + KTask.cnts x.tasks
def KWorld.cnts : List KWorld → Nat
  | [] => 0
  | x :: xs => KWorld.cnt x + KWorld.cnts xs
def KWorld.w (x : KWorld) : Nat := 0 + KCell.ws x.sys.heap + KInst.ws x.sys.insts + KUnit.ws x.sys.units + strsW x.sys.out + KEnt.ws x.libs + KTask.ws x.tasks
def KWorld.ws : List KWorld → Nat
  | [] => 0
  | x :: xs => 1 + KWorld.w x + KWorld.ws xs
noncomputable def KWorld.mark (k : Int) (x : KWorld) : KWorld := { sys := { heap := KCell.marks (k) x.sys.heap, insts := KInst.marks (k + ↑(KCell.cnts x.sys.heap)) x.sys.insts, units := KUnit.marks (k + ↑(KCell.cnts x.sys.heap) + ↑(KInst.cnts x.sys.insts)) x.sys.units, out := markStrs (k + ↑(KCell.cnts x.sys.heap) + ↑(KInst.cnts x.sys.insts) + ↑(KUnit.cnts x.sys.units)) x.sys.out }, libs := KEnt.marks (k + ↑(KCell.cnts x.sys.heap) + ↑(KInst.cnts x.sys.insts) + ↑(KUnit.cnts x.sys.units) + ↑(x.sys.out.length)) x.libs, tasks := KTask.marks (k + ↑(KCell.cnts x.sys.heap) + ↑(KInst.cnts x.sys.insts) + ↑(KUnit.cnts x.sys.units) + ↑(x.sys.out.length) + ↑(KEnt.cnts x.libs)) x.tasks, next := k + ↑(KCell.cnts x.sys.heap) + ↑(KInst.cnts x.sys.insts) + ↑(KUnit.cnts x.sys.units) + ↑(x.sys.out.length) + ↑(KEnt.cnts x.libs) + ↑(KTask.cnts x.tasks) }
noncomputable def KWorld.marks (k : Int) : List KWorld → List KWorld
  | [] => []
  | x :: xs => KWorld.mark k x :: KWorld.marks (k + KWorld.cnt x) xs
noncomputable def KWorld.markTop (k : Int) (x : KWorld) : KWorld := { sys := KSys.markTop (k) x.sys, libs := KEnt.marks (k + ↑(KSys.top x.sys)) x.libs, tasks := KTask.marks (k + ↑(KSys.top x.sys) + ↑(KEnt.cnts x.libs)) x.tasks, next := x.next }
def KWorld.top (x : KWorld) : Nat := 0 + KSys.top x.sys + KEnt.cnts x.libs + KTask.cnts x.tasks
theorem KWorld.len_le : ∀ xs : List KWorld, xs.length ≤ KWorld.cnts xs
  | [] => Nat.le_refl _
  | x :: xs => by have := KWorld.len_le xs; simp only [KWorld.cnts, KWorld.cnt, List.length_cons]; omega
def KNeed.cnt (x : KNeed) : Nat := 1 + x.names.length
def KNeed.cnts : List KNeed → Nat
  | [] => 0
  | x :: xs => KNeed.cnt x + KNeed.cnts xs
def KNeed.w (x : KNeed) : Nat := 0 + strsW x.names
def KNeed.ws : List KNeed → Nat
  | [] => 0
  | x :: xs => 1 + KNeed.w x + KNeed.ws xs
noncomputable def KNeed.mark (k : Int) (x : KNeed) : KNeed := { inst := k, names := markStrs (k + 1) x.names }
noncomputable def KNeed.marks (k : Int) : List KNeed → List KNeed
  | [] => []
  | x :: xs => KNeed.mark k x :: KNeed.marks (k + KNeed.cnt x) xs
noncomputable def KNeed.markTop (k : Int) (x : KNeed) : KNeed := { inst := x.inst, names := markStrs (k) x.names }
def KNeed.top (x : KNeed) : Nat := 0 + x.names.length
theorem KNeed.len_le : ∀ xs : List KNeed, xs.length ≤ KNeed.cnts xs
  | [] => Nat.le_refl _
  | x :: xs => by have := KNeed.len_le xs; simp only [KNeed.cnts, KNeed.cnt, List.length_cons]; omega
def KWorldAct.cnt (x : KWorldAct) : Nat := 4
def KWorldAct.cnts : List KWorldAct → Nat
  | [] => 0
  | x :: xs => KWorldAct.cnt x + KWorldAct.cnts xs
def KWorldAct.w (x : KWorldAct) : Nat := 0 + x.text.size
def KWorldAct.ws : List KWorldAct → Nat
  | [] => 0
  | x :: xs => 1 + KWorldAct.w x + KWorldAct.ws xs
noncomputable def KWorldAct.mark (k : Int) (x : KWorldAct) : KWorldAct := { kind := k, text := mtext (k + 1), a := k + 1 + 1, b := k + 1 + 1 + 1 }
noncomputable def KWorldAct.marks (k : Int) : List KWorldAct → List KWorldAct
  | [] => []
  | x :: xs => KWorldAct.mark k x :: KWorldAct.marks (k + KWorldAct.cnt x) xs
noncomputable def KWorldAct.markTop (k : Int) (x : KWorldAct) : KWorldAct := { kind := x.kind, text := x.text, a := x.a, b := x.b }
def KWorldAct.top (x : KWorldAct) : Nat := 0
theorem KWorldAct.len_le : ∀ xs : List KWorldAct, xs.length ≤ KWorldAct.cnts xs
  | [] => Nat.le_refl _
  | x :: xs => by have := KWorldAct.len_le xs; simp only [KWorldAct.cnts, KWorldAct.cnt, List.length_cons]; omega
theorem eqIntS_loop (ks : List Fr) (Q : VX → Env → Prop) : ∀ (rest done : List Int) (i : Int), i = done.length → (done.length : Int) + (rest.length : Int) ≤ 1000000000000000 →
    Run G A (.exit 0) [(0, .v (.leaf (Kints false (done ++ rest)))), (1, .v (.leaf (Kints false (done ++ rest)))), (5, .v (.leaf (.int .i64 (done.length + rest.length)))), (14, .v (.leaf (.bool false)))] ks Q →
    Run G A (.loop laws_eqIntS.l0) [(0, .v (.leaf (Kints false (done ++ rest)))), (1, .v (.leaf (Kints false (done ++ rest)))), (5, .v (.leaf (.int .i64 i)))] ks Q := by
  intro rest
  induction rest with
  | nil =>
    intro done i hi h1 hq
    subst hi
    refine run_loop_at laws_eqIntS.l0.eq_1 ?_
    simpa using hq
  | cons x rest ih =>
    intro done i hi h1 hq
    subst hi
    simp only [List.length_cons] at h1
    have ih := ih (done ++ [x]) (done.length + 1) (by simp) (by simp; omega)
    refine run_loop_at laws_eqIntS.l0.eq_1 ?_
    simp (disch := omega) [if_pos, if_neg, wrap_i64, get_mid]
    refine run_env (ih (run_env hq ?_)) ?_
    · simp <;> omega
    · simp
theorem eqIntS (xs : List Int) (h : (xs.length : Int) ≤ 1000000000000000) : A 131 [.leaf (Kints false (xs)), .leaf (Kints false (xs))] = some ([.leaf (.bool true)], [.gone, .gone]) := by
  refine run_laws_eqIntS ?_
  simp [laws_eqIntS.b]
  refine eqIntS_loop _ _ xs [] 0 (by simp) (by simp; omega) ?_
  simp
theorem markIntS_loop (ks : List Fr) (Q : VX → Env → Prop) : ∀ (rest done : List Int) (k i : Int), i = done.length → 0 ≤ k → k + (rest.length : Int) ≤ 1000000000000000 → (done.length : Int) + (rest.length : Int) ≤ 1000000000000000 →
    Run G A (.exit 0) [(0, .v (.leaf (Kints true (done ++ markInts k rest)))), (1, .v (.leaf (.int .i64 (k + (rest.length : Int))))), (5, .v (.leaf (.int .i64 (done.length + rest.length)))), (9, .v (.leaf (.bool false)))] ks Q →
    Run G A (.loop laws_markIntS.l0) [(0, .v (.leaf (Kints true (done ++ rest)))), (1, .v (.leaf (.int .i64 k))), (5, .v (.leaf (.int .i64 i)))] ks Q := by
  intro rest
  induction rest with
  | nil =>
    intro done k i hi h0 h1 h2 hq
    subst hi
    refine run_loop_at laws_markIntS.l0.eq_1 ?_
    simpa [markInts] using hq
  | cons x rest ih =>
    intro done k i hi h0 h1 h2 hq
    subst hi
    simp only [List.length_cons] at h1 h2
    have ih := ih (done ++ [k]) (k + 1) (done.length + 1) (by simp) (by omega) (by omega) (by simp; omega)
    refine run_loop_at laws_markIntS.l0.eq_1 ?_
    simp (disch := omega) [if_pos, if_neg, wrap_i64, markText]
    refine run_env (ih (run_env hq ?_)) ?_
    · simp [markInts] <;> omega
    · simp [Nat.add_comm] <;> omega
theorem markIntS (xs : List Int) (k : Int) (h0 : 0 ≤ k) (h1 : k + (xs.length : Int) ≤ 1000000000000000) : A 92 [.leaf (Kints true (xs)), .leaf (.int .i64 k)] = some ([.leaf (.int .i64 (k + (xs.length : Int)))], [.leaf (Kints true (markInts k xs)), .gone]) := by
  refine run_laws_markIntS ?_
  simp [laws_markIntS.b]
  refine markIntS_loop _ _ xs [] k 0 (by simp) h0 h1 (by simp; omega) ?_
  simp
theorem heldIntS_loop (ks : List Fr) (Q : VX → Env → Prop) : ∀ (rest done : List Int) (k i : Int), i = done.length → 0 ≤ k → k + (rest.length : Int) ≤ 1000000000000000 → (done.length : Int) + (rest.length : Int) ≤ 1000000000000000 →
    Run G A (.exit 0) [(0, .v (.leaf (Kints false (done ++ markInts k rest)))), (1, .v (.leaf (.int .i64 (k + (rest.length : Int))))), (5, .v (.leaf (.int .i64 (done.length + rest.length)))), (9, .v (.leaf (.bool false)))] ks Q →
    Run G A (.loop laws_heldIntS.l0) [(0, .v (.leaf (Kints false (done ++ markInts k rest)))), (1, .v (.leaf (.int .i64 k))), (5, .v (.leaf (.int .i64 i)))] ks Q := by
  intro rest
  induction rest with
  | nil =>
    intro done k i hi h0 h1 h2 hq
    subst hi
    refine run_loop_at laws_heldIntS.l0.eq_1 ?_
    simp [markInts] at hq ⊢
    exact hq
  | cons x rest ih =>
    intro done k i hi h0 h1 h2 hq
    subst hi
    simp only [List.length_cons] at h1 h2
    have ih := ih (done ++ [k]) (k + 1) (done.length + 1) (by simp) (by omega) (by omega) (by simp; omega)
    refine run_loop_at laws_heldIntS.l0.eq_1 ?_
    simp only [markInts]
    simp (disch := omega) [if_pos, if_neg, wrap_i64, markText]
    refine run_env (ih (run_env hq ?_)) ?_
    · simp [markInts] <;> omega
    · simp [Nat.add_comm] <;> omega
theorem heldIntS (xs : List Int) (k : Int) (h0 : 0 ≤ k) (h1 : k + (xs.length : Int) ≤ 1000000000000000) : A 93 [.leaf (Kints false (markInts k xs)), .leaf (.int .i64 k)] = some ([.leaf (.int .i64 (k + (xs.length : Int)))], [.gone, .gone]) := by
  refine run_laws_heldIntS ?_
  simp [laws_heldIntS.b]
  refine heldIntS_loop _ _ xs [] k 0 (by simp) h0 h1 (by simp; omega) ?_
  simp
theorem eqStringS_loop (ks : List Fr) (Q : VX → Env → Prop) : ∀ (rest done : List ByteArray) (i : Int), i = done.length → (done.length : Int) + (rest.length : Int) ≤ 1000000000000000 →
    Run G A (.exit 0) [(0, .v (.leaf (Kstrs false (done ++ rest)))), (1, .v (.leaf (Kstrs false (done ++ rest)))), (5, .v (.leaf (.int .i64 (done.length + rest.length)))), (14, .v (.leaf (.bool false)))] ks Q →
    Run G A (.loop laws_eqStringS.l0) [(0, .v (.leaf (Kstrs false (done ++ rest)))), (1, .v (.leaf (Kstrs false (done ++ rest)))), (5, .v (.leaf (.int .i64 i)))] ks Q := by
  intro rest
  induction rest with
  | nil =>
    intro done i hi h1 hq
    subst hi
    refine run_loop_at laws_eqStringS.l0.eq_1 ?_
    simpa using hq
  | cons x rest ih =>
    intro done i hi h1 hq
    subst hi
    simp only [List.length_cons] at h1
    have ih := ih (done ++ [x]) (done.length + 1) (by simp) (by simp; omega)
    refine run_loop_at laws_eqStringS.l0.eq_1 ?_
    simp (disch := omega) [if_pos, if_neg, wrap_i64, eqIntS, get_mid]
    refine run_env (ih (run_env hq ?_)) ?_
    · simp <;> omega
    · simp
theorem eqStringS (xs : List ByteArray) (h : (xs.length : Int) ≤ 1000000000000000) : A 16 [.leaf (Kstrs false (xs)), .leaf (Kstrs false (xs))] = some ([.leaf (.bool true)], [.gone, .gone]) := by
  refine run_laws_eqStringS ?_
  simp [laws_eqStringS.b]
  refine eqStringS_loop _ _ xs [] 0 (by simp) (by simp; omega) ?_
  simp
theorem markStringS_loop (ks : List Fr) (Q : VX → Env → Prop) : ∀ (rest done : List ByteArray) (k i : Int), i = done.length → 0 ≤ k → k + (rest.length : Int) ≤ 1000000000000000 → (done.length : Int) + (rest.length : Int) ≤ 1000000000000000 →
    Run G A (.exit 0) [(0, .v (.leaf (Kstrs true (done ++ markStrs k rest)))), (1, .v (.leaf (.int .i64 (k + (rest.length : Int))))), (5, .v (.leaf (.int .i64 (done.length + rest.length)))), (9, .v (.leaf (.bool false)))] ks Q →
    Run G A (.loop laws_markStringS.l0) [(0, .v (.leaf (Kstrs true (done ++ rest)))), (1, .v (.leaf (.int .i64 k))), (5, .v (.leaf (.int .i64 i)))] ks Q := by
  intro rest
  induction rest with
  | nil =>
    intro done k i hi h0 h1 h2 hq
    subst hi
    refine run_loop_at laws_markStringS.l0.eq_1 ?_
    simpa [markStrs] using hq
  | cons x rest ih =>
    intro done k i hi h0 h1 h2 hq
    subst hi
    simp only [List.length_cons] at h1 h2
    have ih := ih (done ++ [mtext k]) (k + 1) (done.length + 1) (by simp) (by omega) (by omega) (by simp; omega)
    refine run_loop_at laws_markStringS.l0.eq_1 ?_
    simp (disch := omega) [if_pos, if_neg, wrap_i64, markText, markIntS]
    refine run_env (ih (run_env hq ?_)) ?_
    · simp [markStrs] <;> omega
    · simp [Nat.add_comm] <;> omega
theorem markStringS (xs : List ByteArray) (k : Int) (h0 : 0 ≤ k) (h1 : k + (xs.length : Int) ≤ 1000000000000000) : A 19 [.leaf (Kstrs true (xs)), .leaf (.int .i64 k)] = some ([.leaf (.int .i64 (k + (xs.length : Int)))], [.leaf (Kstrs true (markStrs k xs)), .gone]) := by
  refine run_laws_markStringS ?_
  simp [laws_markStringS.b]
  refine markStringS_loop _ _ xs [] k 0 (by simp) h0 h1 (by simp; omega) ?_
  simp
theorem heldStringS_loop (ks : List Fr) (Q : VX → Env → Prop) : ∀ (rest done : List ByteArray) (k i : Int), i = done.length → 0 ≤ k → k + (rest.length : Int) ≤ 1000000000000000 → (done.length : Int) + (rest.length : Int) ≤ 1000000000000000 →
    Run G A (.exit 0) [(0, .v (.leaf (Kstrs false (done ++ markStrs k rest)))), (1, .v (.leaf (.int .i64 (k + (rest.length : Int))))), (5, .v (.leaf (.int .i64 (done.length + rest.length)))), (9, .v (.leaf (.bool false)))] ks Q →
    Run G A (.loop laws_heldStringS.l0) [(0, .v (.leaf (Kstrs false (done ++ markStrs k rest)))), (1, .v (.leaf (.int .i64 k))), (5, .v (.leaf (.int .i64 i)))] ks Q := by
  intro rest
  induction rest with
  | nil =>
    intro done k i hi h0 h1 h2 hq
    subst hi
    refine run_loop_at laws_heldStringS.l0.eq_1 ?_
    simp [markStrs] at hq ⊢
    exact hq
  | cons x rest ih =>
    intro done k i hi h0 h1 h2 hq
    subst hi
    simp only [List.length_cons] at h1 h2
    have ih := ih (done ++ [mtext k]) (k + 1) (done.length + 1) (by simp) (by omega) (by omega) (by simp; omega)
    refine run_loop_at laws_heldStringS.l0.eq_1 ?_
    simp only [markStrs]
    simp (disch := omega) [if_pos, if_neg, wrap_i64, markText, heldIntS]
    refine run_env (ih (run_env hq ?_)) ?_
    · simp [markStrs] <;> omega
    · simp [Nat.add_comm] <;> omega
theorem heldStringS (xs : List ByteArray) (k : Int) (h0 : 0 ≤ k) (h1 : k + (xs.length : Int) ≤ 1000000000000000) : A 20 [.leaf (Kstrs false (markStrs k xs)), .leaf (.int .i64 k)] = some ([.leaf (.int .i64 (k + (xs.length : Int)))], [.gone, .gone]) := by
  refine run_laws_heldStringS ?_
  simp [laws_heldStringS.b]
  refine heldStringS_loop _ _ xs [] k 0 (by simp) h0 h1 (by simp; omega) ?_
  simp
theorem eqNode (x : KNode) (h : (x.names.length : Int) ≤ 1000000000000000 ∧ (x.args.length : Int) ≤ 1000000000000000) : A 125 [.agg (KNode.row false x), .agg (KNode.row false x)] = some ([.leaf (.bool true)], [.gone, .gone]) := by
  refine run_laws_eqNode ?_
  simp (disch := omega) [if_pos, if_neg, wrap_i64, laws_eqNode.b, eqIntS, eqStringS]
theorem eqNodeS_loop (ks : List Fr) (Q : VX → Env → Prop) : ∀ (rest done : List KNode) (i : Int), i = done.length → (done.length : Int) + (KNode.cnts rest : Int) ≤ 1000000000000000 →
    Run G A (.exit 0) [(0, .v (.leaf (KNode.sl false (done ++ rest)))), (1, .v (.leaf (KNode.sl false (done ++ rest)))), (5, .v (.leaf (.int .i64 (done.length + rest.length)))), (14, .v (.leaf (.bool false)))] ks Q →
    Run G A (.loop laws_eqNodeS.l0) [(0, .v (.leaf (KNode.sl false (done ++ rest)))), (1, .v (.leaf (KNode.sl false (done ++ rest)))), (5, .v (.leaf (.int .i64 i)))] ks Q := by
  intro rest
  induction rest with
  | nil =>
    intro done i hi h1 hq
    subst hi
    refine run_loop_at laws_eqNodeS.l0.eq_1 ?_
    simpa using hq
  | cons x rest ih =>
    intro done i hi h1 hq
    subst hi
    simp only [KNode.cnts, KNode.cnt, List.length_cons] at h1
    have := KNode.len_le rest
    have ih := ih (done ++ [x]) (done.length + 1) (by simp) (by simp; omega)
    refine run_loop_at laws_eqNodeS.l0.eq_1 ?_
    simp (disch := omega) [if_pos, if_neg, wrap_i64, eqIntS, eqStringS, eqNode, get_mid]
    refine run_env (ih (run_env hq ?_)) ?_
    · simp <;> omega
    · simp
theorem eqNodeS (xs : List KNode) (h : (KNode.cnts xs : Int) ≤ 1000000000000000) : A 114 [.leaf (KNode.sl false (xs)), .leaf (KNode.sl false (xs))] = some ([.leaf (.bool true)], [.gone, .gone]) := by
  refine run_laws_eqNodeS ?_
  have := KNode.len_le xs
  simp [laws_eqNodeS.b]
  refine eqNodeS_loop _ _ xs [] 0 (by simp) (by simp; omega) ?_
  simp
theorem markNodeS_loop (ks : List Fr) (Q : VX → Env → Prop) : ∀ (rest done : List KNode) (k i : Int), i = done.length → 0 ≤ k → k + (KNode.cnts rest : Int) ≤ 1000000000000000 → (done.length : Int) + (KNode.cnts rest : Int) ≤ 1000000000000000 →
    Run G A (.exit 0) [(0, .v (.leaf (KNode.sl true (done ++ KNode.marks k rest)))), (1, .v (.leaf (.int .i64 (k + (KNode.cnts rest : Int))))), (5, .v (.leaf (.int .i64 (done.length + rest.length)))), (9, .v (.leaf (.bool false)))] ks Q →
    Run G A (.loop laws_markNodeS.l0) [(0, .v (.leaf (KNode.sl true (done ++ rest)))), (1, .v (.leaf (.int .i64 k))), (5, .v (.leaf (.int .i64 i)))] ks Q := by
  intro rest
  induction rest with
  | nil =>
    intro done k i hi h0 h1 h2 hq
    subst hi
    refine run_loop_at laws_markNodeS.l0.eq_1 ?_
    simpa [KNode.marks, KNode.cnts, KNode.cnt] using hq
  | cons x rest ih =>
    intro done k i hi h0 h1 h2 hq
    subst hi
    simp only [KNode.cnts, KNode.cnt, List.length_cons] at h1 h2
    have := KNode.len_le rest
    have ih := ih (done ++ [KNode.mark k x]) (k + (KNode.cnt x : Int)) (done.length + 1) (by simp) (by simp only [KNode.cnt]; omega) (by simp only [KNode.cnt]; omega) (by simp [KNode.cnt]; omega)
    refine run_loop_at laws_markNodeS.l0.eq_1 ?_
    simp (disch := omega) [if_pos, if_neg, wrap_i64, markText, markIntS, markStringS]
    refine run_env (ih (run_env hq ?_)) ?_
    · simp [KNode.marks, KNode.cnts, KNode.cnt] <;> omega
    · simp [KNode.mark, KNode.cnts, KNode.cnt] <;> omega
theorem markNodeS (xs : List KNode) (k : Int) (h0 : 0 ≤ k) (h1 : k + (KNode.cnts xs : Int) ≤ 1000000000000000) : A 63 [.leaf (KNode.sl true (xs)), .leaf (.int .i64 k)] = some ([.leaf (.int .i64 (k + (KNode.cnts xs : Int)))], [.leaf (KNode.sl true (KNode.marks k xs)), .gone]) := by
  refine run_laws_markNodeS ?_
  simp [laws_markNodeS.b]
  refine markNodeS_loop _ _ xs [] k 0 (by simp) h0 h1 (by simp; omega) ?_
  simp
theorem heldNodeS_loop (ks : List Fr) (Q : VX → Env → Prop) : ∀ (rest done : List KNode) (k i : Int), i = done.length → 0 ≤ k → k + (KNode.cnts rest : Int) ≤ 1000000000000000 → (done.length : Int) + (KNode.cnts rest : Int) ≤ 1000000000000000 →
    Run G A (.exit 0) [(0, .v (.leaf (KNode.sl false (done ++ KNode.marks k rest)))), (1, .v (.leaf (.int .i64 (k + (KNode.cnts rest : Int))))), (5, .v (.leaf (.int .i64 (done.length + rest.length)))), (9, .v (.leaf (.bool false)))] ks Q →
    Run G A (.loop laws_heldNodeS.l0) [(0, .v (.leaf (KNode.sl false (done ++ KNode.marks k rest)))), (1, .v (.leaf (.int .i64 k))), (5, .v (.leaf (.int .i64 i)))] ks Q := by
  intro rest
  induction rest with
  | nil =>
    intro done k i hi h0 h1 h2 hq
    subst hi
    refine run_loop_at laws_heldNodeS.l0.eq_1 ?_
    simp [KNode.marks, KNode.cnts, KNode.cnt] at hq ⊢
    exact hq
  | cons x rest ih =>
    intro done k i hi h0 h1 h2 hq
    subst hi
    simp only [KNode.cnts, KNode.cnt, List.length_cons] at h1 h2
    have := KNode.len_le rest
    have ih := ih (done ++ [KNode.mark k x]) (k + (KNode.cnt x : Int)) (done.length + 1) (by simp) (by simp only [KNode.cnt]; omega) (by simp only [KNode.cnt]; omega) (by simp [KNode.cnt]; omega)
    refine run_loop_at laws_heldNodeS.l0.eq_1 ?_
    simp only [KNode.marks]
    simp (disch := omega) [if_pos, if_neg, wrap_i64, markText, heldIntS, heldStringS, KNode.mark]
    refine run_env (ih (run_env hq ?_)) ?_
    · simp [KNode.marks, KNode.cnts, KNode.cnt] <;> omega
    · simp [KNode.mark, KNode.cnts, KNode.cnt] <;> omega
theorem heldNodeS (xs : List KNode) (k : Int) (h0 : 0 ≤ k) (h1 : k + (KNode.cnts xs : Int) ≤ 1000000000000000) : A 67 [.leaf (KNode.sl false (KNode.marks k xs)), .leaf (.int .i64 k)] = some ([.leaf (.int .i64 (k + (KNode.cnts xs : Int)))], [.gone, .gone]) := by
  refine run_laws_heldNodeS ?_
  simp [laws_heldNodeS.b]
  refine heldNodeS_loop _ _ xs [] k 0 (by simp) h0 h1 (by simp; omega) ?_
  simp
theorem eqProg (x : KProg) (h : (KNode.cnts x.nodes : Int) ≤ 1000000000000000) : A 91 [.agg (KProg.row false x), .agg (KProg.row false x)] = some ([.leaf (.bool true)], [.gone, .gone]) := by
  refine run_laws_eqProg ?_
  simp (disch := omega) [if_pos, if_neg, wrap_i64, laws_eqProg.b, eqIntS, eqStringS, eqNode, eqNodeS]
theorem eqValue (x : KValue) : A 112 [.agg (KValue.row false x), .agg (KValue.row false x)] = some ([.leaf (.bool true)], [.gone, .gone]) := by
  refine run_laws_eqValue ?_
  simp (disch := omega) [if_pos, if_neg, wrap_i64, laws_eqValue.b, eqIntS, eqStringS, eqNode, eqNodeS, eqProg]
theorem eqValueS_loop (ks : List Fr) (Q : VX → Env → Prop) : ∀ (rest done : List KValue) (i : Int), i = done.length → (done.length : Int) + (KValue.cnts rest : Int) ≤ 1000000000000000 →
    Run G A (.exit 0) [(0, .v (.leaf (KValue.sl false (done ++ rest)))), (1, .v (.leaf (KValue.sl false (done ++ rest)))), (5, .v (.leaf (.int .i64 (done.length + rest.length)))), (14, .v (.leaf (.bool false)))] ks Q →
    Run G A (.loop laws_eqValueS.l0) [(0, .v (.leaf (KValue.sl false (done ++ rest)))), (1, .v (.leaf (KValue.sl false (done ++ rest)))), (5, .v (.leaf (.int .i64 i)))] ks Q := by
  intro rest
  induction rest with
  | nil =>
    intro done i hi h1 hq
    subst hi
    refine run_loop_at laws_eqValueS.l0.eq_1 ?_
    simpa using hq
  | cons x rest ih =>
    intro done i hi h1 hq
    subst hi
    simp only [KValue.cnts, KValue.cnt, List.length_cons] at h1
    have := KValue.len_le rest
    have ih := ih (done ++ [x]) (done.length + 1) (by simp) (by simp; omega)
    refine run_loop_at laws_eqValueS.l0.eq_1 ?_
    simp (disch := omega) [if_pos, if_neg, wrap_i64, eqIntS, eqStringS, eqNode, eqNodeS, eqProg, eqValue, get_mid]
    refine run_env (ih (run_env hq ?_)) ?_
    · simp <;> omega
    · simp
theorem eqValueS (xs : List KValue) (h : (KValue.cnts xs : Int) ≤ 1000000000000000) : A 89 [.leaf (KValue.sl false (xs)), .leaf (KValue.sl false (xs))] = some ([.leaf (.bool true)], [.gone, .gone]) := by
  refine run_laws_eqValueS ?_
  have := KValue.len_le xs
  simp [laws_eqValueS.b]
  refine eqValueS_loop _ _ xs [] 0 (by simp) (by simp; omega) ?_
  simp
theorem markValueS_loop (ks : List Fr) (Q : VX → Env → Prop) : ∀ (rest done : List KValue) (k i : Int), i = done.length → 0 ≤ k → k + (KValue.cnts rest : Int) ≤ 1000000000000000 → (done.length : Int) + (KValue.cnts rest : Int) ≤ 1000000000000000 →
    Run G A (.exit 0) [(0, .v (.leaf (KValue.sl true (done ++ KValue.marks k rest)))), (1, .v (.leaf (.int .i64 (k + (KValue.cnts rest : Int))))), (5, .v (.leaf (.int .i64 (done.length + rest.length)))), (9, .v (.leaf (.bool false)))] ks Q →
    Run G A (.loop laws_markValueS.l0) [(0, .v (.leaf (KValue.sl true (done ++ rest)))), (1, .v (.leaf (.int .i64 k))), (5, .v (.leaf (.int .i64 i)))] ks Q := by
  intro rest
  induction rest with
  | nil =>
    intro done k i hi h0 h1 h2 hq
    subst hi
    refine run_loop_at laws_markValueS.l0.eq_1 ?_
    simpa [KValue.marks, KValue.cnts, KValue.cnt] using hq
  | cons x rest ih =>
    intro done k i hi h0 h1 h2 hq
    subst hi
    simp only [KValue.cnts, KValue.cnt, List.length_cons] at h1 h2
    have := KValue.len_le rest
    have ih := ih (done ++ [KValue.mark k x]) (k + (KValue.cnt x : Int)) (done.length + 1) (by simp) (by simp only [KValue.cnt]; omega) (by simp only [KValue.cnt]; omega) (by simp [KValue.cnt]; omega)
    refine run_loop_at laws_markValueS.l0.eq_1 ?_
    simp (disch := omega) [if_pos, if_neg, wrap_i64, markText, markIntS, markStringS, markNodeS]
    refine run_env (ih (run_env hq ?_)) ?_
    · simp [KValue.marks, KValue.cnts, KValue.cnt] <;> omega
    · simp [KValue.mark, KValue.cnts, KValue.cnt] <;> omega
theorem markValueS (xs : List KValue) (k : Int) (h0 : 0 ≤ k) (h1 : k + (KValue.cnts xs : Int) ≤ 1000000000000000) : A 61 [.leaf (KValue.sl true (xs)), .leaf (.int .i64 k)] = some ([.leaf (.int .i64 (k + (KValue.cnts xs : Int)))], [.leaf (KValue.sl true (KValue.marks k xs)), .gone]) := by
  refine run_laws_markValueS ?_
  simp [laws_markValueS.b]
  refine markValueS_loop _ _ xs [] k 0 (by simp) h0 h1 (by simp; omega) ?_
  simp
theorem heldValueS_loop (ks : List Fr) (Q : VX → Env → Prop) : ∀ (rest done : List KValue) (k i : Int), i = done.length → 0 ≤ k → k + (KValue.cnts rest : Int) ≤ 1000000000000000 → (done.length : Int) + (KValue.cnts rest : Int) ≤ 1000000000000000 →
    Run G A (.exit 0) [(0, .v (.leaf (KValue.sl false (done ++ KValue.marks k rest)))), (1, .v (.leaf (.int .i64 (k + (KValue.cnts rest : Int))))), (5, .v (.leaf (.int .i64 (done.length + rest.length)))), (9, .v (.leaf (.bool false)))] ks Q →
    Run G A (.loop laws_heldValueS.l0) [(0, .v (.leaf (KValue.sl false (done ++ KValue.marks k rest)))), (1, .v (.leaf (.int .i64 k))), (5, .v (.leaf (.int .i64 i)))] ks Q := by
  intro rest
  induction rest with
  | nil =>
    intro done k i hi h0 h1 h2 hq
    subst hi
    refine run_loop_at laws_heldValueS.l0.eq_1 ?_
    simp [KValue.marks, KValue.cnts, KValue.cnt] at hq ⊢
    exact hq
  | cons x rest ih =>
    intro done k i hi h0 h1 h2 hq
    subst hi
    simp only [KValue.cnts, KValue.cnt, List.length_cons] at h1 h2
    have := KValue.len_le rest
    have ih := ih (done ++ [KValue.mark k x]) (k + (KValue.cnt x : Int)) (done.length + 1) (by simp) (by simp only [KValue.cnt]; omega) (by simp only [KValue.cnt]; omega) (by simp [KValue.cnt]; omega)
    refine run_loop_at laws_heldValueS.l0.eq_1 ?_
    simp only [KValue.marks]
    simp (disch := omega) [if_pos, if_neg, wrap_i64, markText, heldIntS, heldStringS, heldNodeS, KValue.mark]
    refine run_env (ih (run_env hq ?_)) ?_
    · simp [KValue.marks, KValue.cnts, KValue.cnt] <;> omega
    · simp [KValue.mark, KValue.cnts, KValue.cnt] <;> omega
theorem heldValueS (xs : List KValue) (k : Int) (h0 : 0 ≤ k) (h1 : k + (KValue.cnts xs : Int) ≤ 1000000000000000) : A 64 [.leaf (KValue.sl false (KValue.marks k xs)), .leaf (.int .i64 k)] = some ([.leaf (.int .i64 (k + (KValue.cnts xs : Int)))], [.gone, .gone]) := by
  refine run_laws_heldValueS ?_
  simp [laws_heldValueS.b]
  refine heldValueS_loop _ _ xs [] k 0 (by simp) h0 h1 (by simp; omega) ?_
  simp
theorem eqCell (x : KCell) (h : (x.names.length : Int) ≤ 1000000000000000 ∧ (KValue.cnts x.vals : Int) ≤ 1000000000000000) : A 58 [.agg (KCell.row false x), .agg (KCell.row false x)] = some ([.leaf (.bool true)], [.gone, .gone]) := by
  refine run_laws_eqCell ?_
  simp (disch := omega) [if_pos, if_neg, wrap_i64, laws_eqCell.b, eqIntS, eqStringS, eqNode, eqNodeS, eqProg, eqValue, eqValueS]
theorem eqCellS_loop (ks : List Fr) (Q : VX → Env → Prop) : ∀ (rest done : List KCell) (i : Int), i = done.length → (done.length : Int) + (KCell.cnts rest : Int) ≤ 1000000000000000 →
    Run G A (.exit 0) [(0, .v (.leaf (KCell.sl false (done ++ rest)))), (1, .v (.leaf (KCell.sl false (done ++ rest)))), (5, .v (.leaf (.int .i64 (done.length + rest.length)))), (14, .v (.leaf (.bool false)))] ks Q →
    Run G A (.loop laws_eqCellS.l0) [(0, .v (.leaf (KCell.sl false (done ++ rest)))), (1, .v (.leaf (KCell.sl false (done ++ rest)))), (5, .v (.leaf (.int .i64 i)))] ks Q := by
  intro rest
  induction rest with
  | nil =>
    intro done i hi h1 hq
    subst hi
    refine run_loop_at laws_eqCellS.l0.eq_1 ?_
    simpa using hq
  | cons x rest ih =>
    intro done i hi h1 hq
    subst hi
    simp only [KCell.cnts, KCell.cnt, List.length_cons] at h1
    have := KCell.len_le rest
    have ih := ih (done ++ [x]) (done.length + 1) (by simp) (by simp; omega)
    refine run_loop_at laws_eqCellS.l0.eq_1 ?_
    simp (disch := omega) [if_pos, if_neg, wrap_i64, eqIntS, eqStringS, eqNode, eqNodeS, eqProg, eqValue, eqValueS, eqCell, get_mid]
    refine run_env (ih (run_env hq ?_)) ?_
    · simp <;> omega
    · simp
theorem eqCellS (xs : List KCell) (h : (KCell.cnts xs : Int) ≤ 1000000000000000) : A 28 [.leaf (KCell.sl false (xs)), .leaf (KCell.sl false (xs))] = some ([.leaf (.bool true)], [.gone, .gone]) := by
  refine run_laws_eqCellS ?_
  have := KCell.len_le xs
  simp [laws_eqCellS.b]
  refine eqCellS_loop _ _ xs [] 0 (by simp) (by simp; omega) ?_
  simp
theorem markCellS_loop (ks : List Fr) (Q : VX → Env → Prop) : ∀ (rest done : List KCell) (k i : Int), i = done.length → 0 ≤ k → k + (KCell.cnts rest : Int) ≤ 1000000000000000 → (done.length : Int) + (KCell.cnts rest : Int) ≤ 1000000000000000 →
    Run G A (.exit 0) [(0, .v (.leaf (KCell.sl true (done ++ KCell.marks k rest)))), (1, .v (.leaf (.int .i64 (k + (KCell.cnts rest : Int))))), (5, .v (.leaf (.int .i64 (done.length + rest.length)))), (9, .v (.leaf (.bool false)))] ks Q →
    Run G A (.loop laws_markCellS.l0) [(0, .v (.leaf (KCell.sl true (done ++ rest)))), (1, .v (.leaf (.int .i64 k))), (5, .v (.leaf (.int .i64 i)))] ks Q := by
  intro rest
  induction rest with
  | nil =>
    intro done k i hi h0 h1 h2 hq
    subst hi
    refine run_loop_at laws_markCellS.l0.eq_1 ?_
    simpa [KCell.marks, KCell.cnts, KCell.cnt] using hq
  | cons x rest ih =>
    intro done k i hi h0 h1 h2 hq
    subst hi
    simp only [KCell.cnts, KCell.cnt, List.length_cons] at h1 h2
    have := KCell.len_le rest
    have ih := ih (done ++ [KCell.mark k x]) (k + (KCell.cnt x : Int)) (done.length + 1) (by simp) (by simp only [KCell.cnt]; omega) (by simp only [KCell.cnt]; omega) (by simp [KCell.cnt]; omega)
    refine run_loop_at laws_markCellS.l0.eq_1 ?_
    simp (disch := omega) [if_pos, if_neg, wrap_i64, markText, markIntS, markStringS, markNodeS, markValueS]
    refine run_env (ih (run_env hq ?_)) ?_
    · simp [KCell.marks, KCell.cnts, KCell.cnt] <;> omega
    · simp [KCell.mark, KCell.cnts, KCell.cnt] <;> omega
theorem markCellS (xs : List KCell) (k : Int) (h0 : 0 ≤ k) (h1 : k + (KCell.cnts xs : Int) ≤ 1000000000000000) : A 31 [.leaf (KCell.sl true (xs)), .leaf (.int .i64 k)] = some ([.leaf (.int .i64 (k + (KCell.cnts xs : Int)))], [.leaf (KCell.sl true (KCell.marks k xs)), .gone]) := by
  refine run_laws_markCellS ?_
  simp [laws_markCellS.b]
  refine markCellS_loop _ _ xs [] k 0 (by simp) h0 h1 (by simp; omega) ?_
  simp
theorem heldCellS_loop (ks : List Fr) (Q : VX → Env → Prop) : ∀ (rest done : List KCell) (k i : Int), i = done.length → 0 ≤ k → k + (KCell.cnts rest : Int) ≤ 1000000000000000 → (done.length : Int) + (KCell.cnts rest : Int) ≤ 1000000000000000 →
    Run G A (.exit 0) [(0, .v (.leaf (KCell.sl false (done ++ KCell.marks k rest)))), (1, .v (.leaf (.int .i64 (k + (KCell.cnts rest : Int))))), (5, .v (.leaf (.int .i64 (done.length + rest.length)))), (9, .v (.leaf (.bool false)))] ks Q →
    Run G A (.loop laws_heldCellS.l0) [(0, .v (.leaf (KCell.sl false (done ++ KCell.marks k rest)))), (1, .v (.leaf (.int .i64 k))), (5, .v (.leaf (.int .i64 i)))] ks Q := by
  intro rest
  induction rest with
  | nil =>
    intro done k i hi h0 h1 h2 hq
    subst hi
    refine run_loop_at laws_heldCellS.l0.eq_1 ?_
    simp [KCell.marks, KCell.cnts, KCell.cnt] at hq ⊢
    exact hq
  | cons x rest ih =>
    intro done k i hi h0 h1 h2 hq
    subst hi
    simp only [KCell.cnts, KCell.cnt, List.length_cons] at h1 h2
    have := KCell.len_le rest
    have ih := ih (done ++ [KCell.mark k x]) (k + (KCell.cnt x : Int)) (done.length + 1) (by simp) (by simp only [KCell.cnt]; omega) (by simp only [KCell.cnt]; omega) (by simp [KCell.cnt]; omega)
    refine run_loop_at laws_heldCellS.l0.eq_1 ?_
    simp only [KCell.marks]
    simp (disch := omega) [if_pos, if_neg, wrap_i64, markText, heldIntS, heldStringS, heldNodeS, heldValueS, KCell.mark]
    refine run_env (ih (run_env hq ?_)) ?_
    · simp [KCell.marks, KCell.cnts, KCell.cnt] <;> omega
    · simp [KCell.mark, KCell.cnts, KCell.cnt] <;> omega
theorem heldCellS (xs : List KCell) (k : Int) (h0 : 0 ≤ k) (h1 : k + (KCell.cnts xs : Int) ≤ 1000000000000000) : A 34 [.leaf (KCell.sl false (KCell.marks k xs)), .leaf (.int .i64 k)] = some ([.leaf (.int .i64 (k + (KCell.cnts xs : Int)))], [.gone, .gone]) := by
  refine run_laws_heldCellS ?_
  simp [laws_heldCellS.b]
  refine heldCellS_loop _ _ xs [] k 0 (by simp) h0 h1 (by simp; omega) ?_
  simp
theorem eqLink (x : KLink) : A 113 [.agg (KLink.row false x), .agg (KLink.row false x)] = some ([.leaf (.bool true)], [.gone, .gone]) := by
  refine run_laws_eqLink ?_
  simp (disch := omega) [if_pos, if_neg, wrap_i64, laws_eqLink.b, eqIntS, eqStringS, eqNode, eqNodeS, eqProg, eqValue, eqValueS, eqCell, eqCellS]
theorem eqLinkS_loop (ks : List Fr) (Q : VX → Env → Prop) : ∀ (rest done : List KLink) (i : Int), i = done.length → (done.length : Int) + (KLink.cnts rest : Int) ≤ 1000000000000000 →
    Run G A (.exit 0) [(0, .v (.leaf (KLink.sl false (done ++ rest)))), (1, .v (.leaf (KLink.sl false (done ++ rest)))), (5, .v (.leaf (.int .i64 (done.length + rest.length)))), (14, .v (.leaf (.bool false)))] ks Q →
    Run G A (.loop laws_eqLinkS.l0) [(0, .v (.leaf (KLink.sl false (done ++ rest)))), (1, .v (.leaf (KLink.sl false (done ++ rest)))), (5, .v (.leaf (.int .i64 i)))] ks Q := by
  intro rest
  induction rest with
  | nil =>
    intro done i hi h1 hq
    subst hi
    refine run_loop_at laws_eqLinkS.l0.eq_1 ?_
    simpa using hq
  | cons x rest ih =>
    intro done i hi h1 hq
    subst hi
    simp only [KLink.cnts, KLink.cnt, List.length_cons] at h1
    have := KLink.len_le rest
    have ih := ih (done ++ [x]) (done.length + 1) (by simp) (by simp; omega)
    refine run_loop_at laws_eqLinkS.l0.eq_1 ?_
    simp (disch := omega) [if_pos, if_neg, wrap_i64, eqIntS, eqStringS, eqNode, eqNodeS, eqProg, eqValue, eqValueS, eqCell, eqCellS, eqLink, get_mid]
    refine run_env (ih (run_env hq ?_)) ?_
    · simp <;> omega
    · simp
theorem eqLinkS (xs : List KLink) (h : (KLink.cnts xs : Int) ≤ 1000000000000000) : A 90 [.leaf (KLink.sl false (xs)), .leaf (KLink.sl false (xs))] = some ([.leaf (.bool true)], [.gone, .gone]) := by
  refine run_laws_eqLinkS ?_
  have := KLink.len_le xs
  simp [laws_eqLinkS.b]
  refine eqLinkS_loop _ _ xs [] 0 (by simp) (by simp; omega) ?_
  simp
theorem markLinkS_loop (ks : List Fr) (Q : VX → Env → Prop) : ∀ (rest done : List KLink) (k i : Int), i = done.length → 0 ≤ k → k + (KLink.cnts rest : Int) ≤ 1000000000000000 → (done.length : Int) + (KLink.cnts rest : Int) ≤ 1000000000000000 →
    Run G A (.exit 0) [(0, .v (.leaf (KLink.sl true (done ++ KLink.marks k rest)))), (1, .v (.leaf (.int .i64 (k + (KLink.cnts rest : Int))))), (5, .v (.leaf (.int .i64 (done.length + rest.length)))), (9, .v (.leaf (.bool false)))] ks Q →
    Run G A (.loop laws_markLinkS.l0) [(0, .v (.leaf (KLink.sl true (done ++ rest)))), (1, .v (.leaf (.int .i64 k))), (5, .v (.leaf (.int .i64 i)))] ks Q := by
  intro rest
  induction rest with
  | nil =>
    intro done k i hi h0 h1 h2 hq
    subst hi
    refine run_loop_at laws_markLinkS.l0.eq_1 ?_
    simpa [KLink.marks, KLink.cnts, KLink.cnt] using hq
  | cons x rest ih =>
    intro done k i hi h0 h1 h2 hq
    subst hi
    simp only [KLink.cnts, KLink.cnt, List.length_cons] at h1 h2
    have := KLink.len_le rest
    have ih := ih (done ++ [KLink.mark k x]) (k + (KLink.cnt x : Int)) (done.length + 1) (by simp) (by simp only [KLink.cnt]; omega) (by simp only [KLink.cnt]; omega) (by simp [KLink.cnt]; omega)
    refine run_loop_at laws_markLinkS.l0.eq_1 ?_
    simp (disch := omega) [if_pos, if_neg, wrap_i64, markText, markIntS, markStringS, markNodeS, markValueS, markCellS]
    refine run_env (ih (run_env hq ?_)) ?_
    · simp [KLink.marks, KLink.cnts, KLink.cnt] <;> omega
    · simp [KLink.mark, KLink.cnts, KLink.cnt] <;> omega
theorem markLinkS (xs : List KLink) (k : Int) (h0 : 0 ≤ k) (h1 : k + (KLink.cnts xs : Int) ≤ 1000000000000000) : A 62 [.leaf (KLink.sl true (xs)), .leaf (.int .i64 k)] = some ([.leaf (.int .i64 (k + (KLink.cnts xs : Int)))], [.leaf (KLink.sl true (KLink.marks k xs)), .gone]) := by
  refine run_laws_markLinkS ?_
  simp [laws_markLinkS.b]
  refine markLinkS_loop _ _ xs [] k 0 (by simp) h0 h1 (by simp; omega) ?_
  simp
theorem heldLinkS_loop (ks : List Fr) (Q : VX → Env → Prop) : ∀ (rest done : List KLink) (k i : Int), i = done.length → 0 ≤ k → k + (KLink.cnts rest : Int) ≤ 1000000000000000 → (done.length : Int) + (KLink.cnts rest : Int) ≤ 1000000000000000 →
    Run G A (.exit 0) [(0, .v (.leaf (KLink.sl false (done ++ KLink.marks k rest)))), (1, .v (.leaf (.int .i64 (k + (KLink.cnts rest : Int))))), (5, .v (.leaf (.int .i64 (done.length + rest.length)))), (9, .v (.leaf (.bool false)))] ks Q →
    Run G A (.loop laws_heldLinkS.l0) [(0, .v (.leaf (KLink.sl false (done ++ KLink.marks k rest)))), (1, .v (.leaf (.int .i64 k))), (5, .v (.leaf (.int .i64 i)))] ks Q := by
  intro rest
  induction rest with
  | nil =>
    intro done k i hi h0 h1 h2 hq
    subst hi
    refine run_loop_at laws_heldLinkS.l0.eq_1 ?_
    simp [KLink.marks, KLink.cnts, KLink.cnt] at hq ⊢
    exact hq
  | cons x rest ih =>
    intro done k i hi h0 h1 h2 hq
    subst hi
    simp only [KLink.cnts, KLink.cnt, List.length_cons] at h1 h2
    have := KLink.len_le rest
    have ih := ih (done ++ [KLink.mark k x]) (k + (KLink.cnt x : Int)) (done.length + 1) (by simp) (by simp only [KLink.cnt]; omega) (by simp only [KLink.cnt]; omega) (by simp [KLink.cnt]; omega)
    refine run_loop_at laws_heldLinkS.l0.eq_1 ?_
    simp only [KLink.marks]
    simp (disch := omega) [if_pos, if_neg, wrap_i64, markText, heldIntS, heldStringS, heldNodeS, heldValueS, heldCellS, KLink.mark]
    refine run_env (ih (run_env hq ?_)) ?_
    · simp [KLink.marks, KLink.cnts, KLink.cnt] <;> omega
    · simp [KLink.mark, KLink.cnts, KLink.cnt] <;> omega
theorem heldLinkS (xs : List KLink) (k : Int) (h0 : 0 ≤ k) (h1 : k + (KLink.cnts xs : Int) ≤ 1000000000000000) : A 65 [.leaf (KLink.sl false (KLink.marks k xs)), .leaf (.int .i64 k)] = some ([.leaf (.int .i64 (k + (KLink.cnts xs : Int)))], [.gone, .gone]) := by
  refine run_laws_heldLinkS ?_
  simp [laws_heldLinkS.b]
  refine heldLinkS_loop _ _ xs [] k 0 (by simp) h0 h1 (by simp; omega) ?_
  simp
theorem eqType (x : KType) : A 109 [.agg (KType.row false x), .agg (KType.row false x)] = some ([.leaf (.bool true)], [.gone, .gone]) := by
  refine run_laws_eqType ?_
  simp (disch := omega) [if_pos, if_neg, wrap_i64, laws_eqType.b, eqIntS, eqStringS, eqNode, eqNodeS, eqProg, eqValue, eqValueS, eqCell, eqCellS, eqLink, eqLinkS]
theorem eqTypeS_loop (ks : List Fr) (Q : VX → Env → Prop) : ∀ (rest done : List KType) (i : Int), i = done.length → (done.length : Int) + (KType.cnts rest : Int) ≤ 1000000000000000 →
    Run G A (.exit 0) [(0, .v (.leaf (KType.sl false (done ++ rest)))), (1, .v (.leaf (KType.sl false (done ++ rest)))), (5, .v (.leaf (.int .i64 (done.length + rest.length)))), (14, .v (.leaf (.bool false)))] ks Q →
    Run G A (.loop laws_eqTypeS.l0) [(0, .v (.leaf (KType.sl false (done ++ rest)))), (1, .v (.leaf (KType.sl false (done ++ rest)))), (5, .v (.leaf (.int .i64 i)))] ks Q := by
  intro rest
  induction rest with
  | nil =>
    intro done i hi h1 hq
    subst hi
    refine run_loop_at laws_eqTypeS.l0.eq_1 ?_
    simpa using hq
  | cons x rest ih =>
    intro done i hi h1 hq
    subst hi
    simp only [KType.cnts, KType.cnt, List.length_cons] at h1
    have := KType.len_le rest
    have ih := ih (done ++ [x]) (done.length + 1) (by simp) (by simp; omega)
    refine run_loop_at laws_eqTypeS.l0.eq_1 ?_
    simp (disch := omega) [if_pos, if_neg, wrap_i64, eqIntS, eqStringS, eqNode, eqNodeS, eqProg, eqValue, eqValueS, eqCell, eqCellS, eqLink, eqLinkS, eqType, get_mid]
    refine run_env (ih (run_env hq ?_)) ?_
    · simp <;> omega
    · simp
theorem eqTypeS (xs : List KType) (h : (KType.cnts xs : Int) ≤ 1000000000000000) : A 79 [.leaf (KType.sl false (xs)), .leaf (KType.sl false (xs))] = some ([.leaf (.bool true)], [.gone, .gone]) := by
  refine run_laws_eqTypeS ?_
  have := KType.len_le xs
  simp [laws_eqTypeS.b]
  refine eqTypeS_loop _ _ xs [] 0 (by simp) (by simp; omega) ?_
  simp
theorem markTypeS_loop (ks : List Fr) (Q : VX → Env → Prop) : ∀ (rest done : List KType) (k i : Int), i = done.length → 0 ≤ k → k + (KType.cnts rest : Int) ≤ 1000000000000000 → (done.length : Int) + (KType.cnts rest : Int) ≤ 1000000000000000 →
    Run G A (.exit 0) [(0, .v (.leaf (KType.sl true (done ++ KType.marks k rest)))), (1, .v (.leaf (.int .i64 (k + (KType.cnts rest : Int))))), (5, .v (.leaf (.int .i64 (done.length + rest.length)))), (9, .v (.leaf (.bool false)))] ks Q →
    Run G A (.loop laws_markTypeS.l0) [(0, .v (.leaf (KType.sl true (done ++ rest)))), (1, .v (.leaf (.int .i64 k))), (5, .v (.leaf (.int .i64 i)))] ks Q := by
  intro rest
  induction rest with
  | nil =>
    intro done k i hi h0 h1 h2 hq
    subst hi
    refine run_loop_at laws_markTypeS.l0.eq_1 ?_
    simpa [KType.marks, KType.cnts, KType.cnt] using hq
  | cons x rest ih =>
    intro done k i hi h0 h1 h2 hq
    subst hi
    simp only [KType.cnts, KType.cnt, List.length_cons] at h1 h2
    have := KType.len_le rest
    have ih := ih (done ++ [KType.mark k x]) (k + (KType.cnt x : Int)) (done.length + 1) (by simp) (by simp only [KType.cnt]; omega) (by simp only [KType.cnt]; omega) (by simp [KType.cnt]; omega)
    refine run_loop_at laws_markTypeS.l0.eq_1 ?_
    simp (disch := omega) [if_pos, if_neg, wrap_i64, markText, markIntS, markStringS, markNodeS, markValueS, markCellS, markLinkS]
    refine run_env (ih (run_env hq ?_)) ?_
    · simp [KType.marks, KType.cnts, KType.cnt] <;> omega
    · simp [KType.mark, KType.cnts, KType.cnt] <;> omega
theorem markTypeS (xs : List KType) (k : Int) (h0 : 0 ≤ k) (h1 : k + (KType.cnts xs : Int) ≤ 1000000000000000) : A 49 [.leaf (KType.sl true (xs)), .leaf (.int .i64 k)] = some ([.leaf (.int .i64 (k + (KType.cnts xs : Int)))], [.leaf (KType.sl true (KType.marks k xs)), .gone]) := by
  refine run_laws_markTypeS ?_
  simp [laws_markTypeS.b]
  refine markTypeS_loop _ _ xs [] k 0 (by simp) h0 h1 (by simp; omega) ?_
  simp
theorem heldTypeS_loop (ks : List Fr) (Q : VX → Env → Prop) : ∀ (rest done : List KType) (k i : Int), i = done.length → 0 ≤ k → k + (KType.cnts rest : Int) ≤ 1000000000000000 → (done.length : Int) + (KType.cnts rest : Int) ≤ 1000000000000000 →
    Run G A (.exit 0) [(0, .v (.leaf (KType.sl false (done ++ KType.marks k rest)))), (1, .v (.leaf (.int .i64 (k + (KType.cnts rest : Int))))), (5, .v (.leaf (.int .i64 (done.length + rest.length)))), (9, .v (.leaf (.bool false)))] ks Q →
    Run G A (.loop laws_heldTypeS.l0) [(0, .v (.leaf (KType.sl false (done ++ KType.marks k rest)))), (1, .v (.leaf (.int .i64 k))), (5, .v (.leaf (.int .i64 i)))] ks Q := by
  intro rest
  induction rest with
  | nil =>
    intro done k i hi h0 h1 h2 hq
    subst hi
    refine run_loop_at laws_heldTypeS.l0.eq_1 ?_
    simp [KType.marks, KType.cnts, KType.cnt] at hq ⊢
    exact hq
  | cons x rest ih =>
    intro done k i hi h0 h1 h2 hq
    subst hi
    simp only [KType.cnts, KType.cnt, List.length_cons] at h1 h2
    have := KType.len_le rest
    have ih := ih (done ++ [KType.mark k x]) (k + (KType.cnt x : Int)) (done.length + 1) (by simp) (by simp only [KType.cnt]; omega) (by simp only [KType.cnt]; omega) (by simp [KType.cnt]; omega)
    refine run_loop_at laws_heldTypeS.l0.eq_1 ?_
    simp only [KType.marks]
    simp (disch := omega) [if_pos, if_neg, wrap_i64, markText, heldIntS, heldStringS, heldNodeS, heldValueS, heldCellS, heldLinkS, KType.mark]
    refine run_env (ih (run_env hq ?_)) ?_
    · simp [KType.marks, KType.cnts, KType.cnt] <;> omega
    · simp [KType.mark, KType.cnts, KType.cnt] <;> omega
theorem heldTypeS (xs : List KType) (k : Int) (h0 : 0 ≤ k) (h1 : k + (KType.cnts xs : Int) ≤ 1000000000000000) : A 66 [.leaf (KType.sl false (KType.marks k xs)), .leaf (.int .i64 k)] = some ([.leaf (.int .i64 (k + (KType.cnts xs : Int)))], [.gone, .gone]) := by
  refine run_laws_heldTypeS ?_
  simp [laws_heldTypeS.b]
  refine heldTypeS_loop _ _ xs [] k 0 (by simp) h0 h1 (by simp; omega) ?_
  simp
theorem eqInst (x : KInst) (h : (x.names.length : Int) ≤ 1000000000000000 ∧ (KValue.cnts x.vals : Int) ≤ 1000000000000000 ∧ (KLink.cnts x.links : Int) ≤ 1000000000000000 ∧ (KType.cnts x.types : Int) ≤ 1000000000000000) : A 59 [.agg (KInst.row false x), .agg (KInst.row false x)] = some ([.leaf (.bool true)], [.gone, .gone]) := by
  refine run_laws_eqInst ?_
  simp (disch := omega) [if_pos, if_neg, wrap_i64, laws_eqInst.b, eqIntS, eqStringS, eqNode, eqNodeS, eqProg, eqValue, eqValueS, eqCell, eqCellS, eqLink, eqLinkS, eqType, eqTypeS]
theorem eqInstS_loop (ks : List Fr) (Q : VX → Env → Prop) : ∀ (rest done : List KInst) (i : Int), i = done.length → (done.length : Int) + (KInst.cnts rest : Int) ≤ 1000000000000000 →
    Run G A (.exit 0) [(0, .v (.leaf (KInst.sl false (done ++ rest)))), (1, .v (.leaf (KInst.sl false (done ++ rest)))), (5, .v (.leaf (.int .i64 (done.length + rest.length)))), (14, .v (.leaf (.bool false)))] ks Q →
    Run G A (.loop laws_eqInstS.l0) [(0, .v (.leaf (KInst.sl false (done ++ rest)))), (1, .v (.leaf (KInst.sl false (done ++ rest)))), (5, .v (.leaf (.int .i64 i)))] ks Q := by
  intro rest
  induction rest with
  | nil =>
    intro done i hi h1 hq
    subst hi
    refine run_loop_at laws_eqInstS.l0.eq_1 ?_
    simpa using hq
  | cons x rest ih =>
    intro done i hi h1 hq
    subst hi
    simp only [KInst.cnts, KInst.cnt, List.length_cons] at h1
    have := KInst.len_le rest
    have ih := ih (done ++ [x]) (done.length + 1) (by simp) (by simp; omega)
    refine run_loop_at laws_eqInstS.l0.eq_1 ?_
    simp (disch := omega) [if_pos, if_neg, wrap_i64, eqIntS, eqStringS, eqNode, eqNodeS, eqProg, eqValue, eqValueS, eqCell, eqCellS, eqLink, eqLinkS, eqType, eqTypeS, eqInst, get_mid]
    refine run_env (ih (run_env hq ?_)) ?_
    · simp <;> omega
    · simp
theorem eqInstS (xs : List KInst) (h : (KInst.cnts xs : Int) ≤ 1000000000000000) : A 29 [.leaf (KInst.sl false (xs)), .leaf (KInst.sl false (xs))] = some ([.leaf (.bool true)], [.gone, .gone]) := by
  refine run_laws_eqInstS ?_
  have := KInst.len_le xs
  simp [laws_eqInstS.b]
  refine eqInstS_loop _ _ xs [] 0 (by simp) (by simp; omega) ?_
  simp
theorem markInstS_loop (ks : List Fr) (Q : VX → Env → Prop) : ∀ (rest done : List KInst) (k i : Int), i = done.length → 0 ≤ k → k + (KInst.cnts rest : Int) ≤ 1000000000000000 → (done.length : Int) + (KInst.cnts rest : Int) ≤ 1000000000000000 →
    Run G A (.exit 0) [(0, .v (.leaf (KInst.sl true (done ++ KInst.marks k rest)))), (1, .v (.leaf (.int .i64 (k + (KInst.cnts rest : Int))))), (5, .v (.leaf (.int .i64 (done.length + rest.length)))), (9, .v (.leaf (.bool false)))] ks Q →
    Run G A (.loop laws_markInstS.l0) [(0, .v (.leaf (KInst.sl true (done ++ rest)))), (1, .v (.leaf (.int .i64 k))), (5, .v (.leaf (.int .i64 i)))] ks Q := by
  intro rest
  induction rest with
  | nil =>
    intro done k i hi h0 h1 h2 hq
    subst hi
    refine run_loop_at laws_markInstS.l0.eq_1 ?_
    simpa [KInst.marks, KInst.cnts, KInst.cnt] using hq
  | cons x rest ih =>
    intro done k i hi h0 h1 h2 hq
    subst hi
    simp only [KInst.cnts, KInst.cnt, List.length_cons] at h1 h2
    have := KInst.len_le rest
    have ih := ih (done ++ [KInst.mark k x]) (k + (KInst.cnt x : Int)) (done.length + 1) (by simp) (by simp only [KInst.cnt]; omega) (by simp only [KInst.cnt]; omega) (by simp [KInst.cnt]; omega)
    refine run_loop_at laws_markInstS.l0.eq_1 ?_
    simp (disch := omega) [if_pos, if_neg, wrap_i64, markText, markIntS, markStringS, markNodeS, markValueS, markCellS, markLinkS, markTypeS]
    refine run_env (ih (run_env hq ?_)) ?_
    · simp [KInst.marks, KInst.cnts, KInst.cnt] <;> omega
    · simp [KInst.mark, KInst.cnts, KInst.cnt] <;> omega
theorem markInstS (xs : List KInst) (k : Int) (h0 : 0 ≤ k) (h1 : k + (KInst.cnts xs : Int) ≤ 1000000000000000) : A 32 [.leaf (KInst.sl true (xs)), .leaf (.int .i64 k)] = some ([.leaf (.int .i64 (k + (KInst.cnts xs : Int)))], [.leaf (KInst.sl true (KInst.marks k xs)), .gone]) := by
  refine run_laws_markInstS ?_
  simp [laws_markInstS.b]
  refine markInstS_loop _ _ xs [] k 0 (by simp) h0 h1 (by simp; omega) ?_
  simp
theorem heldInstS_loop (ks : List Fr) (Q : VX → Env → Prop) : ∀ (rest done : List KInst) (k i : Int), i = done.length → 0 ≤ k → k + (KInst.cnts rest : Int) ≤ 1000000000000000 → (done.length : Int) + (KInst.cnts rest : Int) ≤ 1000000000000000 →
    Run G A (.exit 0) [(0, .v (.leaf (KInst.sl false (done ++ KInst.marks k rest)))), (1, .v (.leaf (.int .i64 (k + (KInst.cnts rest : Int))))), (5, .v (.leaf (.int .i64 (done.length + rest.length)))), (9, .v (.leaf (.bool false)))] ks Q →
    Run G A (.loop laws_heldInstS.l0) [(0, .v (.leaf (KInst.sl false (done ++ KInst.marks k rest)))), (1, .v (.leaf (.int .i64 k))), (5, .v (.leaf (.int .i64 i)))] ks Q := by
  intro rest
  induction rest with
  | nil =>
    intro done k i hi h0 h1 h2 hq
    subst hi
    refine run_loop_at laws_heldInstS.l0.eq_1 ?_
    simp [KInst.marks, KInst.cnts, KInst.cnt] at hq ⊢
    exact hq
  | cons x rest ih =>
    intro done k i hi h0 h1 h2 hq
    subst hi
    simp only [KInst.cnts, KInst.cnt, List.length_cons] at h1 h2
    have := KInst.len_le rest
    have ih := ih (done ++ [KInst.mark k x]) (k + (KInst.cnt x : Int)) (done.length + 1) (by simp) (by simp only [KInst.cnt]; omega) (by simp only [KInst.cnt]; omega) (by simp [KInst.cnt]; omega)
    refine run_loop_at laws_heldInstS.l0.eq_1 ?_
    simp only [KInst.marks]
    simp (disch := omega) [if_pos, if_neg, wrap_i64, markText, heldIntS, heldStringS, heldNodeS, heldValueS, heldCellS, heldLinkS, heldTypeS, KInst.mark]
    refine run_env (ih (run_env hq ?_)) ?_
    · simp [KInst.marks, KInst.cnts, KInst.cnt] <;> omega
    · simp [KInst.mark, KInst.cnts, KInst.cnt] <;> omega
theorem heldInstS (xs : List KInst) (k : Int) (h0 : 0 ≤ k) (h1 : k + (KInst.cnts xs : Int) ≤ 1000000000000000) : A 35 [.leaf (KInst.sl false (KInst.marks k xs)), .leaf (.int .i64 k)] = some ([.leaf (.int .i64 (k + (KInst.cnts xs : Int)))], [.gone, .gone]) := by
  refine run_laws_heldInstS ?_
  simp [laws_heldInstS.b]
  refine heldInstS_loop _ _ xs [] k 0 (by simp) h0 h1 (by simp; omega) ?_
  simp
theorem eqUnit (x : KUnit) (h : (KNode.cnts x.prog.nodes : Int) ≤ 1000000000000000) : A 60 [.agg (KUnit.row false x), .agg (KUnit.row false x)] = some ([.leaf (.bool true)], [.gone, .gone]) := by
  refine run_laws_eqUnit ?_
  simp (disch := omega) [if_pos, if_neg, wrap_i64, laws_eqUnit.b, eqIntS, eqStringS, eqNode, eqNodeS, eqProg, eqValue, eqValueS, eqCell, eqCellS, eqLink, eqLinkS, eqType, eqTypeS, eqInst, eqInstS]
theorem eqUnitS_loop (ks : List Fr) (Q : VX → Env → Prop) : ∀ (rest done : List KUnit) (i : Int), i = done.length → (done.length : Int) + (KUnit.cnts rest : Int) ≤ 1000000000000000 →
    Run G A (.exit 0) [(0, .v (.leaf (KUnit.sl false (done ++ rest)))), (1, .v (.leaf (KUnit.sl false (done ++ rest)))), (5, .v (.leaf (.int .i64 (done.length + rest.length)))), (14, .v (.leaf (.bool false)))] ks Q →
    Run G A (.loop laws_eqUnitS.l0) [(0, .v (.leaf (KUnit.sl false (done ++ rest)))), (1, .v (.leaf (KUnit.sl false (done ++ rest)))), (5, .v (.leaf (.int .i64 i)))] ks Q := by
  intro rest
  induction rest with
  | nil =>
    intro done i hi h1 hq
    subst hi
    refine run_loop_at laws_eqUnitS.l0.eq_1 ?_
    simpa using hq
  | cons x rest ih =>
    intro done i hi h1 hq
    subst hi
    simp only [KUnit.cnts, KUnit.cnt, List.length_cons] at h1
    have := KUnit.len_le rest
    have ih := ih (done ++ [x]) (done.length + 1) (by simp) (by simp; omega)
    refine run_loop_at laws_eqUnitS.l0.eq_1 ?_
    simp (disch := omega) [if_pos, if_neg, wrap_i64, eqIntS, eqStringS, eqNode, eqNodeS, eqProg, eqValue, eqValueS, eqCell, eqCellS, eqLink, eqLinkS, eqType, eqTypeS, eqInst, eqInstS, eqUnit, get_mid]
    refine run_env (ih (run_env hq ?_)) ?_
    · simp <;> omega
    · simp
theorem eqUnitS (xs : List KUnit) (h : (KUnit.cnts xs : Int) ≤ 1000000000000000) : A 30 [.leaf (KUnit.sl false (xs)), .leaf (KUnit.sl false (xs))] = some ([.leaf (.bool true)], [.gone, .gone]) := by
  refine run_laws_eqUnitS ?_
  have := KUnit.len_le xs
  simp [laws_eqUnitS.b]
  refine eqUnitS_loop _ _ xs [] 0 (by simp) (by simp; omega) ?_
  simp
theorem markUnitS_loop (ks : List Fr) (Q : VX → Env → Prop) : ∀ (rest done : List KUnit) (k i : Int), i = done.length → 0 ≤ k → k + (KUnit.cnts rest : Int) ≤ 1000000000000000 → (done.length : Int) + (KUnit.cnts rest : Int) ≤ 1000000000000000 →
    Run G A (.exit 0) [(0, .v (.leaf (KUnit.sl true (done ++ KUnit.marks k rest)))), (1, .v (.leaf (.int .i64 (k + (KUnit.cnts rest : Int))))), (5, .v (.leaf (.int .i64 (done.length + rest.length)))), (9, .v (.leaf (.bool false)))] ks Q →
    Run G A (.loop laws_markUnitS.l0) [(0, .v (.leaf (KUnit.sl true (done ++ rest)))), (1, .v (.leaf (.int .i64 k))), (5, .v (.leaf (.int .i64 i)))] ks Q := by
  intro rest
  induction rest with
  | nil =>
    intro done k i hi h0 h1 h2 hq
    subst hi
    refine run_loop_at laws_markUnitS.l0.eq_1 ?_
    simpa [KUnit.marks, KUnit.cnts, KUnit.cnt] using hq
  | cons x rest ih =>
    intro done k i hi h0 h1 h2 hq
    subst hi
    simp only [KUnit.cnts, KUnit.cnt, List.length_cons] at h1 h2
    have := KUnit.len_le rest
    have ih := ih (done ++ [KUnit.mark k x]) (k + (KUnit.cnt x : Int)) (done.length + 1) (by simp) (by simp only [KUnit.cnt]; omega) (by simp only [KUnit.cnt]; omega) (by simp [KUnit.cnt]; omega)
    refine run_loop_at laws_markUnitS.l0.eq_1 ?_
    simp (disch := omega) [if_pos, if_neg, wrap_i64, markText, markIntS, markStringS, markNodeS, markValueS, markCellS, markLinkS, markTypeS, markInstS]
    refine run_env (ih (run_env hq ?_)) ?_
    · simp [KUnit.marks, KUnit.cnts, KUnit.cnt] <;> omega
    · simp [KUnit.mark, KUnit.cnts, KUnit.cnt] <;> omega
theorem markUnitS (xs : List KUnit) (k : Int) (h0 : 0 ≤ k) (h1 : k + (KUnit.cnts xs : Int) ≤ 1000000000000000) : A 33 [.leaf (KUnit.sl true (xs)), .leaf (.int .i64 k)] = some ([.leaf (.int .i64 (k + (KUnit.cnts xs : Int)))], [.leaf (KUnit.sl true (KUnit.marks k xs)), .gone]) := by
  refine run_laws_markUnitS ?_
  simp [laws_markUnitS.b]
  refine markUnitS_loop _ _ xs [] k 0 (by simp) h0 h1 (by simp; omega) ?_
  simp
theorem heldUnitS_loop (ks : List Fr) (Q : VX → Env → Prop) : ∀ (rest done : List KUnit) (k i : Int), i = done.length → 0 ≤ k → k + (KUnit.cnts rest : Int) ≤ 1000000000000000 → (done.length : Int) + (KUnit.cnts rest : Int) ≤ 1000000000000000 →
    Run G A (.exit 0) [(0, .v (.leaf (KUnit.sl false (done ++ KUnit.marks k rest)))), (1, .v (.leaf (.int .i64 (k + (KUnit.cnts rest : Int))))), (5, .v (.leaf (.int .i64 (done.length + rest.length)))), (9, .v (.leaf (.bool false)))] ks Q →
    Run G A (.loop laws_heldUnitS.l0) [(0, .v (.leaf (KUnit.sl false (done ++ KUnit.marks k rest)))), (1, .v (.leaf (.int .i64 k))), (5, .v (.leaf (.int .i64 i)))] ks Q := by
  intro rest
  induction rest with
  | nil =>
    intro done k i hi h0 h1 h2 hq
    subst hi
    refine run_loop_at laws_heldUnitS.l0.eq_1 ?_
    simp [KUnit.marks, KUnit.cnts, KUnit.cnt] at hq ⊢
    exact hq
  | cons x rest ih =>
    intro done k i hi h0 h1 h2 hq
    subst hi
    simp only [KUnit.cnts, KUnit.cnt, List.length_cons] at h1 h2
    have := KUnit.len_le rest
    have ih := ih (done ++ [KUnit.mark k x]) (k + (KUnit.cnt x : Int)) (done.length + 1) (by simp) (by simp only [KUnit.cnt]; omega) (by simp only [KUnit.cnt]; omega) (by simp [KUnit.cnt]; omega)
    refine run_loop_at laws_heldUnitS.l0.eq_1 ?_
    simp only [KUnit.marks]
    simp (disch := omega) [if_pos, if_neg, wrap_i64, markText, heldIntS, heldStringS, heldNodeS, heldValueS, heldCellS, heldLinkS, heldTypeS, heldInstS, KUnit.mark]
    refine run_env (ih (run_env hq ?_)) ?_
    · simp [KUnit.marks, KUnit.cnts, KUnit.cnt] <;> omega
    · simp [KUnit.mark, KUnit.cnts, KUnit.cnt] <;> omega
theorem heldUnitS (xs : List KUnit) (k : Int) (h0 : 0 ≤ k) (h1 : k + (KUnit.cnts xs : Int) ≤ 1000000000000000) : A 36 [.leaf (KUnit.sl false (KUnit.marks k xs)), .leaf (.int .i64 k)] = some ([.leaf (.int .i64 (k + (KUnit.cnts xs : Int)))], [.gone, .gone]) := by
  refine run_laws_heldUnitS ?_
  simp [laws_heldUnitS.b]
  refine heldUnitS_loop _ _ xs [] k 0 (by simp) h0 h1 (by simp; omega) ?_
  simp
theorem eqSys (x : KSys) (h : (KCell.cnts x.heap : Int) ≤ 1000000000000000 ∧ (KInst.cnts x.insts : Int) ≤ 1000000000000000 ∧ (KUnit.cnts x.units : Int) ≤ 1000000000000000 ∧ (x.out.length : Int) ≤ 1000000000000000) : A 9 [.agg (KSys.row false x), .agg (KSys.row false x)] = some ([.leaf (.bool true)], [.gone, .gone]) := by
  refine run_laws_eqSys ?_
  simp (disch := omega) [if_pos, if_neg, wrap_i64, laws_eqSys.b, eqIntS, eqStringS, eqNode, eqNodeS, eqProg, eqValue, eqValueS, eqCell, eqCellS, eqLink, eqLinkS, eqType, eqTypeS, eqInst, eqInstS, eqUnit, eqUnitS]
theorem markSys (x : KSys) (k : Int) (h0 : 0 ≤ k) (h1 : k + (KSys.top x : Int) ≤ 1000000000000000) : A 10 [.agg (KSys.row true x), .leaf (.int .i64 k)] = some ([.leaf (.int .i64 (k + (KSys.top x : Int)))], [.agg (KSys.row true (KSys.markTop k x)), .gone]) := by
  simp only [KSys.top] at h1
  refine run_laws_markSys ?_
  simp (disch := omega) [if_pos, if_neg, wrap_i64, laws_markSys.b, markText, markIntS, markStringS, markNodeS, markValueS, markCellS, markLinkS, markTypeS, markInstS, markUnitS]
  simp [KSys.top, KSys.markTop] <;> omega
theorem heldSys (x : KSys) (k : Int) (h0 : 0 ≤ k) (h1 : k + (KSys.top x : Int) ≤ 1000000000000000) : A 11 [.agg (KSys.row false (KSys.markTop k x)), .leaf (.int .i64 k)] = some ([.leaf (.int .i64 (k + (KSys.top x : Int)))], [.gone, .gone]) := by
  simp only [KSys.top] at h1
  refine run_laws_heldSys ?_
  simp (disch := omega) [if_pos, if_neg, wrap_i64, laws_heldSys.b, markText, heldIntS, heldStringS, heldNodeS, heldValueS, heldCellS, heldLinkS, heldTypeS, heldInstS, heldUnitS, KSys.markTop]
  simp [KSys.top] <;> omega
theorem eqBind (x : KBind) : A 129 [.agg (KBind.row false x), .agg (KBind.row false x)] = some ([.leaf (.bool true)], [.gone, .gone]) := by
  refine run_laws_eqBind ?_
  simp (disch := omega) [if_pos, if_neg, wrap_i64, laws_eqBind.b, eqIntS, eqStringS, eqNode, eqNodeS, eqProg, eqValue, eqValueS, eqCell, eqCellS, eqLink, eqLinkS, eqType, eqTypeS, eqInst, eqInstS, eqUnit, eqUnitS, eqSys]
theorem eqBindS_loop (ks : List Fr) (Q : VX → Env → Prop) : ∀ (rest done : List KBind) (i : Int), i = done.length → (done.length : Int) + (KBind.cnts rest : Int) ≤ 1000000000000000 →
    Run G A (.exit 0) [(0, .v (.leaf (KBind.sl false (done ++ rest)))), (1, .v (.leaf (KBind.sl false (done ++ rest)))), (5, .v (.leaf (.int .i64 (done.length + rest.length)))), (14, .v (.leaf (.bool false)))] ks Q →
    Run G A (.loop laws_eqBindS.l0) [(0, .v (.leaf (KBind.sl false (done ++ rest)))), (1, .v (.leaf (KBind.sl false (done ++ rest)))), (5, .v (.leaf (.int .i64 i)))] ks Q := by
  intro rest
  induction rest with
  | nil =>
    intro done i hi h1 hq
    subst hi
    refine run_loop_at laws_eqBindS.l0.eq_1 ?_
    simpa using hq
  | cons x rest ih =>
    intro done i hi h1 hq
    subst hi
    simp only [KBind.cnts, KBind.cnt, List.length_cons] at h1
    have := KBind.len_le rest
    have ih := ih (done ++ [x]) (done.length + 1) (by simp) (by simp; omega)
    refine run_loop_at laws_eqBindS.l0.eq_1 ?_
    simp (disch := omega) [if_pos, if_neg, wrap_i64, eqIntS, eqStringS, eqNode, eqNodeS, eqProg, eqValue, eqValueS, eqCell, eqCellS, eqLink, eqLinkS, eqType, eqTypeS, eqInst, eqInstS, eqUnit, eqUnitS, eqSys, eqBind, get_mid]
    refine run_env (ih (run_env hq ?_)) ?_
    · simp <;> omega
    · simp
theorem eqBindS (xs : List KBind) (h : (KBind.cnts xs : Int) ≤ 1000000000000000) : A 123 [.leaf (KBind.sl false (xs)), .leaf (KBind.sl false (xs))] = some ([.leaf (.bool true)], [.gone, .gone]) := by
  refine run_laws_eqBindS ?_
  have := KBind.len_le xs
  simp [laws_eqBindS.b]
  refine eqBindS_loop _ _ xs [] 0 (by simp) (by simp; omega) ?_
  simp
theorem markBindS_loop (ks : List Fr) (Q : VX → Env → Prop) : ∀ (rest done : List KBind) (k i : Int), i = done.length → 0 ≤ k → k + (KBind.cnts rest : Int) ≤ 1000000000000000 → (done.length : Int) + (KBind.cnts rest : Int) ≤ 1000000000000000 →
    Run G A (.exit 0) [(0, .v (.leaf (KBind.sl true (done ++ KBind.marks k rest)))), (1, .v (.leaf (.int .i64 (k + (KBind.cnts rest : Int))))), (5, .v (.leaf (.int .i64 (done.length + rest.length)))), (9, .v (.leaf (.bool false)))] ks Q →
    Run G A (.loop laws_markBindS.l0) [(0, .v (.leaf (KBind.sl true (done ++ rest)))), (1, .v (.leaf (.int .i64 k))), (5, .v (.leaf (.int .i64 i)))] ks Q := by
  intro rest
  induction rest with
  | nil =>
    intro done k i hi h0 h1 h2 hq
    subst hi
    refine run_loop_at laws_markBindS.l0.eq_1 ?_
    simpa [KBind.marks, KBind.cnts, KBind.cnt] using hq
  | cons x rest ih =>
    intro done k i hi h0 h1 h2 hq
    subst hi
    simp only [KBind.cnts, KBind.cnt, List.length_cons] at h1 h2
    have := KBind.len_le rest
    have ih := ih (done ++ [KBind.mark k x]) (k + (KBind.cnt x : Int)) (done.length + 1) (by simp) (by simp only [KBind.cnt]; omega) (by simp only [KBind.cnt]; omega) (by simp [KBind.cnt]; omega)
    refine run_loop_at laws_markBindS.l0.eq_1 ?_
    simp (disch := omega) [if_pos, if_neg, wrap_i64, markText, markIntS, markStringS, markNodeS, markValueS, markCellS, markLinkS, markTypeS, markInstS, markUnitS, markSys]
    refine run_env (ih (run_env hq ?_)) ?_
    · simp [KBind.marks, KBind.cnts, KBind.cnt] <;> omega
    · simp [KBind.mark, KBind.cnts, KBind.cnt] <;> omega
theorem markBindS (xs : List KBind) (k : Int) (h0 : 0 ≤ k) (h1 : k + (KBind.cnts xs : Int) ≤ 1000000000000000) : A 84 [.leaf (KBind.sl true (xs)), .leaf (.int .i64 k)] = some ([.leaf (.int .i64 (k + (KBind.cnts xs : Int)))], [.leaf (KBind.sl true (KBind.marks k xs)), .gone]) := by
  refine run_laws_markBindS ?_
  simp [laws_markBindS.b]
  refine markBindS_loop _ _ xs [] k 0 (by simp) h0 h1 (by simp; omega) ?_
  simp
theorem heldBindS_loop (ks : List Fr) (Q : VX → Env → Prop) : ∀ (rest done : List KBind) (k i : Int), i = done.length → 0 ≤ k → k + (KBind.cnts rest : Int) ≤ 1000000000000000 → (done.length : Int) + (KBind.cnts rest : Int) ≤ 1000000000000000 →
    Run G A (.exit 0) [(0, .v (.leaf (KBind.sl false (done ++ KBind.marks k rest)))), (1, .v (.leaf (.int .i64 (k + (KBind.cnts rest : Int))))), (5, .v (.leaf (.int .i64 (done.length + rest.length)))), (9, .v (.leaf (.bool false)))] ks Q →
    Run G A (.loop laws_heldBindS.l0) [(0, .v (.leaf (KBind.sl false (done ++ KBind.marks k rest)))), (1, .v (.leaf (.int .i64 k))), (5, .v (.leaf (.int .i64 i)))] ks Q := by
  intro rest
  induction rest with
  | nil =>
    intro done k i hi h0 h1 h2 hq
    subst hi
    refine run_loop_at laws_heldBindS.l0.eq_1 ?_
    simp [KBind.marks, KBind.cnts, KBind.cnt] at hq ⊢
    exact hq
  | cons x rest ih =>
    intro done k i hi h0 h1 h2 hq
    subst hi
    simp only [KBind.cnts, KBind.cnt, List.length_cons] at h1 h2
    have := KBind.len_le rest
    have ih := ih (done ++ [KBind.mark k x]) (k + (KBind.cnt x : Int)) (done.length + 1) (by simp) (by simp only [KBind.cnt]; omega) (by simp only [KBind.cnt]; omega) (by simp [KBind.cnt]; omega)
    refine run_loop_at laws_heldBindS.l0.eq_1 ?_
    simp only [KBind.marks]
    simp (disch := omega) [if_pos, if_neg, wrap_i64, markText, heldIntS, heldStringS, heldNodeS, heldValueS, heldCellS, heldLinkS, heldTypeS, heldInstS, heldUnitS, heldSys, KBind.mark]
    refine run_env (ih (run_env hq ?_)) ?_
    · simp [KBind.marks, KBind.cnts, KBind.cnt] <;> omega
    · simp [KBind.mark, KBind.cnts, KBind.cnt] <;> omega
theorem heldBindS (xs : List KBind) (k : Int) (h0 : 0 ≤ k) (h1 : k + (KBind.cnts xs : Int) ≤ 1000000000000000) : A 87 [.leaf (KBind.sl false (KBind.marks k xs)), .leaf (.int .i64 k)] = some ([.leaf (.int .i64 (k + (KBind.cnts xs : Int)))], [.gone, .gone]) := by
  refine run_laws_heldBindS ?_
  simp [laws_heldBindS.b]
  refine heldBindS_loop _ _ xs [] k 0 (by simp) h0 h1 (by simp; omega) ?_
  simp
theorem eqFrame (x : KFrame) (h : (KValue.cnts x.vals : Int) ≤ 1000000000000000 ∧ (KBind.cnts x.env : Int) ≤ 1000000000000000) : A 130 [.agg (KFrame.row false x), .agg (KFrame.row false x)] = some ([.leaf (.bool true)], [.gone, .gone]) := by
  refine run_laws_eqFrame ?_
  simp (disch := omega) [if_pos, if_neg, wrap_i64, laws_eqFrame.b, eqIntS, eqStringS, eqNode, eqNodeS, eqProg, eqValue, eqValueS, eqCell, eqCellS, eqLink, eqLinkS, eqType, eqTypeS, eqInst, eqInstS, eqUnit, eqUnitS, eqSys, eqBind, eqBindS]
theorem eqFrameS_loop (ks : List Fr) (Q : VX → Env → Prop) : ∀ (rest done : List KFrame) (i : Int), i = done.length → (done.length : Int) + (KFrame.cnts rest : Int) ≤ 1000000000000000 →
    Run G A (.exit 0) [(0, .v (.leaf (KFrame.sl false (done ++ rest)))), (1, .v (.leaf (KFrame.sl false (done ++ rest)))), (5, .v (.leaf (.int .i64 (done.length + rest.length)))), (14, .v (.leaf (.bool false)))] ks Q →
    Run G A (.loop laws_eqFrameS.l0) [(0, .v (.leaf (KFrame.sl false (done ++ rest)))), (1, .v (.leaf (KFrame.sl false (done ++ rest)))), (5, .v (.leaf (.int .i64 i)))] ks Q := by
  intro rest
  induction rest with
  | nil =>
    intro done i hi h1 hq
    subst hi
    refine run_loop_at laws_eqFrameS.l0.eq_1 ?_
    simpa using hq
  | cons x rest ih =>
    intro done i hi h1 hq
    subst hi
    simp only [KFrame.cnts, KFrame.cnt, List.length_cons] at h1
    have := KFrame.len_le rest
    have ih := ih (done ++ [x]) (done.length + 1) (by simp) (by simp; omega)
    refine run_loop_at laws_eqFrameS.l0.eq_1 ?_
    simp (disch := omega) [if_pos, if_neg, wrap_i64, eqIntS, eqStringS, eqNode, eqNodeS, eqProg, eqValue, eqValueS, eqCell, eqCellS, eqLink, eqLinkS, eqType, eqTypeS, eqInst, eqInstS, eqUnit, eqUnitS, eqSys, eqBind, eqBindS, eqFrame, get_mid]
    refine run_env (ih (run_env hq ?_)) ?_
    · simp <;> omega
    · simp
theorem eqFrameS (xs : List KFrame) (h : (KFrame.cnts xs : Int) ≤ 1000000000000000) : A 124 [.leaf (KFrame.sl false (xs)), .leaf (KFrame.sl false (xs))] = some ([.leaf (.bool true)], [.gone, .gone]) := by
  refine run_laws_eqFrameS ?_
  have := KFrame.len_le xs
  simp [laws_eqFrameS.b]
  refine eqFrameS_loop _ _ xs [] 0 (by simp) (by simp; omega) ?_
  simp
theorem markFrameS_loop (ks : List Fr) (Q : VX → Env → Prop) : ∀ (rest done : List KFrame) (k i : Int), i = done.length → 0 ≤ k → k + (KFrame.cnts rest : Int) ≤ 1000000000000000 → (done.length : Int) + (KFrame.cnts rest : Int) ≤ 1000000000000000 →
    Run G A (.exit 0) [(0, .v (.leaf (KFrame.sl true (done ++ KFrame.marks k rest)))), (1, .v (.leaf (.int .i64 (k + (KFrame.cnts rest : Int))))), (5, .v (.leaf (.int .i64 (done.length + rest.length)))), (9, .v (.leaf (.bool false)))] ks Q →
    Run G A (.loop laws_markFrameS.l0) [(0, .v (.leaf (KFrame.sl true (done ++ rest)))), (1, .v (.leaf (.int .i64 k))), (5, .v (.leaf (.int .i64 i)))] ks Q := by
  intro rest
  induction rest with
  | nil =>
    intro done k i hi h0 h1 h2 hq
    subst hi
    refine run_loop_at laws_markFrameS.l0.eq_1 ?_
    simpa [KFrame.marks, KFrame.cnts, KFrame.cnt] using hq
  | cons x rest ih =>
    intro done k i hi h0 h1 h2 hq
    subst hi
    simp only [KFrame.cnts, KFrame.cnt, List.length_cons] at h1 h2
    have := KFrame.len_le rest
    have ih := ih (done ++ [KFrame.mark k x]) (k + (KFrame.cnt x : Int)) (done.length + 1) (by simp) (by simp only [KFrame.cnt]; omega) (by simp only [KFrame.cnt]; omega) (by simp [KFrame.cnt]; omega)
    refine run_loop_at laws_markFrameS.l0.eq_1 ?_
    simp (disch := omega) [if_pos, if_neg, wrap_i64, markText, markIntS, markStringS, markNodeS, markValueS, markCellS, markLinkS, markTypeS, markInstS, markUnitS, markSys, markBindS]
    refine run_env (ih (run_env hq ?_)) ?_
    · simp [KFrame.marks, KFrame.cnts, KFrame.cnt] <;> omega
    · simp [KFrame.mark, KFrame.cnts, KFrame.cnt] <;> omega
theorem markFrameS (xs : List KFrame) (k : Int) (h0 : 0 ≤ k) (h1 : k + (KFrame.cnts xs : Int) ≤ 1000000000000000) : A 85 [.leaf (KFrame.sl true (xs)), .leaf (.int .i64 k)] = some ([.leaf (.int .i64 (k + (KFrame.cnts xs : Int)))], [.leaf (KFrame.sl true (KFrame.marks k xs)), .gone]) := by
  refine run_laws_markFrameS ?_
  simp [laws_markFrameS.b]
  refine markFrameS_loop _ _ xs [] k 0 (by simp) h0 h1 (by simp; omega) ?_
  simp
theorem heldFrameS_loop (ks : List Fr) (Q : VX → Env → Prop) : ∀ (rest done : List KFrame) (k i : Int), i = done.length → 0 ≤ k → k + (KFrame.cnts rest : Int) ≤ 1000000000000000 → (done.length : Int) + (KFrame.cnts rest : Int) ≤ 1000000000000000 →
    Run G A (.exit 0) [(0, .v (.leaf (KFrame.sl false (done ++ KFrame.marks k rest)))), (1, .v (.leaf (.int .i64 (k + (KFrame.cnts rest : Int))))), (5, .v (.leaf (.int .i64 (done.length + rest.length)))), (9, .v (.leaf (.bool false)))] ks Q →
    Run G A (.loop laws_heldFrameS.l0) [(0, .v (.leaf (KFrame.sl false (done ++ KFrame.marks k rest)))), (1, .v (.leaf (.int .i64 k))), (5, .v (.leaf (.int .i64 i)))] ks Q := by
  intro rest
  induction rest with
  | nil =>
    intro done k i hi h0 h1 h2 hq
    subst hi
    refine run_loop_at laws_heldFrameS.l0.eq_1 ?_
    simp [KFrame.marks, KFrame.cnts, KFrame.cnt] at hq ⊢
    exact hq
  | cons x rest ih =>
    intro done k i hi h0 h1 h2 hq
    subst hi
    simp only [KFrame.cnts, KFrame.cnt, List.length_cons] at h1 h2
    have := KFrame.len_le rest
    have ih := ih (done ++ [KFrame.mark k x]) (k + (KFrame.cnt x : Int)) (done.length + 1) (by simp) (by simp only [KFrame.cnt]; omega) (by simp only [KFrame.cnt]; omega) (by simp [KFrame.cnt]; omega)
    refine run_loop_at laws_heldFrameS.l0.eq_1 ?_
    simp only [KFrame.marks]
    simp (disch := omega) [if_pos, if_neg, wrap_i64, markText, heldIntS, heldStringS, heldNodeS, heldValueS, heldCellS, heldLinkS, heldTypeS, heldInstS, heldUnitS, heldSys, heldBindS, KFrame.mark]
    refine run_env (ih (run_env hq ?_)) ?_
    · simp [KFrame.marks, KFrame.cnts, KFrame.cnt] <;> omega
    · simp [KFrame.mark, KFrame.cnts, KFrame.cnt] <;> omega
theorem heldFrameS (xs : List KFrame) (k : Int) (h0 : 0 ≤ k) (h1 : k + (KFrame.cnts xs : Int) ≤ 1000000000000000) : A 88 [.leaf (KFrame.sl false (KFrame.marks k xs)), .leaf (.int .i64 k)] = some ([.leaf (.int .i64 (k + (KFrame.cnts xs : Int)))], [.gone, .gone]) := by
  refine run_laws_heldFrameS ?_
  simp [laws_heldFrameS.b]
  refine heldFrameS_loop _ _ xs [] k 0 (by simp) h0 h1 (by simp; omega) ?_
  simp
theorem eqMachine (x : KMachine) (h : (KBind.cnts x.env : Int) ≤ 1000000000000000 ∧ (KFrame.cnts x.stack : Int) ≤ 1000000000000000) : A 111 [.agg (KMachine.row false x), .agg (KMachine.row false x)] = some ([.leaf (.bool true)], [.gone, .gone]) := by
  refine run_laws_eqMachine ?_
  simp (disch := omega) [if_pos, if_neg, wrap_i64, laws_eqMachine.b, eqIntS, eqStringS, eqNode, eqNodeS, eqProg, eqValue, eqValueS, eqCell, eqCellS, eqLink, eqLinkS, eqType, eqTypeS, eqInst, eqInstS, eqUnit, eqUnitS, eqSys, eqBind, eqBindS, eqFrame, eqFrameS]
theorem eqDef (x : KDef) (h : (KNode.cnts x.prog.nodes : Int) ≤ 1000000000000000) : A 110 [.agg (KDef.row false x), .agg (KDef.row false x)] = some ([.leaf (.bool true)], [.gone, .gone]) := by
  refine run_laws_eqDef ?_
  simp (disch := omega) [if_pos, if_neg, wrap_i64, laws_eqDef.b, eqIntS, eqStringS, eqNode, eqNodeS, eqProg, eqValue, eqValueS, eqCell, eqCellS, eqLink, eqLinkS, eqType, eqTypeS, eqInst, eqInstS, eqUnit, eqUnitS, eqSys, eqBind, eqBindS, eqFrame, eqFrameS, eqMachine]
theorem eqDefS_loop (ks : List Fr) (Q : VX → Env → Prop) : ∀ (rest done : List KDef) (i : Int), i = done.length → (done.length : Int) + (KDef.cnts rest : Int) ≤ 1000000000000000 →
    Run G A (.exit 0) [(0, .v (.leaf (KDef.sl false (done ++ rest)))), (1, .v (.leaf (KDef.sl false (done ++ rest)))), (5, .v (.leaf (.int .i64 (done.length + rest.length)))), (14, .v (.leaf (.bool false)))] ks Q →
    Run G A (.loop laws_eqDefS.l0) [(0, .v (.leaf (KDef.sl false (done ++ rest)))), (1, .v (.leaf (KDef.sl false (done ++ rest)))), (5, .v (.leaf (.int .i64 i)))] ks Q := by
  intro rest
  induction rest with
  | nil =>
    intro done i hi h1 hq
    subst hi
    refine run_loop_at laws_eqDefS.l0.eq_1 ?_
    simpa using hq
  | cons x rest ih =>
    intro done i hi h1 hq
    subst hi
    simp only [KDef.cnts, KDef.cnt, List.length_cons] at h1
    have := KDef.len_le rest
    have ih := ih (done ++ [x]) (done.length + 1) (by simp) (by simp; omega)
    refine run_loop_at laws_eqDefS.l0.eq_1 ?_
    simp (disch := omega) [if_pos, if_neg, wrap_i64, eqIntS, eqStringS, eqNode, eqNodeS, eqProg, eqValue, eqValueS, eqCell, eqCellS, eqLink, eqLinkS, eqType, eqTypeS, eqInst, eqInstS, eqUnit, eqUnitS, eqSys, eqBind, eqBindS, eqFrame, eqFrameS, eqMachine, eqDef, get_mid]
    refine run_env (ih (run_env hq ?_)) ?_
    · simp <;> omega
    · simp
theorem eqDefS (xs : List KDef) (h : (KDef.cnts xs : Int) ≤ 1000000000000000) : A 80 [.leaf (KDef.sl false (xs)), .leaf (KDef.sl false (xs))] = some ([.leaf (.bool true)], [.gone, .gone]) := by
  refine run_laws_eqDefS ?_
  have := KDef.len_le xs
  simp [laws_eqDefS.b]
  refine eqDefS_loop _ _ xs [] 0 (by simp) (by simp; omega) ?_
  simp
theorem markDefS_loop (ks : List Fr) (Q : VX → Env → Prop) : ∀ (rest done : List KDef) (k i : Int), i = done.length → 0 ≤ k → k + (KDef.cnts rest : Int) ≤ 1000000000000000 → (done.length : Int) + (KDef.cnts rest : Int) ≤ 1000000000000000 →
    Run G A (.exit 0) [(0, .v (.leaf (KDef.sl true (done ++ KDef.marks k rest)))), (1, .v (.leaf (.int .i64 (k + (KDef.cnts rest : Int))))), (5, .v (.leaf (.int .i64 (done.length + rest.length)))), (9, .v (.leaf (.bool false)))] ks Q →
    Run G A (.loop laws_markDefS.l0) [(0, .v (.leaf (KDef.sl true (done ++ rest)))), (1, .v (.leaf (.int .i64 k))), (5, .v (.leaf (.int .i64 i)))] ks Q := by
  intro rest
  induction rest with
  | nil =>
    intro done k i hi h0 h1 h2 hq
    subst hi
    refine run_loop_at laws_markDefS.l0.eq_1 ?_
    simpa [KDef.marks, KDef.cnts, KDef.cnt] using hq
  | cons x rest ih =>
    intro done k i hi h0 h1 h2 hq
    subst hi
    simp only [KDef.cnts, KDef.cnt, List.length_cons] at h1 h2
    have := KDef.len_le rest
    have ih := ih (done ++ [KDef.mark k x]) (k + (KDef.cnt x : Int)) (done.length + 1) (by simp) (by simp only [KDef.cnt]; omega) (by simp only [KDef.cnt]; omega) (by simp [KDef.cnt]; omega)
    refine run_loop_at laws_markDefS.l0.eq_1 ?_
    simp (disch := omega) [if_pos, if_neg, wrap_i64, markText, markIntS, markStringS, markNodeS, markValueS, markCellS, markLinkS, markTypeS, markInstS, markUnitS, markSys, markBindS, markFrameS]
    refine run_env (ih (run_env hq ?_)) ?_
    · simp [KDef.marks, KDef.cnts, KDef.cnt] <;> omega
    · simp [KDef.mark, KDef.cnts, KDef.cnt] <;> omega
theorem markDefS (xs : List KDef) (k : Int) (h0 : 0 ≤ k) (h1 : k + (KDef.cnts xs : Int) ≤ 1000000000000000) : A 50 [.leaf (KDef.sl true (xs)), .leaf (.int .i64 k)] = some ([.leaf (.int .i64 (k + (KDef.cnts xs : Int)))], [.leaf (KDef.sl true (KDef.marks k xs)), .gone]) := by
  refine run_laws_markDefS ?_
  simp [laws_markDefS.b]
  refine markDefS_loop _ _ xs [] k 0 (by simp) h0 h1 (by simp; omega) ?_
  simp
theorem heldDefS_loop (ks : List Fr) (Q : VX → Env → Prop) : ∀ (rest done : List KDef) (k i : Int), i = done.length → 0 ≤ k → k + (KDef.cnts rest : Int) ≤ 1000000000000000 → (done.length : Int) + (KDef.cnts rest : Int) ≤ 1000000000000000 →
    Run G A (.exit 0) [(0, .v (.leaf (KDef.sl false (done ++ KDef.marks k rest)))), (1, .v (.leaf (.int .i64 (k + (KDef.cnts rest : Int))))), (5, .v (.leaf (.int .i64 (done.length + rest.length)))), (9, .v (.leaf (.bool false)))] ks Q →
    Run G A (.loop laws_heldDefS.l0) [(0, .v (.leaf (KDef.sl false (done ++ KDef.marks k rest)))), (1, .v (.leaf (.int .i64 k))), (5, .v (.leaf (.int .i64 i)))] ks Q := by
  intro rest
  induction rest with
  | nil =>
    intro done k i hi h0 h1 h2 hq
    subst hi
    refine run_loop_at laws_heldDefS.l0.eq_1 ?_
    simp [KDef.marks, KDef.cnts, KDef.cnt] at hq ⊢
    exact hq
  | cons x rest ih =>
    intro done k i hi h0 h1 h2 hq
    subst hi
    simp only [KDef.cnts, KDef.cnt, List.length_cons] at h1 h2
    have := KDef.len_le rest
    have ih := ih (done ++ [KDef.mark k x]) (k + (KDef.cnt x : Int)) (done.length + 1) (by simp) (by simp only [KDef.cnt]; omega) (by simp only [KDef.cnt]; omega) (by simp [KDef.cnt]; omega)
    refine run_loop_at laws_heldDefS.l0.eq_1 ?_
    simp only [KDef.marks]
    simp (disch := omega) [if_pos, if_neg, wrap_i64, markText, heldIntS, heldStringS, heldNodeS, heldValueS, heldCellS, heldLinkS, heldTypeS, heldInstS, heldUnitS, heldSys, heldBindS, heldFrameS, KDef.mark]
    refine run_env (ih (run_env hq ?_)) ?_
    · simp [KDef.marks, KDef.cnts, KDef.cnt] <;> omega
    · simp [KDef.mark, KDef.cnts, KDef.cnt] <;> omega
theorem heldDefS (xs : List KDef) (k : Int) (h0 : 0 ≤ k) (h1 : k + (KDef.cnts xs : Int) ≤ 1000000000000000) : A 86 [.leaf (KDef.sl false (KDef.marks k xs)), .leaf (.int .i64 k)] = some ([.leaf (.int .i64 (k + (KDef.cnts xs : Int)))], [.gone, .gone]) := by
  refine run_laws_heldDefS ?_
  simp [laws_heldDefS.b]
  refine heldDefS_loop _ _ xs [] k 0 (by simp) h0 h1 (by simp; omega) ?_
  simp
theorem eqSrc (x : KSrc) (h : (x.imports.length : Int) ≤ 1000000000000000 ∧ (x.exports.length : Int) ≤ 1000000000000000 ∧ (KType.cnts x.types : Int) ≤ 1000000000000000 ∧ (KDef.cnts x.defs : Int) ≤ 1000000000000000 ∧ (KDef.cnts x.convs : Int) ≤ 1000000000000000) : A 47 [.agg (KSrc.row false x), .agg (KSrc.row false x)] = some ([.leaf (.bool true)], [.gone, .gone]) := by
  refine run_laws_eqSrc ?_
  simp (disch := omega) [if_pos, if_neg, wrap_i64, laws_eqSrc.b, eqIntS, eqStringS, eqNode, eqNodeS, eqProg, eqValue, eqValueS, eqCell, eqCellS, eqLink, eqLinkS, eqType, eqTypeS, eqInst, eqInstS, eqUnit, eqUnitS, eqSys, eqBind, eqBindS, eqFrame, eqFrameS, eqMachine, eqDef, eqDefS]
theorem eqEnt (x : KEnt) (h : (x.src.imports.length : Int) ≤ 1000000000000000 ∧ (x.src.exports.length : Int) ≤ 1000000000000000 ∧ (KType.cnts x.src.types : Int) ≤ 1000000000000000 ∧ (KDef.cnts x.src.defs : Int) ≤ 1000000000000000 ∧ (KDef.cnts x.src.convs : Int) ≤ 1000000000000000) : A 82 [.agg (KEnt.row false x), .agg (KEnt.row false x)] = some ([.leaf (.bool true)], [.gone, .gone]) := by
  refine run_laws_eqEnt ?_
  simp (disch := omega) [if_pos, if_neg, wrap_i64, laws_eqEnt.b, eqIntS, eqStringS, eqNode, eqNodeS, eqProg, eqValue, eqValueS, eqCell, eqCellS, eqLink, eqLinkS, eqType, eqTypeS, eqInst, eqInstS, eqUnit, eqUnitS, eqSys, eqBind, eqBindS, eqFrame, eqFrameS, eqMachine, eqDef, eqDefS, eqSrc]
theorem eqEntS_loop (ks : List Fr) (Q : VX → Env → Prop) : ∀ (rest done : List KEnt) (i : Int), i = done.length → (done.length : Int) + (KEnt.cnts rest : Int) ≤ 1000000000000000 →
    Run G A (.exit 0) [(0, .v (.leaf (KEnt.sl false (done ++ rest)))), (1, .v (.leaf (KEnt.sl false (done ++ rest)))), (5, .v (.leaf (.int .i64 (done.length + rest.length)))), (14, .v (.leaf (.bool false)))] ks Q →
    Run G A (.loop laws_eqEntS.l0) [(0, .v (.leaf (KEnt.sl false (done ++ rest)))), (1, .v (.leaf (KEnt.sl false (done ++ rest)))), (5, .v (.leaf (.int .i64 i)))] ks Q := by
  intro rest
  induction rest with
  | nil =>
    intro done i hi h1 hq
    subst hi
    refine run_loop_at laws_eqEntS.l0.eq_1 ?_
    simpa using hq
  | cons x rest ih =>
    intro done i hi h1 hq
    subst hi
    simp only [KEnt.cnts, KEnt.cnt, List.length_cons] at h1
    have := KEnt.len_le rest
    have ih := ih (done ++ [x]) (done.length + 1) (by simp) (by simp; omega)
    refine run_loop_at laws_eqEntS.l0.eq_1 ?_
    simp (disch := omega) [if_pos, if_neg, wrap_i64, eqIntS, eqStringS, eqNode, eqNodeS, eqProg, eqValue, eqValueS, eqCell, eqCellS, eqLink, eqLinkS, eqType, eqTypeS, eqInst, eqInstS, eqUnit, eqUnitS, eqSys, eqBind, eqBindS, eqFrame, eqFrameS, eqMachine, eqDef, eqDefS, eqSrc, eqEnt, get_mid]
    refine run_env (ih (run_env hq ?_)) ?_
    · simp <;> omega
    · simp
theorem eqEntS (xs : List KEnt) (h : (KEnt.cnts xs : Int) ≤ 1000000000000000) : A 52 [.leaf (KEnt.sl false (xs)), .leaf (KEnt.sl false (xs))] = some ([.leaf (.bool true)], [.gone, .gone]) := by
  refine run_laws_eqEntS ?_
  have := KEnt.len_le xs
  simp [laws_eqEntS.b]
  refine eqEntS_loop _ _ xs [] 0 (by simp) (by simp; omega) ?_
  simp
theorem markEntS_loop (ks : List Fr) (Q : VX → Env → Prop) : ∀ (rest done : List KEnt) (k i : Int), i = done.length → 0 ≤ k → k + (KEnt.cnts rest : Int) ≤ 1000000000000000 → (done.length : Int) + (KEnt.cnts rest : Int) ≤ 1000000000000000 →
    Run G A (.exit 0) [(0, .v (.leaf (KEnt.sl true (done ++ KEnt.marks k rest)))), (1, .v (.leaf (.int .i64 (k + (KEnt.cnts rest : Int))))), (5, .v (.leaf (.int .i64 (done.length + rest.length)))), (9, .v (.leaf (.bool false)))] ks Q →
    Run G A (.loop laws_markEntS.l0) [(0, .v (.leaf (KEnt.sl true (done ++ rest)))), (1, .v (.leaf (.int .i64 k))), (5, .v (.leaf (.int .i64 i)))] ks Q := by
  intro rest
  induction rest with
  | nil =>
    intro done k i hi h0 h1 h2 hq
    subst hi
    refine run_loop_at laws_markEntS.l0.eq_1 ?_
    simpa [KEnt.marks, KEnt.cnts, KEnt.cnt] using hq
  | cons x rest ih =>
    intro done k i hi h0 h1 h2 hq
    subst hi
    simp only [KEnt.cnts, KEnt.cnt, List.length_cons] at h1 h2
    have := KEnt.len_le rest
    have ih := ih (done ++ [KEnt.mark k x]) (k + (KEnt.cnt x : Int)) (done.length + 1) (by simp) (by simp only [KEnt.cnt]; omega) (by simp only [KEnt.cnt]; omega) (by simp [KEnt.cnt]; omega)
    refine run_loop_at laws_markEntS.l0.eq_1 ?_
    simp (disch := omega) [if_pos, if_neg, wrap_i64, markText, markIntS, markStringS, markNodeS, markValueS, markCellS, markLinkS, markTypeS, markInstS, markUnitS, markSys, markBindS, markFrameS, markDefS]
    refine run_env (ih (run_env hq ?_)) ?_
    · simp [KEnt.marks, KEnt.cnts, KEnt.cnt] <;> omega
    · simp [KEnt.mark, KEnt.cnts, KEnt.cnt] <;> omega
theorem markEntS (xs : List KEnt) (k : Int) (h0 : 0 ≤ k) (h1 : k + (KEnt.cnts xs : Int) ≤ 1000000000000000) : A 54 [.leaf (KEnt.sl true (xs)), .leaf (.int .i64 k)] = some ([.leaf (.int .i64 (k + (KEnt.cnts xs : Int)))], [.leaf (KEnt.sl true (KEnt.marks k xs)), .gone]) := by
  refine run_laws_markEntS ?_
  simp [laws_markEntS.b]
  refine markEntS_loop _ _ xs [] k 0 (by simp) h0 h1 (by simp; omega) ?_
  simp
theorem heldEntS_loop (ks : List Fr) (Q : VX → Env → Prop) : ∀ (rest done : List KEnt) (k i : Int), i = done.length → 0 ≤ k → k + (KEnt.cnts rest : Int) ≤ 1000000000000000 → (done.length : Int) + (KEnt.cnts rest : Int) ≤ 1000000000000000 →
    Run G A (.exit 0) [(0, .v (.leaf (KEnt.sl false (done ++ KEnt.marks k rest)))), (1, .v (.leaf (.int .i64 (k + (KEnt.cnts rest : Int))))), (5, .v (.leaf (.int .i64 (done.length + rest.length)))), (9, .v (.leaf (.bool false)))] ks Q →
    Run G A (.loop laws_heldEntS.l0) [(0, .v (.leaf (KEnt.sl false (done ++ KEnt.marks k rest)))), (1, .v (.leaf (.int .i64 k))), (5, .v (.leaf (.int .i64 i)))] ks Q := by
  intro rest
  induction rest with
  | nil =>
    intro done k i hi h0 h1 h2 hq
    subst hi
    refine run_loop_at laws_heldEntS.l0.eq_1 ?_
    simp [KEnt.marks, KEnt.cnts, KEnt.cnt] at hq ⊢
    exact hq
  | cons x rest ih =>
    intro done k i hi h0 h1 h2 hq
    subst hi
    simp only [KEnt.cnts, KEnt.cnt, List.length_cons] at h1 h2
    have := KEnt.len_le rest
    have ih := ih (done ++ [KEnt.mark k x]) (k + (KEnt.cnt x : Int)) (done.length + 1) (by simp) (by simp only [KEnt.cnt]; omega) (by simp only [KEnt.cnt]; omega) (by simp [KEnt.cnt]; omega)
    refine run_loop_at laws_heldEntS.l0.eq_1 ?_
    simp only [KEnt.marks]
    simp (disch := omega) [if_pos, if_neg, wrap_i64, markText, heldIntS, heldStringS, heldNodeS, heldValueS, heldCellS, heldLinkS, heldTypeS, heldInstS, heldUnitS, heldSys, heldBindS, heldFrameS, heldDefS, KEnt.mark]
    refine run_env (ih (run_env hq ?_)) ?_
    · simp [KEnt.marks, KEnt.cnts, KEnt.cnt] <;> omega
    · simp [KEnt.mark, KEnt.cnts, KEnt.cnt] <;> omega
theorem heldEntS (xs : List KEnt) (k : Int) (h0 : 0 ≤ k) (h1 : k + (KEnt.cnts xs : Int) ≤ 1000000000000000) : A 56 [.leaf (KEnt.sl false (KEnt.marks k xs)), .leaf (.int .i64 k)] = some ([.leaf (.int .i64 (k + (KEnt.cnts xs : Int)))], [.gone, .gone]) := by
  refine run_laws_heldEntS ?_
  simp [laws_heldEntS.b]
  refine heldEntS_loop _ _ xs [] k 0 (by simp) h0 h1 (by simp; omega) ?_
  simp
theorem eqTask (x : KTask) (h : (KBind.cnts x.mac.env : Int) ≤ 1000000000000000 ∧ (KFrame.cnts x.mac.stack : Int) ≤ 1000000000000000) : A 83 [.agg (KTask.row false x), .agg (KTask.row false x)] = some ([.leaf (.bool true)], [.gone, .gone]) := by
  refine run_laws_eqTask ?_
  simp (disch := omega) [if_pos, if_neg, wrap_i64, laws_eqTask.b, eqIntS, eqStringS, eqNode, eqNodeS, eqProg, eqValue, eqValueS, eqCell, eqCellS, eqLink, eqLinkS, eqType, eqTypeS, eqInst, eqInstS, eqUnit, eqUnitS, eqSys, eqBind, eqBindS, eqFrame, eqFrameS, eqMachine, eqDef, eqDefS, eqSrc, eqEnt, eqEntS]
theorem eqTaskS_loop (ks : List Fr) (Q : VX → Env → Prop) : ∀ (rest done : List KTask) (i : Int), i = done.length → (done.length : Int) + (KTask.cnts rest : Int) ≤ 1000000000000000 →
    Run G A (.exit 0) [(0, .v (.leaf (KTask.sl false (done ++ rest)))), (1, .v (.leaf (KTask.sl false (done ++ rest)))), (5, .v (.leaf (.int .i64 (done.length + rest.length)))), (14, .v (.leaf (.bool false)))] ks Q →
    Run G A (.loop laws_eqTaskS.l0) [(0, .v (.leaf (KTask.sl false (done ++ rest)))), (1, .v (.leaf (KTask.sl false (done ++ rest)))), (5, .v (.leaf (.int .i64 i)))] ks Q := by
  intro rest
  induction rest with
  | nil =>
    intro done i hi h1 hq
    subst hi
    refine run_loop_at laws_eqTaskS.l0.eq_1 ?_
    simpa using hq
  | cons x rest ih =>
    intro done i hi h1 hq
    subst hi
    simp only [KTask.cnts, KTask.cnt, List.length_cons] at h1
    have := KTask.len_le rest
    have ih := ih (done ++ [x]) (done.length + 1) (by simp) (by simp; omega)
    refine run_loop_at laws_eqTaskS.l0.eq_1 ?_
    simp (disch := omega) [if_pos, if_neg, wrap_i64, eqIntS, eqStringS, eqNode, eqNodeS, eqProg, eqValue, eqValueS, eqCell, eqCellS, eqLink, eqLinkS, eqType, eqTypeS, eqInst, eqInstS, eqUnit, eqUnitS, eqSys, eqBind, eqBindS, eqFrame, eqFrameS, eqMachine, eqDef, eqDefS, eqSrc, eqEnt, eqEntS, eqTask, get_mid]
    refine run_env (ih (run_env hq ?_)) ?_
    · simp <;> omega
    · simp
theorem eqTaskS (xs : List KTask) (h : (KTask.cnts xs : Int) ≤ 1000000000000000) : A 53 [.leaf (KTask.sl false (xs)), .leaf (KTask.sl false (xs))] = some ([.leaf (.bool true)], [.gone, .gone]) := by
  refine run_laws_eqTaskS ?_
  have := KTask.len_le xs
  simp [laws_eqTaskS.b]
  refine eqTaskS_loop _ _ xs [] 0 (by simp) (by simp; omega) ?_
  simp
theorem markTaskS_loop (ks : List Fr) (Q : VX → Env → Prop) : ∀ (rest done : List KTask) (k i : Int), i = done.length → 0 ≤ k → k + (KTask.cnts rest : Int) ≤ 1000000000000000 → (done.length : Int) + (KTask.cnts rest : Int) ≤ 1000000000000000 →
    Run G A (.exit 0) [(0, .v (.leaf (KTask.sl true (done ++ KTask.marks k rest)))), (1, .v (.leaf (.int .i64 (k + (KTask.cnts rest : Int))))), (5, .v (.leaf (.int .i64 (done.length + rest.length)))), (9, .v (.leaf (.bool false)))] ks Q →
    Run G A (.loop laws_markTaskS.l0) [(0, .v (.leaf (KTask.sl true (done ++ rest)))), (1, .v (.leaf (.int .i64 k))), (5, .v (.leaf (.int .i64 i)))] ks Q := by
  intro rest
  induction rest with
  | nil =>
    intro done k i hi h0 h1 h2 hq
    subst hi
    refine run_loop_at laws_markTaskS.l0.eq_1 ?_
    simpa [KTask.marks, KTask.cnts, KTask.cnt] using hq
  | cons x rest ih =>
    intro done k i hi h0 h1 h2 hq
    subst hi
    simp only [KTask.cnts, KTask.cnt, List.length_cons] at h1 h2
    have := KTask.len_le rest
    have ih := ih (done ++ [KTask.mark k x]) (k + (KTask.cnt x : Int)) (done.length + 1) (by simp) (by simp only [KTask.cnt]; omega) (by simp only [KTask.cnt]; omega) (by simp [KTask.cnt]; omega)
    refine run_loop_at laws_markTaskS.l0.eq_1 ?_
    simp (disch := omega) [if_pos, if_neg, wrap_i64, markText, markIntS, markStringS, markNodeS, markValueS, markCellS, markLinkS, markTypeS, markInstS, markUnitS, markSys, markBindS, markFrameS, markDefS, markEntS]
    refine run_env (ih (run_env hq ?_)) ?_
    · simp [KTask.marks, KTask.cnts, KTask.cnt] <;> omega
    · simp [KTask.mark, KTask.cnts, KTask.cnt] <;> omega
theorem markTaskS (xs : List KTask) (k : Int) (h0 : 0 ≤ k) (h1 : k + (KTask.cnts xs : Int) ≤ 1000000000000000) : A 55 [.leaf (KTask.sl true (xs)), .leaf (.int .i64 k)] = some ([.leaf (.int .i64 (k + (KTask.cnts xs : Int)))], [.leaf (KTask.sl true (KTask.marks k xs)), .gone]) := by
  refine run_laws_markTaskS ?_
  simp [laws_markTaskS.b]
  refine markTaskS_loop _ _ xs [] k 0 (by simp) h0 h1 (by simp; omega) ?_
  simp
theorem heldTaskS_loop (ks : List Fr) (Q : VX → Env → Prop) : ∀ (rest done : List KTask) (k i : Int), i = done.length → 0 ≤ k → k + (KTask.cnts rest : Int) ≤ 1000000000000000 → (done.length : Int) + (KTask.cnts rest : Int) ≤ 1000000000000000 →
    Run G A (.exit 0) [(0, .v (.leaf (KTask.sl false (done ++ KTask.marks k rest)))), (1, .v (.leaf (.int .i64 (k + (KTask.cnts rest : Int))))), (5, .v (.leaf (.int .i64 (done.length + rest.length)))), (9, .v (.leaf (.bool false)))] ks Q →
    Run G A (.loop laws_heldTaskS.l0) [(0, .v (.leaf (KTask.sl false (done ++ KTask.marks k rest)))), (1, .v (.leaf (.int .i64 k))), (5, .v (.leaf (.int .i64 i)))] ks Q := by
  intro rest
  induction rest with
  | nil =>
    intro done k i hi h0 h1 h2 hq
    subst hi
    refine run_loop_at laws_heldTaskS.l0.eq_1 ?_
    simp [KTask.marks, KTask.cnts, KTask.cnt] at hq ⊢
    exact hq
  | cons x rest ih =>
    intro done k i hi h0 h1 h2 hq
    subst hi
    simp only [KTask.cnts, KTask.cnt, List.length_cons] at h1 h2
    have := KTask.len_le rest
    have ih := ih (done ++ [KTask.mark k x]) (k + (KTask.cnt x : Int)) (done.length + 1) (by simp) (by simp only [KTask.cnt]; omega) (by simp only [KTask.cnt]; omega) (by simp [KTask.cnt]; omega)
    refine run_loop_at laws_heldTaskS.l0.eq_1 ?_
    simp only [KTask.marks]
    simp (disch := omega) [if_pos, if_neg, wrap_i64, markText, heldIntS, heldStringS, heldNodeS, heldValueS, heldCellS, heldLinkS, heldTypeS, heldInstS, heldUnitS, heldSys, heldBindS, heldFrameS, heldDefS, heldEntS, KTask.mark]
    refine run_env (ih (run_env hq ?_)) ?_
    · simp [KTask.marks, KTask.cnts, KTask.cnt] <;> omega
    · simp [KTask.mark, KTask.cnts, KTask.cnt] <;> omega
theorem heldTaskS (xs : List KTask) (k : Int) (h0 : 0 ≤ k) (h1 : k + (KTask.cnts xs : Int) ≤ 1000000000000000) : A 57 [.leaf (KTask.sl false (KTask.marks k xs)), .leaf (.int .i64 k)] = some ([.leaf (.int .i64 (k + (KTask.cnts xs : Int)))], [.gone, .gone]) := by
  refine run_laws_heldTaskS ?_
  simp [laws_heldTaskS.b]
  refine heldTaskS_loop _ _ xs [] k 0 (by simp) h0 h1 (by simp; omega) ?_
  simp
theorem eqWorld (x : KWorld) (h : (KCell.cnts x.sys.heap : Int) ≤ 1000000000000000 ∧ (KInst.cnts x.sys.insts : Int) ≤ 1000000000000000 ∧ (KUnit.cnts x.sys.units : Int) ≤ 1000000000000000 ∧ (x.sys.out.length : Int) ≤ 1000000000000000 ∧ (KEnt.cnts x.libs : Int) ≤ 1000000000000000 ∧ (KTask.cnts x.tasks : Int) ≤ 1000000000000000) : A 25 [.agg (KWorld.row false x), .agg (KWorld.row false x)] = some ([.leaf (.bool true)], [.gone, .gone]) := by
  refine run_laws_eqWorld ?_
  simp (disch := omega) [if_pos, if_neg, wrap_i64, laws_eqWorld.b, eqIntS, eqStringS, eqNode, eqNodeS, eqProg, eqValue, eqValueS, eqCell, eqCellS, eqLink, eqLinkS, eqType, eqTypeS, eqInst, eqInstS, eqUnit, eqUnitS, eqSys, eqBind, eqBindS, eqFrame, eqFrameS, eqMachine, eqDef, eqDefS, eqSrc, eqEnt, eqEntS, eqTask, eqTaskS]
theorem markWorld (x : KWorld) (k : Int) (h0 : 0 ≤ k) (h1 : k + (KWorld.top x : Int) ≤ 1000000000000000) : A 26 [.agg (KWorld.row true x), .leaf (.int .i64 k)] = some ([.leaf (.int .i64 (k + (KWorld.top x : Int)))], [.agg (KWorld.row true (KWorld.markTop k x)), .gone]) := by
  simp only [KWorld.top] at h1
  refine run_laws_markWorld ?_
  simp (disch := omega) [if_pos, if_neg, wrap_i64, laws_markWorld.b, markText, markIntS, markStringS, markNodeS, markValueS, markCellS, markLinkS, markTypeS, markInstS, markUnitS, markSys, markBindS, markFrameS, markDefS, markEntS, markTaskS]
  simp [KWorld.top, KWorld.markTop] <;> omega
theorem heldWorld (x : KWorld) (k : Int) (h0 : 0 ≤ k) (h1 : k + (KWorld.top x : Int) ≤ 1000000000000000) : A 27 [.agg (KWorld.row false (KWorld.markTop k x)), .leaf (.int .i64 k)] = some ([.leaf (.int .i64 (k + (KWorld.top x : Int)))], [.gone, .gone]) := by
  simp only [KWorld.top] at h1
  refine run_laws_heldWorld ?_
  simp (disch := omega) [if_pos, if_neg, wrap_i64, laws_heldWorld.b, markText, heldIntS, heldStringS, heldNodeS, heldValueS, heldCellS, heldLinkS, heldTypeS, heldInstS, heldUnitS, heldSys, heldBindS, heldFrameS, heldDefS, heldEntS, heldTaskS, KWorld.markTop]
  simp [KWorld.top] <;> omega
end Go.Proofs.Ytdoelepflcaijaa.NewWorld
