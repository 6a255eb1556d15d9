/- The structs of the laws as structures, and their rows of leaves (printed by kinds.py). -/
import Derived.Test.YtdoelepflcaijaaEngTable
namespace Go.VS
open Go
set_option linter.unusedSimpArgs false
set_option linter.unusedVariables false

abbrev Kints (o : Bool) (l : List Int) : L := .sl o 1 (l.map fun n : Int => [L.int .i64 n])
abbrev Kstrs (o : Bool) (l : List ByteArray) : L := .sl o 1 (l.map fun s : ByteArray => [L.str s])
theorem freezeRR_map {α : Type} {f g : α → List L} (h : ∀ x, freezeR (f x) = g x) : ∀ xs : List α, freezeRR (xs.map f) = xs.map g
  | [] => rfl
  | x :: xs => by simp only [List.map_cons, freezeRR, h, freezeRR_map h xs]
theorem freeRR_map {α : Type} {f : α → List L} (h : ∀ x, freeR (f x) = true) : ∀ xs : List α, freeRR (xs.map f) = true
  | [] => rfl
  | x :: xs => by simp only [List.map_cons, freeRR, h, freeRR_map h xs, Bool.and_self]
@[simp] theorem freezeRR_ints (l : List Int) : freezeRR (l.map fun n : Int => [L.int .i64 n]) = l.map fun n : Int => [L.int .i64 n] := freezeRR_map (fun _ => rfl) l
@[simp] theorem freezeRR_strs (l : List ByteArray) : freezeRR (l.map fun s : ByteArray => [L.str s]) = l.map fun s : ByteArray => [L.str s] := freezeRR_map (fun _ => rfl) l
@[simp] theorem freeRR_ints (l : List Int) : freeRR (l.map fun n : Int => [L.int .i64 n]) = true := freeRR_map (fun _ => rfl) l
@[simp] theorem freeRR_strs (l : List ByteArray) : freeRR (l.map fun s : ByteArray => [L.str s]) = true := freeRR_map (fun _ => rfl) l

structure KDatum where
  kind : Int
  n : Int
  s : ByteArray
  l : Int
  r : Int
  deriving DecidableEq, Inhabited
abbrev KDatum.row (o : Bool) (x : KDatum) : List L := [.int .i64 x.kind, .int .i64 x.n, .str x.s, .int .i64 x.l, .int .i64 x.r]
abbrev KDatum.sl (o : Bool) (xs : List KDatum) : L := .sl o 5 (xs.map (KDatum.row o))
theorem KDatum.freezeR (o : Bool) (x : KDatum) : VS.freezeR (KDatum.row o x) = KDatum.row false x := by cases o <;> simp [VS.freezeR, L.freeze]
@[simp] theorem KDatum.freezeRR (o : Bool) (xs : List KDatum) : freezeRR (xs.map (KDatum.row o)) = xs.map (KDatum.row false) := freezeRR_map (KDatum.freezeR o) xs
theorem KDatum.freeR (x : KDatum) : VS.freeR (KDatum.row true x) = true := by simp [VS.freeR, L.free]
@[simp] theorem KDatum.freeRR (xs : List KDatum) : freeRR (xs.map (KDatum.row true)) = true := freeRR_map KDatum.freeR xs
theorem KDatum.row_length (o : Bool) (x : KDatum) : (KDatum.row o x).length = 5 := rfl
@[simp] theorem KDatum.eta (x : KDatum) : KDatum.mk x.kind x.n x.s x.l x.r = x := rfl

structure KData where
  cells : List KDatum
  tops : List Int
  deriving DecidableEq, Inhabited
abbrev KData.row (o : Bool) (x : KData) : List L := [.sl o 5 (x.cells.map (KDatum.row o)), .sl o 1 (x.tops.map (fun n : Int => [L.int .i64 n]))]
abbrev KData.sl (o : Bool) (xs : List KData) : L := .sl o 2 (xs.map (KData.row o))
theorem KData.freezeR (o : Bool) (x : KData) : VS.freezeR (KData.row o x) = KData.row false x := by cases o <;> simp [VS.freezeR, L.freeze]
@[simp] theorem KData.freezeRR (o : Bool) (xs : List KData) : freezeRR (xs.map (KData.row o)) = xs.map (KData.row false) := freezeRR_map (KData.freezeR o) xs
theorem KData.freeR (x : KData) : VS.freeR (KData.row true x) = true := by simp [VS.freeR, L.free]
@[simp] theorem KData.freeRR (xs : List KData) : freeRR (xs.map (KData.row true)) = true := freeRR_map KData.freeR xs
theorem KData.row_length (o : Bool) (x : KData) : (KData.row o x).length = 2 := rfl
@[simp] theorem KData.eta (x : KData) : KData.mk x.cells x.tops = x := rfl

structure KNode where
  kind : Int
  n : Int
  s : ByteArray
  names : List ByteArray
  args : List Int
  deriving DecidableEq, Inhabited
abbrev KNode.row (o : Bool) (x : KNode) : List L := [.int .i64 x.kind, .int .i64 x.n, .str x.s, .sl o 1 (x.names.map (fun s : ByteArray => [L.str s])), .sl o 1 (x.args.map (fun n : Int => [L.int .i64 n]))]
abbrev KNode.sl (o : Bool) (xs : List KNode) : L := .sl o 5 (xs.map (KNode.row o))
theorem KNode.freezeR (o : Bool) (x : KNode) : VS.freezeR (KNode.row o x) = KNode.row false x := by cases o <;> simp [VS.freezeR, L.freeze]
@[simp] theorem KNode.freezeRR (o : Bool) (xs : List KNode) : freezeRR (xs.map (KNode.row o)) = xs.map (KNode.row false) := freezeRR_map (KNode.freezeR o) xs
theorem KNode.freeR (x : KNode) : VS.freeR (KNode.row true x) = true := by simp [VS.freeR, L.free]
@[simp] theorem KNode.freeRR (xs : List KNode) : freeRR (xs.map (KNode.row true)) = true := freeRR_map KNode.freeR xs
theorem KNode.row_length (o : Bool) (x : KNode) : (KNode.row o x).length = 5 := rfl
@[simp] theorem KNode.eta (x : KNode) : KNode.mk x.kind x.n x.s x.names x.args = x := rfl

structure KProg where
  nodes : List KNode
  root : Int
  deriving DecidableEq, Inhabited
abbrev KProg.row (o : Bool) (x : KProg) : List L := [.sl o 5 (x.nodes.map (KNode.row o)), .int .i64 x.root]
abbrev KProg.sl (o : Bool) (xs : List KProg) : L := .sl o 2 (xs.map (KProg.row o))
theorem KProg.freezeR (o : Bool) (x : KProg) : VS.freezeR (KProg.row o x) = KProg.row false x := by cases o <;> simp [VS.freezeR, L.freeze]
@[simp] theorem KProg.freezeRR (o : Bool) (xs : List KProg) : freezeRR (xs.map (KProg.row o)) = xs.map (KProg.row false) := freezeRR_map (KProg.freezeR o) xs
theorem KProg.freeR (x : KProg) : VS.freeR (KProg.row true x) = true := by simp [VS.freeR, L.free]
@[simp] theorem KProg.freeRR (xs : List KProg) : freeRR (xs.map (KProg.row true)) = true := freeRR_map KProg.freeR xs
theorem KProg.row_length (o : Bool) (x : KProg) : (KProg.row o x).length = 2 := rfl
@[simp] theorem KProg.eta (x : KProg) : KProg.mk x.nodes x.root = x := rfl

structure KValue where
  kind : Int
  n : Int
  s : ByteArray
  deriving DecidableEq, Inhabited
abbrev KValue.row (o : Bool) (x : KValue) : List L := [.int .i64 x.kind, .int .i64 x.n, .str x.s]
abbrev KValue.sl (o : Bool) (xs : List KValue) : L := .sl o 3 (xs.map (KValue.row o))
theorem KValue.freezeR (o : Bool) (x : KValue) : VS.freezeR (KValue.row o x) = KValue.row false x := by cases o <;> simp [VS.freezeR, L.freeze]
@[simp] theorem KValue.freezeRR (o : Bool) (xs : List KValue) : freezeRR (xs.map (KValue.row o)) = xs.map (KValue.row false) := freezeRR_map (KValue.freezeR o) xs
theorem KValue.freeR (x : KValue) : VS.freeR (KValue.row true x) = true := by simp [VS.freeR, L.free]
@[simp] theorem KValue.freeRR (xs : List KValue) : freeRR (xs.map (KValue.row true)) = true := freeRR_map KValue.freeR xs
theorem KValue.row_length (o : Bool) (x : KValue) : (KValue.row o x).length = 3 := rfl
@[simp] theorem KValue.eta (x : KValue) : KValue.mk x.kind x.n x.s = x := rfl

structure KCell where
  kind : Int
  s : ByteArray
  a : Int
  b : Int
  names : List ByteArray
  vals : List KValue
  deriving DecidableEq, Inhabited
abbrev KCell.row (o : Bool) (x : KCell) : List L := [.int .i64 x.kind, .str x.s, .int .i64 x.a, .int .i64 x.b, .sl o 1 (x.names.map (fun s : ByteArray => [L.str s])), .sl o 3 (x.vals.map (KValue.row o))]
abbrev KCell.sl (o : Bool) (xs : List KCell) : L := .sl o 6 (xs.map (KCell.row o))
theorem KCell.freezeR (o : Bool) (x : KCell) : VS.freezeR (KCell.row o x) = KCell.row false x := by cases o <;> simp [VS.freezeR, L.freeze]
@[simp] theorem KCell.freezeRR (o : Bool) (xs : List KCell) : freezeRR (xs.map (KCell.row o)) = xs.map (KCell.row false) := freezeRR_map (KCell.freezeR o) xs
theorem KCell.freeR (x : KCell) : VS.freeR (KCell.row true x) = true := by simp [VS.freeR, L.free]
@[simp] theorem KCell.freeRR (xs : List KCell) : freeRR (xs.map (KCell.row true)) = true := freeRR_map KCell.freeR xs
theorem KCell.row_length (o : Bool) (x : KCell) : (KCell.row o x).length = 6 := rfl
@[simp] theorem KCell.eta (x : KCell) : KCell.mk x.kind x.s x.a x.b x.names x.vals = x := rfl

structure KLink where
  name : ByteArray
  inst : Int
  at_ : ByteArray
  deriving DecidableEq, Inhabited
abbrev KLink.row (o : Bool) (x : KLink) : List L := [.str x.name, .int .i64 x.inst, .str x.at_]
abbrev KLink.sl (o : Bool) (xs : List KLink) : L := .sl o 3 (xs.map (KLink.row o))
theorem KLink.freezeR (o : Bool) (x : KLink) : VS.freezeR (KLink.row o x) = KLink.row false x := by cases o <;> simp [VS.freezeR, L.freeze]
@[simp] theorem KLink.freezeRR (o : Bool) (xs : List KLink) : freezeRR (xs.map (KLink.row o)) = xs.map (KLink.row false) := freezeRR_map (KLink.freezeR o) xs
theorem KLink.freeR (x : KLink) : VS.freeR (KLink.row true x) = true := by simp [VS.freeR, L.free]
@[simp] theorem KLink.freeRR (xs : List KLink) : freeRR (xs.map (KLink.row true)) = true := freeRR_map KLink.freeR xs
theorem KLink.row_length (o : Bool) (x : KLink) : (KLink.row o x).length = 3 := rfl
@[simp] theorem KLink.eta (x : KLink) : KLink.mk x.name x.inst x.at_ = x := rfl

structure KType where
  name : ByteArray
  size : Int
  deriving DecidableEq, Inhabited
abbrev KType.row (o : Bool) (x : KType) : List L := [.str x.name, .int .i64 x.size]
abbrev KType.sl (o : Bool) (xs : List KType) : L := .sl o 2 (xs.map (KType.row o))
theorem KType.freezeR (o : Bool) (x : KType) : VS.freezeR (KType.row o x) = KType.row false x := by cases o <;> simp [VS.freezeR, L.freeze]
@[simp] theorem KType.freezeRR (o : Bool) (xs : List KType) : freezeRR (xs.map (KType.row o)) = xs.map (KType.row false) := freezeRR_map (KType.freezeR o) xs
theorem KType.freeR (x : KType) : VS.freeR (KType.row true x) = true := by simp [VS.freeR, L.free]
@[simp] theorem KType.freeRR (xs : List KType) : freeRR (xs.map (KType.row true)) = true := freeRR_map KType.freeR xs
theorem KType.row_length (o : Bool) (x : KType) : (KType.row o x).length = 2 := rfl
@[simp] theorem KType.eta (x : KType) : KType.mk x.name x.size = x := rfl

structure KInst where
  lib : ByteArray
  ver : Int
  names : List ByteArray
  vals : List KValue
  links : List KLink
  types : List KType
  deriving DecidableEq, Inhabited
abbrev KInst.row (o : Bool) (x : KInst) : List L := [.str x.lib, .int .i64 x.ver, .sl o 1 (x.names.map (fun s : ByteArray => [L.str s])), .sl o 3 (x.vals.map (KValue.row o)), .sl o 3 (x.links.map (KLink.row o)), .sl o 2 (x.types.map (KType.row o))]
abbrev KInst.sl (o : Bool) (xs : List KInst) : L := .sl o 6 (xs.map (KInst.row o))
theorem KInst.freezeR (o : Bool) (x : KInst) : VS.freezeR (KInst.row o x) = KInst.row false x := by cases o <;> simp [VS.freezeR, L.freeze]
@[simp] theorem KInst.freezeRR (o : Bool) (xs : List KInst) : freezeRR (xs.map (KInst.row o)) = xs.map (KInst.row false) := freezeRR_map (KInst.freezeR o) xs
theorem KInst.freeR (x : KInst) : VS.freeR (KInst.row true x) = true := by simp [VS.freeR, L.free]
@[simp] theorem KInst.freeRR (xs : List KInst) : freeRR (xs.map (KInst.row true)) = true := freeRR_map KInst.freeR xs
theorem KInst.row_length (o : Bool) (x : KInst) : (KInst.row o x).length = 6 := rfl
@[simp] theorem KInst.eta (x : KInst) : KInst.mk x.lib x.ver x.names x.vals x.links x.types = x := rfl

structure KUnit where
  home : Int
  prog : KProg
  deriving DecidableEq, Inhabited
abbrev KUnit.row (o : Bool) (x : KUnit) : List L := [.int .i64 x.home, .sl o 5 (x.prog.nodes.map (KNode.row o)), .int .i64 x.prog.root]
abbrev KUnit.sl (o : Bool) (xs : List KUnit) : L := .sl o 3 (xs.map (KUnit.row o))
theorem KUnit.freezeR (o : Bool) (x : KUnit) : VS.freezeR (KUnit.row o x) = KUnit.row false x := by cases o <;> simp [VS.freezeR, L.freeze]
@[simp] theorem KUnit.freezeRR (o : Bool) (xs : List KUnit) : freezeRR (xs.map (KUnit.row o)) = xs.map (KUnit.row false) := freezeRR_map (KUnit.freezeR o) xs
theorem KUnit.freeR (x : KUnit) : VS.freeR (KUnit.row true x) = true := by simp [VS.freeR, L.free]
@[simp] theorem KUnit.freeRR (xs : List KUnit) : freeRR (xs.map (KUnit.row true)) = true := freeRR_map KUnit.freeR xs
theorem KUnit.row_length (o : Bool) (x : KUnit) : (KUnit.row o x).length = 3 := rfl
@[simp] theorem KUnit.eta (x : KUnit) : KUnit.mk x.home x.prog = x := rfl

structure KSys where
  heap : List KCell
  insts : List KInst
  units : List KUnit
  out : List ByteArray
  deriving DecidableEq, Inhabited
abbrev KSys.row (o : Bool) (x : KSys) : List L := [.sl o 6 (x.heap.map (KCell.row o)), .sl o 6 (x.insts.map (KInst.row o)), .sl o 3 (x.units.map (KUnit.row o)), .sl o 1 (x.out.map (fun s : ByteArray => [L.str s]))]
abbrev KSys.sl (o : Bool) (xs : List KSys) : L := .sl o 4 (xs.map (KSys.row o))
theorem KSys.freezeR (o : Bool) (x : KSys) : VS.freezeR (KSys.row o x) = KSys.row false x := by cases o <;> simp [VS.freezeR, L.freeze]
@[simp] theorem KSys.freezeRR (o : Bool) (xs : List KSys) : freezeRR (xs.map (KSys.row o)) = xs.map (KSys.row false) := freezeRR_map (KSys.freezeR o) xs
theorem KSys.freeR (x : KSys) : VS.freeR (KSys.row true x) = true := by simp [VS.freeR, L.free]
@[simp] theorem KSys.freeRR (xs : List KSys) : freeRR (xs.map (KSys.row true)) = true := freeRR_map KSys.freeR xs
theorem KSys.row_length (o : Bool) (x : KSys) : (KSys.row o x).length = 4 := rfl
@[simp] theorem KSys.eta (x : KSys) : KSys.mk x.heap x.insts x.units x.out = x := rfl

structure KBind where
  name : ByteArray
  val : KValue
  deriving DecidableEq, Inhabited
abbrev KBind.row (o : Bool) (x : KBind) : List L := [.str x.name, .int .i64 x.val.kind, .int .i64 x.val.n, .str x.val.s]
abbrev KBind.sl (o : Bool) (xs : List KBind) : L := .sl o 4 (xs.map (KBind.row o))
theorem KBind.freezeR (o : Bool) (x : KBind) : VS.freezeR (KBind.row o x) = KBind.row false x := by cases o <;> simp [VS.freezeR, L.freeze]
@[simp] theorem KBind.freezeRR (o : Bool) (xs : List KBind) : freezeRR (xs.map (KBind.row o)) = xs.map (KBind.row false) := freezeRR_map (KBind.freezeR o) xs
theorem KBind.freeR (x : KBind) : VS.freeR (KBind.row true x) = true := by simp [VS.freeR, L.free]
@[simp] theorem KBind.freeRR (xs : List KBind) : freeRR (xs.map (KBind.row true)) = true := freeRR_map KBind.freeR xs
theorem KBind.row_length (o : Bool) (x : KBind) : (KBind.row o x).length = 4 := rfl
@[simp] theorem KBind.eta (x : KBind) : KBind.mk x.name x.val = x := rfl

structure KFrame where
  unit : Int
  node : Int
  vals : List KValue
  env : List KBind
  deriving DecidableEq, Inhabited
abbrev KFrame.row (o : Bool) (x : KFrame) : List L := [.int .i64 x.unit, .int .i64 x.node, .sl o 3 (x.vals.map (KValue.row o)), .sl o 4 (x.env.map (KBind.row o))]
abbrev KFrame.sl (o : Bool) (xs : List KFrame) : L := .sl o 4 (xs.map (KFrame.row o))
theorem KFrame.freezeR (o : Bool) (x : KFrame) : VS.freezeR (KFrame.row o x) = KFrame.row false x := by cases o <;> simp [VS.freezeR, L.freeze]
@[simp] theorem KFrame.freezeRR (o : Bool) (xs : List KFrame) : freezeRR (xs.map (KFrame.row o)) = xs.map (KFrame.row false) := freezeRR_map (KFrame.freezeR o) xs
theorem KFrame.freeR (x : KFrame) : VS.freeR (KFrame.row true x) = true := by simp [VS.freeR, L.free]
@[simp] theorem KFrame.freeRR (xs : List KFrame) : freeRR (xs.map (KFrame.row true)) = true := freeRR_map KFrame.freeR xs
theorem KFrame.row_length (o : Bool) (x : KFrame) : (KFrame.row o x).length = 4 := rfl
@[simp] theorem KFrame.eta (x : KFrame) : KFrame.mk x.unit x.node x.vals x.env = x := rfl

structure KMachine where
  mode : Int
  unit : Int
  node : Int
  env : List KBind
  val : KValue
  stack : List KFrame
  end_ : Int
  deriving DecidableEq, Inhabited
abbrev KMachine.row (o : Bool) (x : KMachine) : List L := [.int .i64 x.mode, .int .i64 x.unit, .int .i64 x.node, .sl o 4 (x.env.map (KBind.row o)), .int .i64 x.val.kind, .int .i64 x.val.n, .str x.val.s, .sl o 4 (x.stack.map (KFrame.row o)), .int .i64 x.end_]
abbrev KMachine.sl (o : Bool) (xs : List KMachine) : L := .sl o 9 (xs.map (KMachine.row o))
theorem KMachine.freezeR (o : Bool) (x : KMachine) : VS.freezeR (KMachine.row o x) = KMachine.row false x := by cases o <;> simp [VS.freezeR, L.freeze]
@[simp] theorem KMachine.freezeRR (o : Bool) (xs : List KMachine) : freezeRR (xs.map (KMachine.row o)) = xs.map (KMachine.row false) := freezeRR_map (KMachine.freezeR o) xs
theorem KMachine.freeR (x : KMachine) : VS.freeR (KMachine.row true x) = true := by simp [VS.freeR, L.free]
@[simp] theorem KMachine.freeRR (xs : List KMachine) : freeRR (xs.map (KMachine.row true)) = true := freeRR_map KMachine.freeR xs
theorem KMachine.row_length (o : Bool) (x : KMachine) : (KMachine.row o x).length = 9 := rfl
@[simp] theorem KMachine.eta (x : KMachine) : KMachine.mk x.mode x.unit x.node x.env x.val x.stack x.end_ = x := rfl

structure KDef where
  name : ByteArray
  prog : KProg
  deriving DecidableEq, Inhabited
abbrev KDef.row (o : Bool) (x : KDef) : List L := [.str x.name, .sl o 5 (x.prog.nodes.map (KNode.row o)), .int .i64 x.prog.root]
abbrev KDef.sl (o : Bool) (xs : List KDef) : L := .sl o 3 (xs.map (KDef.row o))
theorem KDef.freezeR (o : Bool) (x : KDef) : VS.freezeR (KDef.row o x) = KDef.row false x := by cases o <;> simp [VS.freezeR, L.freeze]
@[simp] theorem KDef.freezeRR (o : Bool) (xs : List KDef) : freezeRR (xs.map (KDef.row o)) = xs.map (KDef.row false) := freezeRR_map (KDef.freezeR o) xs
theorem KDef.freeR (x : KDef) : VS.freeR (KDef.row true x) = true := by simp [VS.freeR, L.free]
@[simp] theorem KDef.freeRR (xs : List KDef) : freeRR (xs.map (KDef.row true)) = true := freeRR_map KDef.freeR xs
theorem KDef.row_length (o : Bool) (x : KDef) : (KDef.row o x).length = 3 := rfl
@[simp] theorem KDef.eta (x : KDef) : KDef.mk x.name x.prog = x := rfl

structure KSrc where
  name : ByteArray
  imports : List ByteArray
  exports : List ByteArray
  types : List KType
  defs : List KDef
  convs : List KDef
  deriving DecidableEq, Inhabited
abbrev KSrc.row (o : Bool) (x : KSrc) : List L := [.str x.name, .sl o 1 (x.imports.map (fun s : ByteArray => [L.str s])), .sl o 1 (x.exports.map (fun s : ByteArray => [L.str s])), .sl o 2 (x.types.map (KType.row o)), .sl o 3 (x.defs.map (KDef.row o)), .sl o 3 (x.convs.map (KDef.row o))]
abbrev KSrc.sl (o : Bool) (xs : List KSrc) : L := .sl o 6 (xs.map (KSrc.row o))
theorem KSrc.freezeR (o : Bool) (x : KSrc) : VS.freezeR (KSrc.row o x) = KSrc.row false x := by cases o <;> simp [VS.freezeR, L.freeze]
@[simp] theorem KSrc.freezeRR (o : Bool) (xs : List KSrc) : freezeRR (xs.map (KSrc.row o)) = xs.map (KSrc.row false) := freezeRR_map (KSrc.freezeR o) xs
theorem KSrc.freeR (x : KSrc) : VS.freeR (KSrc.row true x) = true := by simp [VS.freeR, L.free]
@[simp] theorem KSrc.freeRR (xs : List KSrc) : freeRR (xs.map (KSrc.row true)) = true := freeRR_map KSrc.freeR xs
theorem KSrc.row_length (o : Bool) (x : KSrc) : (KSrc.row o x).length = 6 := rfl
@[simp] theorem KSrc.eta (x : KSrc) : KSrc.mk x.name x.imports x.exports x.types x.defs x.convs = x := rfl

structure KEnt where
  src : KSrc
  ver : Int
  inst : Int
  deriving DecidableEq, Inhabited
abbrev KEnt.row (o : Bool) (x : KEnt) : List L := [.str x.src.name, .sl o 1 (x.src.imports.map (fun s : ByteArray => [L.str s])), .sl o 1 (x.src.exports.map (fun s : ByteArray => [L.str s])), .sl o 2 (x.src.types.map (KType.row o)), .sl o 3 (x.src.defs.map (KDef.row o)), .sl o 3 (x.src.convs.map (KDef.row o)), .int .i64 x.ver, .int .i64 x.inst]
abbrev KEnt.sl (o : Bool) (xs : List KEnt) : L := .sl o 8 (xs.map (KEnt.row o))
theorem KEnt.freezeR (o : Bool) (x : KEnt) : VS.freezeR (KEnt.row o x) = KEnt.row false x := by cases o <;> simp [VS.freezeR, L.freeze]
@[simp] theorem KEnt.freezeRR (o : Bool) (xs : List KEnt) : freezeRR (xs.map (KEnt.row o)) = xs.map (KEnt.row false) := freezeRR_map (KEnt.freezeR o) xs
theorem KEnt.freeR (x : KEnt) : VS.freeR (KEnt.row true x) = true := by simp [VS.freeR, L.free]
@[simp] theorem KEnt.freeRR (xs : List KEnt) : freeRR (xs.map (KEnt.row true)) = true := freeRR_map KEnt.freeR xs
theorem KEnt.row_length (o : Bool) (x : KEnt) : (KEnt.row o x).length = 8 := rfl
@[simp] theorem KEnt.eta (x : KEnt) : KEnt.mk x.src x.ver x.inst = x := rfl

structure KTask where
  id : Int
  mac : KMachine
  deriving DecidableEq, Inhabited
abbrev KTask.row (o : Bool) (x : KTask) : List L := [.int .i64 x.id, .int .i64 x.mac.mode, .int .i64 x.mac.unit, .int .i64 x.mac.node, .sl o 4 (x.mac.env.map (KBind.row o)), .int .i64 x.mac.val.kind, .int .i64 x.mac.val.n, .str x.mac.val.s, .sl o 4 (x.mac.stack.map (KFrame.row o)), .int .i64 x.mac.end_]
abbrev KTask.sl (o : Bool) (xs : List KTask) : L := .sl o 10 (xs.map (KTask.row o))
theorem KTask.freezeR (o : Bool) (x : KTask) : VS.freezeR (KTask.row o x) = KTask.row false x := by cases o <;> simp [VS.freezeR, L.freeze]
@[simp] theorem KTask.freezeRR (o : Bool) (xs : List KTask) : freezeRR (xs.map (KTask.row o)) = xs.map (KTask.row false) := freezeRR_map (KTask.freezeR o) xs
theorem KTask.freeR (x : KTask) : VS.freeR (KTask.row true x) = true := by simp [VS.freeR, L.free]
@[simp] theorem KTask.freeRR (xs : List KTask) : freeRR (xs.map (KTask.row true)) = true := freeRR_map KTask.freeR xs
theorem KTask.row_length (o : Bool) (x : KTask) : (KTask.row o x).length = 10 := rfl
@[simp] theorem KTask.eta (x : KTask) : KTask.mk x.id x.mac = x := rfl

structure KWorld where
  sys : KSys
  libs : List KEnt
  tasks : List KTask
  next : Int
  deriving DecidableEq, Inhabited
abbrev KWorld.row (o : Bool) (x : KWorld) : List L := [.sl o 6 (x.sys.heap.map (KCell.row o)), .sl o 6 (x.sys.insts.map (KInst.row o)), .sl o 3 (x.sys.units.map (KUnit.row o)), .sl o 1 (x.sys.out.map (fun s : ByteArray => [L.str s])), .sl o 8 (x.libs.map (KEnt.row o)), .sl o 10 (x.tasks.map (KTask.row o)), .int .i64 x.next]
abbrev KWorld.sl (o : Bool) (xs : List KWorld) : L := .sl o 7 (xs.map (KWorld.row o))
theorem KWorld.freezeR (o : Bool) (x : KWorld) : VS.freezeR (KWorld.row o x) = KWorld.row false x := by cases o <;> simp [VS.freezeR, L.freeze]
@[simp] theorem KWorld.freezeRR (o : Bool) (xs : List KWorld) : freezeRR (xs.map (KWorld.row o)) = xs.map (KWorld.row false) := freezeRR_map (KWorld.freezeR o) xs
theorem KWorld.freeR (x : KWorld) : VS.freeR (KWorld.row true x) = true := by simp [VS.freeR, L.free]
@[simp] theorem KWorld.freeRR (xs : List KWorld) : freeRR (xs.map (KWorld.row true)) = true := freeRR_map KWorld.freeR xs
theorem KWorld.row_length (o : Bool) (x : KWorld) : (KWorld.row o x).length = 7 := rfl
@[simp] theorem KWorld.eta (x : KWorld) : KWorld.mk x.sys x.libs x.tasks x.next = x := rfl

structure KNeed where
  inst : Int
  names : List ByteArray
  deriving DecidableEq, Inhabited
abbrev KNeed.row (o : Bool) (x : KNeed) : List L := [.int .i64 x.inst, .sl o 1 (x.names.map (fun s : ByteArray => [L.str s]))]
abbrev KNeed.sl (o : Bool) (xs : List KNeed) : L := .sl o 2 (xs.map (KNeed.row o))
theorem KNeed.freezeR (o : Bool) (x : KNeed) : VS.freezeR (KNeed.row o x) = KNeed.row false x := by cases o <;> simp [VS.freezeR, L.freeze]
@[simp] theorem KNeed.freezeRR (o : Bool) (xs : List KNeed) : freezeRR (xs.map (KNeed.row o)) = xs.map (KNeed.row false) := freezeRR_map (KNeed.freezeR o) xs
theorem KNeed.freeR (x : KNeed) : VS.freeR (KNeed.row true x) = true := by simp [VS.freeR, L.free]
@[simp] theorem KNeed.freeRR (xs : List KNeed) : freeRR (xs.map (KNeed.row true)) = true := freeRR_map KNeed.freeR xs
theorem KNeed.row_length (o : Bool) (x : KNeed) : (KNeed.row o x).length = 2 := rfl
@[simp] theorem KNeed.eta (x : KNeed) : KNeed.mk x.inst x.names = x := rfl

structure KWorldAct where
  kind : Int
  text : ByteArray
  a : Int
  b : Int
  deriving DecidableEq, Inhabited
abbrev KWorldAct.row (o : Bool) (x : KWorldAct) : List L := [.int .i64 x.kind, .str x.text, .int .i64 x.a, .int .i64 x.b]
abbrev KWorldAct.sl (o : Bool) (xs : List KWorldAct) : L := .sl o 4 (xs.map (KWorldAct.row o))
theorem KWorldAct.freezeR (o : Bool) (x : KWorldAct) : VS.freezeR (KWorldAct.row o x) = KWorldAct.row false x := by cases o <;> simp [VS.freezeR, L.freeze]
@[simp] theorem KWorldAct.freezeRR (o : Bool) (xs : List KWorldAct) : freezeRR (xs.map (KWorldAct.row o)) = xs.map (KWorldAct.row false) := freezeRR_map (KWorldAct.freezeR o) xs
theorem KWorldAct.freeR (x : KWorldAct) : VS.freeR (KWorldAct.row true x) = true := by simp [VS.freeR, L.free]
@[simp] theorem KWorldAct.freeRR (xs : List KWorldAct) : freeRR (xs.map (KWorldAct.row true)) = true := freeRR_map KWorldAct.freeR xs
theorem KWorldAct.row_length (o : Bool) (x : KWorldAct) : (KWorldAct.row o x).length = 4 := rfl
@[simp] theorem KWorldAct.eta (x : KWorldAct) : KWorldAct.mk x.kind x.text x.a x.b = x := rfl

end Go.VS
