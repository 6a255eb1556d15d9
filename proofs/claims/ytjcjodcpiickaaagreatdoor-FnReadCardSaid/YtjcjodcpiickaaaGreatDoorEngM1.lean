/- The value-semantics evaluator: values, places, environments. Nothing of the model's heap is in this text. -/
import Derived.WalkKit
import Derived.Orders
import Derived.LoopN
import Derived.Laws.AppendOwn
import Derived.Lib.Builder
import Derived.Lib.UnsafeStr
namespace Go.VS
open Go
set_option linter.unusedSimpArgs false
set_option linter.unusedVariables false

/-- A leaf: what one cell holds (self: in a box: nothing, or the box itself). A slice is a list of rows of leaves, owned (nobody else sees its memory) or immutable. -/
inductive L where
 | bad
 | int (k : IntKind) (n : Int)
 | bool (b : Bool)
 | str (s : ByteArray)
 | sl (own : Bool) (sz : Nat) (rows : List (List L))
 | fn (f : FuncId) (caps : List Value)
 | clo (f : FuncId) (vals : List Value)
 | self (t : TypeId)
 | bts (e : TypeId) (l : List UInt8)

/-- What can be handed to a function, or come out of it: a leaf, a struct, a box of one's own (a pointer to it); a box that holds just what parameter t came in as; nothing that is known. -/
inductive CV where
 | leaf (l : L)
 | agg (ls : List L)
 | box (row : List L)
 | pbox (t : Tmp) (row : List L)
 | gone

/-- What a slot holds: a value; several; a pointer into a root's row (path: column and index of each slice on the way; then the column); a pointer into an immutable row; a struct or a slice loaded from an owned place (it stays there); the model's undefined. -/
inductive AV where
 | bad
 | un
 | v (c : CV)
 | tup (cs : List CV)
 | ptr (r : Tmp) (p : List (Nat × Nat)) (o : Nat)
 | iptr (row : List L) (o : Nat)
 | ld (r : Tmp) (p : List (Nat × Nat)) (o n : Nat) (agg : Bool)

mutual
/-- The same value, for good unchanged. -/
def L.freeze : L → L
 | .sl true sz rows => .sl false sz (freezeRR rows)
 | .sl false sz rows => .sl false sz rows
 | .bad => .bad
 | .int k n => .int k n
 | .bool b => .bool b
 | .str s => .str s
 | .fn f cs => .fn f cs
 | .clo _ _ => .bad
 | .self _ => .bad
 | .bts _ _ => .bad
def freezeR : List L → List L
 | [] => []
 | l :: ls => l.freeze :: freezeR ls
def freezeRR : List (List L) → List (List L)
 | [] => []
 | r :: rs => freezeR r :: freezeRR rs
end

mutual
/-- All that it holds of memory is its own. -/
def L.free : L → Bool
 | .sl o _ rows => o && freeRR rows
 | .bad => true
 | .int .. => true
 | .bool _ => true
 | .str _ => true
 | .fn _ _ => true
 | .clo _ _ => true
 | .self _ => true
 | .bts _ _ => true
def freeR : List L → Bool
 | [] => true
 | l :: ls => l.free && freeR ls
def freeRR : List (List L) → Bool
 | [] => true
 | r :: rs => freeR r && freeRR rs
end

/-- No pointer of a builder to itself among them. -/
def noS : List L → Bool
 | [] => true
 | .self _ :: _ => false
 | _ :: ls => noS ls
def L.own : L → Bool
 | .sl o _ _ => o
 | .clo _ _ => true
 | .bts _ _ => true
 | _ => false
def ownR : List L → Bool
 | [] => false
 | l :: ls => l.own || ownR ls
/-- What is left at a place when what it owns has been taken. -/
def L.unown (l : L) : L := if l.own then .bad else l
def unownR : List L → List L
 | [] => []
 | l :: ls => l.unown :: unownR ls

def CV.freeze : CV → CV
 | .leaf l => .leaf l.freeze
 | .agg ls => .agg (freezeR ls)
 | _ => .gone
def CV.free : CV → Bool
 | .leaf l => l.free
 | .agg ls => freeR ls
 | .box row => freeR row
 | .gone => true
 | .pbox _ _ => false
/-- Nothing owned at its surface: may be copied. -/
def CV.shal : CV → Bool
 | .leaf l => !l.own
 | .agg ls => !ownR ls
 | _ => false
/-- The row of leaves that a root offers to paths. -/
def CV.row : CV → List L
 | .leaf l => [l]
 | .agg ls => ls
 | .box row => row
 | .pbox _ row => row
 | .gone => []
/-- The same root with another row. -/
def CV.withRow : CV → List L → CV
 | .leaf l, row => .leaf (row.headD l)
 | .agg _, row => .agg row
 | .box _, row => .box row
 | .pbox t _, row => .pbox t row
 | .gone, _ => .gone
/-- A leaf or a struct. -/
def CV.flat : CV → Bool
 | .leaf _ => true
 | .agg _ => true
 | _ => false

/-- Slots with what they hold; a slot that is not listed holds nothing that may be used. -/
abbrev Env := List (Tmp × AV)
def Env.get : Env → Tmp → AV
 | [], _ => .bad
 | (k, v) :: e, t => if k = t then v else Env.get e t
def Env.put : Env → Tmp → AV → Env
 | [], t, v => [(t, v)]
 | (k, x) :: e, t, v => if t = k then (t, v) :: e else if t < k then (t, v) :: (k, x) :: e else (k, x) :: Env.put e t v
def Env.del : Env → List Tmp → Env
 | [], _ => []
 | (k, x) :: e, ts => if ts.contains k then Env.del e ts else (k, x) :: Env.del e ts
/-- Nothing stands for a place. -/
def Env.norefs : Env → Bool
 | [] => true
 | (_, .ptr _ _ _) :: _ => false
 | (_, .ld _ _ _ _ _) :: _ => false
 | _ :: e => Env.norefs e
/-- What lies in the box of parameter i. -/
def Env.boxOf (E : Env) (i : Tmp) : Env → Option (List L)
 | [] => none
 | (k, _) :: e => match E.get k with
  | .v (.pbox t row) => if t = i then some row else Env.boxOf E i e
  | _ => Env.boxOf E i e

/-- The row at the end of a path through owned slices. -/
def rowAt : List (Nat × Nat) → List L → Option (List L)
 | [], row => some row
 | (c, i) :: p, row =>
  match row[c]? with
  | some (.sl true _ rows) => match rows[i]? with
   | some r => rowAt p r
   | none => none
  | _ => none
/-- The same with another row at the end of the path. -/
def setRow : List (Nat × Nat) → List L → List L → List L
 | [], _, new => new
 | (c, i) :: p, row, new =>
  match row[c]? with
  | some (.sl o sz rows) => match rows[i]? with
   | some r => row.set c (.sl o sz (rows.set i (setRow p r new)))
   | none => row
  | _ => row
/-- Some leaves laid over a row, from a column on. -/
def patch : List L → Nat → List L → List L
 | row, _, [] => row
 | row, o, l :: ls => patch (row.set o l) (o + 1) ls

/-- Does a path lead through one of the columns o .. o+n-1 of the row at path q? (Indices are not looked at.) -/
def hits : List (Nat × Nat) → Nat → Nat → List (Nat × Nat) → Bool
 | [], o, n, (c, _) :: _ => o ≤ c && c < o + n
 | [], _, _, [] => false
 | (a, _) :: q, o, n, (b, _) :: p => a == b && hits q o n p
 | _ :: _, _, _, [] => false
/-- .. or does what begins at column x, k columns wide, of the row at its end? -/
def meets : List (Nat × Nat) → Nat → Nat → List (Nat × Nat) → Nat → Nat → Bool
 | [], o, n, [], x, k => o < x + k && x < o + n
 | [], o, n, (c, _) :: _, _, _ => o ≤ c && c < o + n
 | (a, _) :: q, o, n, (b, _) :: p, x, k => a == b && meets q o n p x k
 | _ :: _, _, _, [], _, _ => false

/-- A place that has changed since the region began: root, path, column, width (0: the whole root). -/
abbrev Dirt := Tmp × List (Nat × Nat) × Nat × Nat
/-- What a region's run turns: the slots, and the places that changed. -/
structure RS where
 e : Env
 d : List Dirt
def cleanP : List Dirt → Tmp → List (Nat × Nat) → Bool
 | [], _, _ => true
 | (r', q, o, n) :: d, r, p => !(r' == r && (n == 0 || hits q o n p)) && cleanP d r p
def clean : List Dirt → Tmp → List (Nat × Nat) → Nat → Nat → Bool
 | [], _, _, _, _ => true
 | (r', q, o, n) :: d, r, p, x, k => !(r' == r && (n == 0 || meets q o n p x k)) && clean d r p x k
def RS.set (s : RS) (t : Tmp) (v : AV) : RS := ⟨s.e.put t v, s.d⟩
def AV.isV : AV → Bool
 | .v _ => true
 | _ => false
def AV.isBox : AV → Bool
 | .v (.box _) => true
 | _ => false
/-- A slot is written: what stood for a place in what it held does so no more. -/
def RS.put (s : RS) (t : Tmp) (v : AV) : RS := ⟨s.e.put t v, if (s.e.get t).isV then (t, [], 0, 0) :: s.d else s.d⟩
def RS.mark (s : RS) (r : Tmp) (q : List (Nat × Nat)) (o n : Nat) : RS := ⟨s.e, (r, q, o, n) :: s.d⟩

/-- An operand: a slot, or a constant. -/
inductive X where
 | t (t : Tmp)
 | c (c : CV)
def RS.val (s : RS) : X → AV
 | .t t => s.e.get t
 | .c c => .v c
/-- A root's row; the row at a path from it. -/
def rowOf (e : Env) (r : Tmp) : Option (List L) :=
 match e.get r with
 | .v c => some c.row
 | _ => none
def slotAt (e : Env) (r : Tmp) (p : List (Nat × Nat)) : Option (List L) :=
 match rowOf e r with
 | some row => rowAt p row
 | none => none
/-- n leaves of a row as a value. -/
def cellsOf (row : List L) (o n : Nat) (agg : Bool) : Option CV :=
 if agg then (if o + n ≤ row.length then some (.agg ((row.drop o).take n)) else none)
 else match row[o]? with
  | some l => some (.leaf l)
  | none => none
/-- The value that a slot stands for. -/
def RS.look (s : RS) : AV → Option CV
 | .v c => some c
 | .ld r p o n agg =>
  if clean s.d r p o n then
   match slotAt s.e r p with
   | some row => cellsOf row o n agg
   | none => none
  else none
 | _ => none
/-- A root with other leaves at a place. -/
def RS.poke (s : RS) (r : Tmp) (p : List (Nat × Nat)) (o : Nat) (ls : List L) : Option RS :=
 match s.e.get r with
 | .v c => match rowAt p c.row with
  | some row => some (s.set r (.v (c.withRow (setRow p c.row (patch row o ls)))))
  | none => none
 | _ => none
/-- The value that an operand stands for, taken from where it lies. -/
def RS.take (s : RS) : X → Option (CV × RS)
 | .c c => some (c, s)
 | .t t =>
  match s.e.get t with
  | .v (.pbox _ _) => none
  | .v .gone => none
  | .v c => if c.shal then some (c, s) else some (c, s.put t .bad)
  | .ld r p o n agg =>
   match s.look (.ld r p o n agg) with
   | some c => if c.shal then some (c, s) else
    match s.poke r p o (unownR c.row) with
    | some s' => some (c, s'.mark r p o n)
    | none => none
   | none => none
  | _ => none

end Go.VS

/- The value-semantics evaluator: operations, code, functions. -/
namespace Go.VS
open Go
set_option linter.unusedSimpArgs false
set_option linter.unusedVariables false

inductive Mode where
 | V
 | O
 | M
 deriving DecidableEq

inductive EK where
 | int
 | str
 | bool
/-- An operation, its types looked up: sizes in cells, zero rows, widths in bytes. -/
inductive VOp where
 | mv (d : Tmp) (x : X)
 | asg (d : Tmp) (x : X)
 | bad (d : Tmp)
 | pick (d : Tmp) (c a b : X)
 | alloc (d : Tmp) (zs : List L)
 | box (d : Tmp) (x : X)
 | boxM (d : Tmp) (t : Tmp)
 | build (d : Tmp) (zs : List L) (parts : List (Nat × Nat × X))
 | mk (d : Tmp) (zs : List L) (n : Nat) (parts : List (Nat × X))
 | load (d : Tmp) (x : X) (n : Nat) (agg : Bool)
 | store (a x : X) (n : Nat)
 | nil (d : Tmp) (x : X)
 | bin (d : Tmp) (op : BinOp) (x y : X)
 | eqs (d : Tmp) (neg : Bool) (es : List EK) (x y : X)
 | eqb (d : Tmp) (neg : Bool) (x y : X)
 | un (d : Tmp) (op : UnOp) (x : X)
 | conv (d : Tmp) (k : IntKind) (x : X)
 | bytes (d : Tmp) (x : X)
 | make (d : Tmp) (zs : List L) (bytes : Nat) (l c : X)
 | subStr (d : Tmp) (x : X) (lo hi : Option X)
 | subSl (d : Tmp) (x : X) (lo hi : Option X) (sz : Nat)
 | fld (d : Tmp) (x : X) (off : Nat)
 | idx (d : Tmp) (x i : X) (sz : Nat)
 | byte (d : Tmp) (x i : X)
 | len (d : Tmp) (x : X) (str : Bool)
 | app (d : Tmp) (s y : X) (sz bytes : Nat) (str : Bool)
 | min (d : Tmp) (x y : X)
 | max (d : Tmp) (x y : X)
 | call (d : Tmp) (f : FuncId) (args : List X)
 | mkf (d : Tmp) (f : FuncId) (xs : List X)
 | stop (d : Option Tmp)
 | cut0 (d : Tmp) (x : X) (sz : Nat)
 | callD (d : Tmp) (x : X) (args : List X)
 | ext (d : Tmp) (x : X) (i : Nat)

/-- An argument before the call: seen only (and the root that owns its memory); lent to be written into (root, path, column); to be given away. -/
inductive Arg where
 | v (c : CV) (r : Option Tmp)
 | m (c : CV) (r : Tmp) (p : List (Nat × Nat)) (o : Nat)
 | o

/-- How a function takes its arguments; does its result hold only what is its own? -/
structure Sig where
 modes : List Mode
 own : Bool
abbrev Sigs := FuncId → Option Sig
/-- What a function answers: its results; what became of the arguments that it may write into. -/
abbrev Fns := FuncId → List CV → Option (List CV × List CV)

def vbin (op : BinOp) : L → L → Option L
 | .int k a, .int k' b =>
  match op with
  | .shl => if b < 0 then none else some (.int k (k.wrap (a * 2 ^ (Nat.min b.toNat k.bits))))
  | .shr => if b < 0 then none else some (.int k (a.fdiv (2 ^ (Nat.min b.toNat k.bits))))
  | _ =>
   if k = k' then
    match op with
    | .add => some (.int k (k.wrap (a + b)))
    | .sub => some (.int k (k.wrap (a - b)))
    | .mul => some (.int k (k.wrap (a * b)))
    | .quo => if b = 0 then none else some (.int k (k.wrap (a.tdiv b)))
    | .rem => if b = 0 then none else some (.int k (a.tmod b))
    | .and => some (.int k (k.wrap (BitVec.ofInt k.bits a &&& BitVec.ofInt k.bits b).toNat))
    | .or => some (.int k (k.wrap (BitVec.ofInt k.bits a ||| BitVec.ofInt k.bits b).toNat))
    | .xor => some (.int k (k.wrap (BitVec.ofInt k.bits a ^^^ BitVec.ofInt k.bits b).toNat))
    | .eql => some (.bool (a == b))
    | .neq => some (.bool (a != b))
    | .lss => some (.bool (a < b))
    | .leq => some (.bool (a ≤ b))
    | .gtr => some (.bool (a > b))
    | .geq => some (.bool (a ≥ b))
    | _ => none
   else none
 | .str a, .str b =>
  match op with
  | .add => if ((a.size + b.size : Nat) : Int) ≤ 9223372036854775807 then some (.str (a ++ b)) else none
  | .eql => some (.bool (a.toList == b.toList))
  | .neq => some (.bool (!(a.toList == b.toList)))
  | .lss => some (.bool (Op.bytesLess a.toList b.toList))
  | .leq => some (.bool (Op.bytesLess a.toList b.toList || a.toList == b.toList))
  | .gtr => some (.bool (!(Op.bytesLess a.toList b.toList || a.toList == b.toList)))
  | .geq => some (.bool (!Op.bytesLess a.toList b.toList))
  | _ => none
 | _, _ => none
/-- Two structs of numbers, texts and bools, of these kinds: are they alike? -/
def eqLs : List EK → List L → List L → Option Bool
 | [], [], [] => some true
 | .int :: es, .int k a :: xs, .int k' b :: ys => if k = k' then (eqLs es xs ys).map fun r => (a == b) && r else none
 | .str :: es, .str a :: xs, .str b :: ys => (eqLs es xs ys).map fun r => (a.toList == b.toList) && r
 | .bool :: es, .bool a :: xs, .bool b :: ys => (eqLs es xs ys).map fun r => (a == b) && r
 | _, _, _ => none
def bytesOf : List (List L) → Option (List UInt8)
 | [] => some []
 | [.int .u8 n] :: rs => (bytesOf rs).map fun l => UInt8.ofNat n.toNat :: l
 | _ => none
def strRows (s : ByteArray) : List (List L) := s.data.toList.map fun b => [L.int .u8 b.toNat]

def RS.int (s : RS) (x : X) : Option (IntKind × Int) :=
 match s.look (s.val x) with
 | some (.leaf (.int k n)) => some (k, n)
 | _ => none
/-- A number, a text or a bool as the model's value, and back. -/
def L.scalar : L → Option Value
 | .int k n => some (.int k n)
 | .bool b => some (.bool b)
 | .str s => some (.string s)
 | _ => none
def capL : Value → L
 | .int k n => .int k n
 | .bool b => .bool b
 | .string s => .str s
 | _ => .bad
def scalars : List L → Option (List Value)
 | [] => some []
 | l :: ls => match l.scalar, scalars ls with
  | some v, some vs => some (v :: vs)
  | _, _ => none
def X.isT (r : Tmp) : X → Bool
 | .t q => q == r
 | .c _ => false
/-- The slot that holds a function made on the spot with a box of its own. -/
def RS.cloOf (s : RS) : X → Option Tmp
 | .c _ => none
 | .t t => match s.e.get t with
  | .v _ => some t
  | .ld r [] 0 1 false => if clean s.d r [] 0 1 = true then some r else none
  | _ => none
/-- What a function that is made on the spot sees of what is around it. -/
def RS.caps (s : RS) : List X → Option (List Value)
 | [] => some []
 | x :: xs => match s.look (s.val x) with
  | some (.leaf l) => match l.scalar, s.caps xs with
   | some v, some vs => some (v :: vs)
   | _, _ => none
  | _ => none
/-- A bound of a slice expression. -/
def RS.bound (s : RS) (dflt : Nat) : Option X → Option Nat
 | none => some dflt
 | some x => match s.int x with
  | some (_, n) => if 0 ≤ n then some n.toNat else none
  | none => none
/-- The parts of a composite, taken one by one and laid over rows (each 'sz' wide) of a list. -/
def RS.parts (s : RS) : List (Nat × Nat × X) → List L → Option (List L × RS)
 | [], row => some (row, s)
 | (o, n, x) :: ps, row =>
  match s.take x with
  | some (c, s') => if c.flat = true ∧ c.row.length = n ∧ o + n ≤ row.length then s'.parts ps (patch row o c.row) else none
  | _ => none
def RS.rows (s : RS) (sz : Nat) : List (Nat × X) → List (List L) → Option (List (List L) × RS)
 | [], rows => some (rows, s)
 | (i, x) :: ps, rows =>
  match s.take x with
  | some (c, s') => if c.flat = true ∧ c.row.length = sz ∧ i < rows.length then s'.rows sz ps (rows.set i c.row) else none
  | _ => none
/-- The place that an address means. -/
def RS.place (s : RS) : X → Option (Tmp × List (Nat × Nat) × Nat)
 | .c _ => none
 | .t t =>
  match s.e.get t with
  | .v (.box _) => some (t, [], 0)
  | .v (.pbox _ _) => some (t, [], 0)
  | .ptr r p o => if cleanP s.d r p then some (r, p, o) else none
  | _ => none
/-- An argument that is seen only. -/
def RS.argV (s : RS) : X → Option Arg
 | .c c => if c.flat then some (.v c.freeze none) else none
 | .t t =>
  match s.look (s.e.get t) with
  | some c => if c.flat then
    if c.shal then some (.v c.freeze none) else
    match s.e.get t with
    | .v _ => some (.v c.freeze (some t))
    | .ld r _ _ _ _ => some (.v c.freeze (some r))
    | _ => none
   else none
  | none => none
def shalO : Option CV → Bool
 | some c => c.shal
 | none => false
/-- An argument that is lent; one that owns nothing is only seen. -/
def RS.argM (s : RS) : X → Option Arg
 | .c _ => none
 | .t t =>
  if shalO (s.look (s.e.get t)) = true then s.argV (.t t) else
  match s.e.get t with
  | .v (.box row) => some (.m (.box row) t [] 0)
  | .v (.leaf l) => some (.m (.leaf l) t [] 0)
  | .v (.agg ls) => some (.m (.agg ls) t [] 0)
  | .ptr r [] 0 => if cleanP s.d r [] then match s.e.get r with
   | .v (.box row) => some (.m (.box row) r [] 0)
   | _ => none
   else none
  | .ld r p o n agg =>
   match s.look (.ld r p o n agg) with
   | some c => some (.m c r p o)
   | none => none
  | _ => none
def RS.seen (s : RS) : List Mode → List X → Option (List Arg)
 | [], [] => some []
 | m :: ms, x :: xs =>
  match (match m with | .V => s.argV x | .M => s.argM x | .O => some .o), s.seen ms xs with
  | some a, some as => some (a :: as)
  | _, _ => none
 | _, _ => none
def rootsV : List Arg → List Tmp
 | [] => []
 | .v _ (some r) :: as => r :: rootsV as
 | _ :: as => rootsV as
def rootsM : List Arg → List Tmp
 | [] => []
 | .m _ r _ _ :: as => r :: rootsM as
 | _ :: as => rootsM as
/-- Roots out of reach. -/
def RS.hide (s : RS) (rs : List Tmp) : RS := ⟨s.e.del rs, rs.map (fun r => (r, [], 0, 0)) ++ s.d⟩
/-- What the callee gets: what is given away is taken. -/
def RS.given (s : RS) : List Arg → List X → Option (List CV × RS)
 | [], [] => some ([], s)
 | .v c _ :: as, _ :: xs => match s.given as xs with
  | some (cs, s') => some (c :: cs, s')
  | none => none
 | .m c _ _ _ :: as, _ :: xs => match s.given as xs with
  | some (cs, s') => some (c :: cs, s')
  | none => none
 | .o :: as, x :: xs => match s.take x with
  | some (c, s1) => if c.flat then match s1.given as xs with
    | some (cs, s') => some (c :: cs, s')
    | none => none
   else none
  | none => none
 | _, _ => none
/-- A root that was lent, with what came back. (Boxes only.) -/
def lent (cr : CV) (p : List (Nat × Nat)) (o : Nat) (c c' : CV) : Option (CV × Nat) :=
 match c, c' with
 | .box row, .box row' => if row'.length = row.length then some (.box row', row.length + 1) else none
 | _, _ => none
/-- The slots behind a call: s0 before it. -/
def RS.back (s0 s : RS) : List Arg → List CV → Option RS
 | [], [] => some s
 | .v _ none :: as, _ :: cs => s0.back s as cs
 | .o :: as, _ :: cs => s0.back s as cs
 | .v _ (some r) :: as, _ :: cs => s0.back (s.set r (s0.e.get r)) as cs
 | .m c r p o :: as, c' :: cs => match s0.e.get r with
  | .v cr => match lent cr p o c c' with
   | some (cr', n) => s0.back ((s.set r (.v cr')).mark r [] 0 n) as cs
   | none => none
  | _ => none
 | _, _ => none
def nodup : List Tmp → Bool
 | [] => true
 | t :: ts => !ts.contains t && nodup ts
/-- A call whose arguments are taken by these modes: results, what became of the arguments, how these were taken, the slots. -/
def RS.core (s : RS) (F : Fns) (f : FuncId) (own : Bool) (modes : List Mode) (args : List X) : Option (List CV × List CV × List Arg × RS) :=
 match s.seen modes args with
 | some as =>
  if nodup (rootsM as) = true ∧ (rootsM as).all (fun r => !(rootsV as).contains r) = true ∧ (own = true ∨ rootsV as = []) then
   match (s.hide (rootsM as ++ rootsV as)).given as args with
   | some (cs, s1) => match F f cs with
    | some (res, outs) => match s.back ⟨s1.e, s1.d.take (s1.d.length - ((rootsM as).length + (rootsV as).length + s.d.length)) ++ s.d⟩ as outs with
     | some s2 => some (res, outs, as, s2)
     | none => none
    | none => none
   | none => none
  else none
 | none => none
/-- The first argument that is lent, is no box and owns something. -/
def RS.lendAt (s : RS) : List Mode → List X → Nat → Option (Nat × Tmp)
 | .M :: ms, .t t :: xs, j => match s.look (s.e.get t) with
  | some c => if c.flat = true ∧ c.shal = false then some (j, t) else s.lendAt ms xs (j + 1)
  | none => s.lendAt ms xs (j + 1)
 | _ :: ms, _ :: xs, j => s.lendAt ms xs (j + 1)
 | _, _, _ => none
/-- How wide the rows are along a path. -/
def pathSz : List (Nat × Nat) → List L → List Nat
 | [], _ => []
 | (c, i) :: p, row => match row[c]? with
  | some (.sl _ sz rows) => match rows[i]? with
   | some r => sz :: pathSz p r
   | none => []
  | _ => []
/-- What was taken from where a slot stands for is laid there again. -/
def RS.relay (s0 s : RS) (ms : List Tmp) (t : Tmp) (c : CV) : AV → Option RS
 | .v _ => if c.flat = true then some (s.put t (.v c)) else none
 | .ld r p o n _ => match slotAt s.e r p, rowOf s0.e r, rowOf s.e r with
  | some row, some r0, some r2 => if c.flat = true ∧ c.row.length = n ∧ o + n ≤ row.length ∧ ms.contains r = false ∧ pathSz p r0 = pathSz p r2 ∧ noS c.row = true then match s.poke r p o c.row with
    | some s' => some (s'.mark r p o n)
    | none => none
   else none
  | _, _, _ => none
 | _ => none
/-- What a slot held, for good unchanged. -/
def frz : AV → AV
 | .v c => if c.flat then .v c.freeze else .bad
 | _ => .bad
def fz1 (s : RS) : Arg → X → RS
 | .v c (some r), .t t => (s.put r (frz (s.e.get r))).put t (.v c)
 | .v _ (some _), .c _ => s
 | .v _ none, _ => s
 | .m _ _ _ _, _ => s
 | .o, _ => s
def RS.fzA : RS → List Arg → List X → RS
 | s, a :: as, x :: xs => RS.fzA (fz1 s a x) as xs
 | s, [], _ => s
 | s, _ :: _, [] => s
def RS.fzO (s : RS) (xs : List X) : Option (List Arg) → RS
 | some as => s.fzA as xs
 | none => s
/-- Ahead of a call whose results may lean on what it sees: what it sees and a slot owns is given up for good. -/
def RS.fzV (s : RS) (own : Bool) (ms : List Mode) (xs : List X) : RS := if own = true then s else s.fzO xs (s.seen ms xs)
/-- A call, up to its results. An argument that is lent and is no box is taken, and laid back as it comes out. -/
def RS.call (s : RS) (G : Sigs) (F : Fns) (f : FuncId) (args : List X) : Option (List CV × RS) :=
 match G f with
 | some g => match s.lendAt g.modes args 0 with
  | none => match (s.fzV g.own g.modes args).core F f g.own g.modes args with
   | some (res, _, _, s2) => some (res, s2)
   | none => none
  | some (j, t) => match s.core F f g.own (g.modes.set j .O) args with
   | some (res, outs, as, s2) => match outs[j]? with
    | some c => match s.relay s2 (rootsM as) t c (s.e.get t) with
     | some s3 => some (res, s3)
     | none => none
    | none => none
   | none => none
 | none => none

def vop (G : Sigs) (F : Fns) (s : RS) : VOp → Option RS
 | .mv d x =>
  match s.val x with
  | .v c =>
   if c.shal then some (s.put d (.v c)) else
   match x with
   | .t t => match c with
    | .box _ => some (s.put d (.ptr t [] 0))
    | .pbox _ _ => some (s.put d (.ptr t [] 0))
    | .leaf _ => some (s.put d (.ld t [] 0 1 false))
    | .agg ls => some (s.put d (.ld t [] 0 ls.length true))
    | .gone => none
   | .c _ => some (s.put d (.v c))
  | .ld r p o n a => some (s.put d (.ld r p o n a))
  | .ptr r p o => some (s.put d (.ptr r p o))
  | .iptr row o => some (s.put d (.iptr row o))
  | .un => some (s.put d .un)
  | .tup cs => match x with
   | .t t => if d = t then none else some ((s.put t .bad).put d (.tup cs))
   | .c _ => none
  | _ => none
 | .asg d x =>
  match s.val x with
  | .ptr r p o => some (s.put d (.ptr r p o))
  | .iptr row o => some (s.put d (.iptr row o))
  | _ => match s.take x with
   | some (c, s') => some (s'.put d (.v c))
   | none => none
 | .bad d => some (s.put d .bad)
 | .pick d c a b =>
  match s.look (s.val c) with
  | some (.leaf (.bool t)) => match s.look (s.val (if t then a else b)) with
   | some v => if v.shal then some (s.put d (.v v)) else none
   | none => none
  | _ => none
 | .alloc d zs => some (s.put d (.v (.box zs)))
 | .box d x =>
  match s.take x with
  | some (.leaf l, s') => if noS [l] = true then some (s'.put d (.v (.box [l]))) else none
  | some (.agg ls, s') => if noS ls = true then some (s'.put d (.v (.box ls))) else none
  | _ => none
 | .boxM d t =>
  match s.e.get t with
  | .v (.agg ls) => if d = t then none else some ((s.put t .bad).put d (.v (.pbox t ls)))
  | _ => none
 | .build d zs parts =>
  match s.parts parts zs with
  | some (row, s') => some (s'.put d (.v (.agg row)))
  | none => none
 | .mk d zs n parts =>
  match s.rows zs.length parts (List.replicate n zs) with
  | some (rows, s') => some (s'.put d (.v (.leaf (.sl true zs.length rows))))
  | none => none
 | .load d x n agg =>
  match s.place x with
  | some (r, p, o) => match slotAt s.e r p with
   | some row => match cellsOf row o n agg with
    | some c => if c.shal then some (s.put d (.v c)) else some (s.put d (.ld r p o n agg))
    | none => none
   | none => none
  | none => match s.val x with
   | .iptr row o => match cellsOf row o n agg with
    | some c => if c.shal then some (s.put d (.v c)) else none
    | none => none
   | _ => none
 | .store a x n =>
  match s.take x with
  | some (c, s') =>
   if c.flat = false ∨ noS c.row = false ∨ c.row.length ≠ n then none else
   match s'.place a with
   | some (r, p, o) => match slotAt s'.e r p with
    | some row => if o + n ≤ row.length ∧ (p = [] → (s'.e.get r).isBox = true) then
      match s'.poke r p o c.row with
      | some s'' => some (s''.mark r p o n)
      | none => none
     else none
    | none => none
   | none => none
  | none => none
 | .nil d x =>
  match s.val x with
  | .v (.box _) | .v (.pbox _ _) => match x with
   | .t t => some (s.put d (.ptr t [] 0))
   | .c _ => none
  | .ptr r p o => if cleanP s.d r p then some (s.put d (.ptr r p o)) else none
  | .iptr row o => some (s.put d (.iptr row o))
  | .v (.leaf (.fn f vs)) => match x with
   | .t _ => some (s.put d (.v (.leaf (.fn f vs))))
   | .c _ => none
  | _ => none
 | .bin d op x y =>
  match s.look (s.val x), s.look (s.val y) with
  | some (.leaf a), some (.leaf b) => match vbin op a b with
   | some r => some (s.put d (.v (.leaf r)))
   | none => none
  | _, _ => none
 | .eqs d neg es x y =>
  match s.look (s.val x), s.look (s.val y) with
  | some (.agg a), some (.agg b) => match eqLs es a b with
   | some r => some (s.put d (.v (.leaf (.bool (if neg then !r else r)))))
   | none => none
  | _, _ => none
 | .eqb d neg x y =>
  match s.look (s.val x), s.look (s.val y) with
  | some (.leaf (.bool a)), some (.leaf (.bool b)) => some (s.put d (.v (.leaf (.bool (if neg then !(a == b) else (a == b))))))
  | _, _ => none
 | .un d op x =>
  match s.look (s.val x) with
  | some (.leaf (.int k n)) => match op with
   | .neg => some (s.put d (.v (.leaf (.int k (k.wrap (0 - n))))))
   | _ => none
  | some (.leaf (.bool b)) => match op with
   | .not => some (s.put d (.v (.leaf (.bool (!b)))))
   | _ => none
  | _ => none
 | .conv d k x =>
  match s.int x with
  | some (_, n) => some (s.put d (.v (.leaf (.int k (k.wrap n)))))
  | none => none
 | .bytes d x =>
  match s.look (s.val x) with
  | some (.leaf (.sl _ 1 rows)) => match bytesOf rows with
   | some l => some (s.put d (.v (.leaf (.str ⟨l.toArray⟩))))
   | none => none
  | _ => none
 | .make d zs bytes l c =>
  match s.int l, s.int c with
  | some (_, n), some (_, m) =>
   if 0 ≤ n ∧ n ≤ m ∧ (bytes : Int) * m ≤ 281474976710656 ∧ m ≤ 9223372036854775807 then
    some (s.put d (.v (.leaf (.sl true zs.length (List.replicate n.toNat zs)))))
   else none
  | _, _ => none
 | .subStr d x lo hi =>
  match s.look (s.val x) with
  | some (.leaf (.str a)) => match s.bound 0 lo, s.bound a.size hi with
   | some l, some h => if l ≤ h ∧ h ≤ a.size then some (s.put d (.v (.leaf (.str (a.extract l h))))) else none
   | _, _ => none
  | _ => none
 | .subSl d x lo hi sz0 =>
  match s.look (s.val x) with
  | some (.leaf (.sl o sz rows)) => match s.bound 0 lo, s.bound rows.length hi with
   | some l, some h => if sz = sz0 ∧ l ≤ h ∧ h ≤ rows.length then
     (if o then
      match (match x with
       | .t t => match s.e.get t with
        | .v (.leaf _) => some (t, [], 0)
        | .ld r p c _ _ => some (r, p, c)
        | _ => none
       | .c _ => none : Option (Tmp × List (Nat × Nat) × Nat)) with
      | some (r, p, c) => match s.poke r p c [.sl false sz (freezeRR rows)] with
       | some s' => some ((s'.mark r p c 1).put d (.v (.leaf (.sl false sz (((freezeRR rows).take h).drop l)))))
       | none => none
      | none => none
     else some (s.put d (.v (.leaf (.sl false sz ((rows.take h).drop l))))))
    else none
   | _, _ => none
  | _ => none
 | .fld d x off =>
  match s.val x with
  | .v (.box _) | .v (.pbox _ _) => match x with
   | .t t => some (s.put d (.ptr t [] off))
   | .c _ => none
  | .ptr r p o => if cleanP s.d r p then some (s.put d (.ptr r p (o + off))) else none
  | .iptr row o => some (s.put d (.iptr row (o + off)))
  | _ => none
 | .idx d x i sz0 =>
  match s.int i with
  | some (_, n) =>
   match s.look (s.val x) with
   | some (.leaf (.sl own sz rows)) =>
    if 0 ≤ n ∧ sz = sz0 then
     match rows[n.toNat]? with
     | some row =>
      if own then
       match x with
       | .t t => match s.e.get t with
        | .v _ => some (s.put d (.ptr t [(0, n.toNat)] 0))
        | .ld r p o _ _ => some (s.put d (.ptr r (p ++ [(o, n.toNat)]) 0))
        | _ => none
       | .c _ => none
      else some (s.put d (.iptr row 0))
     | none => none
    else none
   | _ => none
  | none => none
 | .byte d x i =>
  match s.int i, s.look (s.val x) with
  | some (_, n), some (.leaf (.str a)) =>
   if 0 ≤ n then
    match a.data[n.toNat]? with
    | some b => some (s.put d (.v (.leaf (.int .u8 b.toNat))))
    | none => none
   else none
  | _, _ => none
 | .len d x str =>
  match s.look (s.val x) with
  | some (.leaf (.sl _ _ rows)) => if str then none else some (s.put d (.v (.leaf (.int .i64 rows.length))))
  | some (.leaf (.str a)) => if str then some (s.put d (.v (.leaf (.int .i64 a.size)))) else none
  | _ => none
 | .app d x y sz bytes str =>
  match s.take x with
  | some (.leaf (.sl true sz' rows), s1) =>
   match s1.look (s1.val y) with
   | some (.leaf (.str a)) =>
    if str = true ∧ sz' = sz ∧ sz = 1 ∧ (rows.length + a.size) * bytes ≤ 140737488355328 then some (s1.put d (.v (.leaf (.sl true sz (rows ++ strRows a))))) else none
   | some (.leaf (.sl false sz2 rows2)) =>
    if str = false ∧ sz' = sz ∧ sz2 = sz ∧ (rows.length + rows2.length) * bytes ≤ 140737488355328 then some (s1.put d (.v (.leaf (.sl true sz (rows ++ rows2))))) else none
   | some (.leaf (.sl true _ _)) =>
    match s1.take y with
    | some (.leaf (.sl _ sz2 rows2), s2) =>
     if str = false ∧ sz' = sz ∧ sz2 = sz ∧ (rows.length + rows2.length) * bytes ≤ 140737488355328 then some (s2.put d (.v (.leaf (.sl true sz (rows ++ rows2))))) else none
    | _ => none
   | _ => none
  | _ => none
 | .min d x y =>
  match s.int x, s.int y with
  | some (k, a), some (_, b) => some (s.put d (.v (.leaf (.int k (if b < a then b else a)))))
  | _, _ => none
 | .max d x y =>
  match s.int x, s.int y with
  | some (k, a), some (_, b) => some (s.put d (.v (.leaf (.int k (if a < b then b else a)))))
  | _, _ => none
 | .call d f args =>
  match s.call G F f args with
  | some ([c], s2) => some (s2.put d (.v c))
  | some (res, s2) => some (s2.put d (.tup res))
  | none => none
 | .stop _ => none
 | .cut0 d x sz =>
  match s.look (s.val x) with
  | some (.leaf (.sl _ sz' _)) => if sz' = sz then some (s.put d (.v (.leaf (.sl true sz [])))) else none
  | _ => none
 | .mkf d f xs =>
  match s.caps xs with
  | some vs => some (s.put d (.v (.leaf (.fn f vs))))
  | none => match xs with
   | [x] => match s.take x with
    | some (.box row, s') => match scalars row with
     | some vals => some (s'.put d (.v (.leaf (.clo f vals))))
     | none => none
    | _ => none
   | _ => none
 | .callD d x args =>
  match s.look (s.val x) with
  | some (.leaf (.fn f vs)) => match s.call G F f (args ++ vs.map fun v => X.c (.leaf (capL v))) with
   | some ([c], s2) => some (s2.put d (.v c))
   | some (res, s2) => some (s2.put d (.tup res))
   | none => none
  | some (.leaf (.clo _ _)) => match s.cloOf x with
   | some r => match s.e.get r with
    | .v (.leaf (.clo f vals)) => if r ≠ d ∧ (args.all fun y => !y.isT r) = true then
      match (s.put r (.v (.box (vals.map capL)))).call G F f (args ++ [.t r]) with
      | some (res, s2) => match s2.e.get r with
       | .v (.box row) => match scalars row with
        | some vals2 => match res with
         | [c] => some ((s2.put r (.v (.leaf (.clo f vals2)))).put d (.v c))
         | res => some ((s2.put r (.v (.leaf (.clo f vals2)))).put d (.tup res))
        | none => none
       | _ => none
      | none => none
     else none
    | _ => none
   | none => none
  | _ => none
 | .ext d x i =>
  match x with
  | .t t => match s.e.get t with
   | .tup cs => match cs[i]? with
    | some c => if c.shal then some (s.put d (.v c)) else some ((s.put t (.tup (cs.set i .gone))).put d (.v c))
    | none => none
   | _ => none
  | .c _ => none

def VOp.dst : VOp → Option Tmp
 | .mv d _ | .asg d _ | .bad d | .pick d _ _ _ | .alloc d _ | .box d _ | .boxM d _ | .build d _ _ | .mk d _ _ _ | .load d _ _ _ | .nil d _ | .bin d _ _ _ | .eqs d _ _ _ _ | .eqb d _ _ _ | .un d _ _ | .conv d _ _ | .bytes d _
 | .make d _ _ _ _ | .subStr d _ _ _ | .subSl d _ _ _ _ | .fld d _ _ | .idx d _ _ _ | .byte d _ _ | .len d _ _ | .app d _ _ _ _ _ | .min d _ _ | .max d _ _ | .call d _ _ | .mkf d _ _ | .callD d _ _ | .cut0 d _ _ | .ext d _ _ => some d
 | .store _ _ _ => none
 | .stop d => d

/-- An operation with its guard: the slot that must hold that bool. -/
structure GOp where
 g : Option (Tmp × Bool)
 o : VOp
def gop (G : Sigs) (F : Fns) (s : RS) (o : GOp) : Option RS :=
 match o.g with
 | none => vop G F s o.o
 | some (t, want) =>
  match s.e.get t with
  | .v (.leaf (.bool b)) => if b = want then vop G F s o.o else match o.o.dst with
   | some d => some (s.put d .un)
   | none => some s
  | .un => match o.o.dst with
   | some d => some (s.put d .un)
   | none => some s
  | _ => none
def gops (G : Sigs) (F : Fns) : List GOp → RS → Option RS
 | [], s => some s
 | o :: os, s => match gop G F s o with
  | some s' => gops G F os s'
  | none => none

/-- An operation of a region whose order is left open: is it calm (it only lays a value that owns nothing)? Between how many of the loud ones may it be done? -/
structure DOp where
 o : GOp
 calm : Bool
 lo : Nat
 hi : Nat
def DOp.dstC (q : DOp) : Option Tmp := if q.calm then q.o.o.dst else none
def calmT : List DOp → List Tmp
 | [] => []
 | q :: qs => match q.dstC with
  | some d => d :: calmT qs
  | none => calmT qs
def AV.calmA (cs : List Tmp) : AV → Bool
 | .v c => c.shal
 | .tup _ => false
 | .ptr r _ _ => !cs.contains r
 | .ld r _ _ _ _ => !cs.contains r
 | _ => true
def Env.noroot (cs : List Tmp) : Env → Bool
 | [] => true
 | (_, .ptr r _ _) :: e => !cs.contains r && Env.noroot cs e
 | (_, .ld r _ _ _ _) :: e => !cs.contains r && Env.noroot cs e
 | _ :: e => Env.noroot cs e
/-- All that the calm ones yield, laid ahead. -/
def lay (S : RS) : List Tmp → RS → RS
 | [], s => s
 | t :: ts, s => lay S ts (s.put t (S.e.get t))
/-- Behind k loud ones each calm one that may be done there yields what it yields in the text's order. -/
def stage (G : Sigs) (F : Fns) (S T : RS) (k : Nat) : List DOp → Prop
 | [] => True
 | q :: qs => (q.calm = true → q.lo ≤ k → k ≤ q.hi → match q.o.o.dst with
   | some d => T.e.get d = S.e.get d ∧ gop G F T q.o = some (T.put d (S.e.get d))
   | none => False) ∧ stage G F S T k qs
open Classical in
noncomputable def runL (G : Sigs) (F : Fns) (S : RS) (all : List DOp) : List DOp → Nat → RS → Option RS
 | [], k, T => if stage G F S T k all then some T else none
 | q :: qs, k, T =>
  if q.calm = true then runL G F S all qs k T else
  if stage G F S T k all then match gop G F T q.o with
   | some T' => runL G F S all qs (k + 1) T'
   | none => none
  else none
noncomputable def draw (G : Sigs) (F : Fns) (qs : List DOp) (s : RS) : Option RS :=
 match gops G F (qs.map (·.o)) s with
 | some S => if ((calmT qs).all fun t => (S.e.get t).calmA (calmT qs)) = true ∧ s.e.noroot (calmT qs) = true then runL G F S qs qs 0 (lay S (calmT qs) s) else none
 | none => none

/-- At a region's end: what stands for a place that has changed, or is not kept, is struck. -/
def AV.keepRef (d : List Dirt) (live : List Tmp) : AV → AV
 | .ptr r p o => if cleanP d r p = true ∧ live.contains r = true then .ptr r p o else .bad
 | .ld r p o n g => if clean d r p o n = true ∧ live.contains r = true then .ld r p o n g else .bad
 | av => av
def Env.keepV (d : List Dirt) (live : List Tmp) : Env → Env
 | [] => []
 | (k, v) :: e => if live.contains k = true then (k, v.keepRef d live) :: Env.keepV d live e else Env.keepV d live e
/-- At a region's end only some slots are kept: what such a slot stands for in a root that is not kept is taken. -/
def RS.fin (s : RS) (live : List Tmp) : List Tmp → Option RS
 | [] => some ⟨Env.keepV s.d live s.e, []⟩
 | t :: ts =>
  match s.e.get t with
  | .ld r _ _ _ _ => if live.contains r = false then
    match s.take (.t t) with
    | some (c, s') => (s'.put t (.v c)).fin live ts
    | none => none
   else s.fin live ts
  | .ptr r [] 0 =>
   if live.contains r = false ∧ cleanP s.d r [] = true ∧ r ≠ t then
    match s.e.get r with
    | .v (.box row) => ((s.put r .bad).put t (.v (.box row))).fin live ts
    | _ => none
   else s.fin live ts
  | _ => s.fin live ts

inductive VC where
 | skip
 | region (ops : List GOp) (live : List Tmp)
 | draw (qs : List DOp) (live : List Tmp)
 | seq (a b : VC)
 | cond (x : X) (a b : VC)
 | block (id : Nat) (b : VC)
 | loop (b : VC)
 | exit (id : Nat)
 | ret
inductive VX where
 | normal
 | exit (id : Nat)
 | ret

/-- A loop's rounds, so many at most. -/
def iter (f : Env → Option (VX × Env)) : Nat → Env → Option (VX × Env)
 | 0, _ => none
 | n + 1, e => match f e with
  | some (.normal, e') => iter f n e'
  | r => r
noncomputable def ex (G : Sigs) (F : Fns) (n : Nat) : VC → Env → Option (VX × Env)
 | .skip, e => some (.normal, e)
 | .region ops live, e => match gops G F ops ⟨e, []⟩ with
  | some s => match s.fin live live with
   | some s' => some (.normal, s'.e)
   | none => none
  | none => none
 | .draw qs live, e => match draw G F qs ⟨e, []⟩ with
  | some s => match s.fin live live with
   | some s' => some (.normal, s'.e)
   | none => none
  | none => none
 | .seq a b, e => match ex G F n a e with
  | some (.normal, e') => ex G F n b e'
  | r => r
 | .cond x a b, e => match (RS.mk e []).look ((RS.mk e []).val x) with
  | some (.leaf (.bool t)) => if t then ex G F n a e else ex G F n b e
  | _ => none
 | .block id b, e => match ex G F n b e with
  | some (.exit id', e') => if id' = id then some (.normal, e') else some (.exit id', e')
  | r => r
 | .loop b, e => iter (ex G F n b) n e
 | .exit id, e => some (.exit id, e)
 | .ret, e => some (.ret, e)

/-- A result: a slot, or what lies in a box. -/
inductive RX where
 | tmp (t : Tmp)
 | cell (t : Tmp) (n : Nat) (agg : Bool)
structure VFn where
 sig : Sig
 body : VC
 res : List RX
def params : Nat → List CV → Env
 | _, [] => []
 | i, c :: cs => (i, .v c) :: params (i + 1) cs
def RS.results (s : RS) : List RX → Option (List CV × RS)
 | [] => some ([], s)
 | .tmp t :: rs => match s.take (.t t) with
  | some (c, s') => match s'.results rs with
   | some (cs, s'') => some (c :: cs, s'')
   | none => none
  | none => none
 | .cell t n agg :: rs => match s.e.get t with
  | .v (.box row) => if row.length = n then match cellsOf row 0 n agg with
    | some c => match (s.put t .bad).results rs with
     | some (cs, s'') => some (c :: cs, s'')
     | none => none
    | none => none
   else none
  | _ => none
def out (e : Env) (i : Nat) : Mode → Option CV
 | .M => match e.get i with
  | .v (.leaf l) => some (.leaf l)
  | .v (.agg ls) => some (.agg ls)
  | .v (.box row) => some (.box row)
  | .bad => match e.boxOf i e with
   | some row => some (.agg row)
   | none => none
  | _ => none
 | _ => some .gone
def outs (e : Env) : Nat → List Mode → Option (List CV)
 | _, [] => some []
 | i, m :: ms =>
  match out e i m with
  | some c => match outs e (i + 1) ms with
   | some cs => some (c :: cs)
   | none => none
  | none => none
noncomputable def vfn (G : Sigs) (F : Fns) (n : Nat) (f : VFn) (args : List CV) : Option (List CV × List CV) :=
 match ex G F n f.body (params 0 args) with
 | some (.normal, e) | some (.ret, e) =>
  match (RS.mk e []).results f.res with
  | some (cs, s) => match outs s.e 0 f.sig.modes with
   | some os => if f.sig.own = false ∨ (cs.all CV.free ∧ os.all CV.free) then some (cs, os) else none
   | none => none
  | none => none
 | _ => none

end Go.VS

/- How the evaluator's values lie in the model's memory. -/
namespace Go.VS
open Go
set_option linter.unusedSimpArgs false
set_option linter.unusedVariables false

/-- A leaf as the content of a cell in world w: immutable blocks are those of I; S bounds the blocks that it owns. -/
inductive RepL (w : World) (I : Nat → Prop) : L → Value → (Nat → Prop) → Prop
 | bad (v S) : RepL w I .bad v S
 | int (k n S) : RepL w I (.int k n) (.int k n) S
 | bool (b S) : RepL w I (.bool b) (.bool b) S
 | str (s S) : RepL w I (.str s) (.string s) S
 | fn (f vs S) (h : ∀ v ∈ vs, v.oneCell' = true) : RepL w I (.fn f vs) (.func (.func f) #[] vs.toArray) S
 | nil (o sz S) (a : Option Addr) (cap : Nat) (h : o = true → cap = 0) : RepL w I (.sl o sz []) (.slice a 0 cap) S
 | own (sz rows S) (b cap : Nat) (cs : Array Value) (e : TypeId) (cv : Nat → Nat → Value) (D : Nat → Nat → Nat → Prop)
   (hS : S b) (hlen : rows.length ≤ cap) (hcap : cap ≤ maxLen) (hb : w.heap[b]? = some (.cells cs e (0, 0))) (hcs : cs.size = cap * sz)
   (hsz : ∀ (i : Nat) r, rows[i]? = some r → r.length = sz)
   (hcv : ∀ i j, i < rows.length → j < sz → cs[i * sz + j]? = some (cv i j) ∧ (cv i j).oneCell' = true)
   (hD : ∀ i j x, D i j x → S x ∧ x ≠ b)
   (hdis : ∀ i j i' j' x, D i j x → D i' j' x → i = i' ∧ j = j')
   (hrep : ∀ (i j : Nat) r l, rows[i]? = some r → r[j]? = some l → RepL w I l (cv i j) (D i j)) :
   RepL w I (.sl true sz rows) (.slice (some ⟨b, 0, none⟩) rows.length cap) S
 | imm (sz rows S) (b o cap : Nat) (cv : Nat → Nat → Value)
   (hI : I b)
   (hsz : ∀ (i : Nat) r, rows[i]? = some r → r.length = sz)
   (hcv : ∀ i j, i < rows.length → j < sz → w.cell? ⟨b, o + (i * sz + j), none⟩ = some (cv i j) ∧ (cv i j).oneCell' = true)
   (hrep : ∀ (i j : Nat) r l, rows[i]? = some r → r[j]? = some l → RepL w I l (cv i j) (fun _ => False)) (hlen : rows.length ≤ cap) :
   RepL w I (.sl false sz rows) (.slice (some ⟨b, o, none⟩) rows.length cap) S
 | clo (f vals S) (b : Nat) (cs : Array Value) (e : TypeId) (hS : S b) (hb : w.heap[b]? = some (.cells cs e (0, 0))) (hsz : cs.size = vals.length)
   (hv : ∀ (j : Nat) v, vals[j]? = some v → cs[j]? = some v ∧ v.oneCell' = true) :
   RepL w I (.clo f vals) (.func (.func f) #[] #[.pointer (some ⟨b, 0, none⟩)]) S
 | self (t v S) : RepL w I (.self t) v S
 | bts (e l v S) (h : w.ownsRow 0 e 1 v l.length (Go.Lib.byteCells l)) (hS : ∀ g, v.ownBlock = some g → S g) : RepL w I (.bts e l) v S

variable {w w' : World} {I I' : Nat → Prop} {S S' : Nat → Prop} {l : L} {v : Value}


theorem owns_world {w w' : World} {e : TypeId} {v : Value} {n : Nat} {xs : List Value} (h : w.ownsRow 0 e 1 v n xs) (hw : ∀ g, v.ownBlock = some g → w'.heap[g]? = w.heap[g]?) : w'.ownsRow 0 e 1 v n xs := by
 refine ⟨h.1, ?_⟩
 rcases h.2 with h2 | ⟨g, cap, cur, rfl, h3, h4, h5⟩
 ·exact .inl h2
 ·exact .inr ⟨g, cap, cur, rfl, h3, (hw g rfl).trans h4, h5⟩
theorem RepL.mono (h : RepL w I l v S) (hI : ∀ b, I b → I' b) (hS : ∀ b, S b → S' b) : RepL w I' l v S' := by
 induction h generalizing S' with
 | bad v S => exact .bad ..
 | self t v S => exact .self ..
 | bts e l v S h1 h2 => exact .bts _ _ _ _ h1 fun g hg => hS _ (h2 g hg)
 | int => exact .int ..
 | bool => exact .bool ..
 | str => exact .str ..
 | fn f vs S h => exact .fn _ _ _ h
 | clo f vals S b cs e h1 h2 h3 h4 => exact .clo f vals _ b cs e (hS _ h1) h2 h3 h4
 | nil o sz S a cap h => exact .nil _ _ _ _ _ h
 | own sz rows S b cap cs e cv D h1 hlen hcap hb hcs hsz hcv hD hdis hrep ih =>
  exact .own sz rows S' b cap cs e cv D (hS _ h1) hlen hcap hb hcs hsz hcv (fun i j x hx => ⟨hS _ (hD i j x hx).1, (hD i j x hx).2⟩) hdis (fun i j r l hr hl => ih i j r l hr hl (fun _ h => h))
 | imm sz rows S b o cap cv h1 hsz hcv hrep hlen ih =>
  exact .imm sz rows S' b o cap cv (hI _ h1) hsz hcv (fun i j r l hr hl => ih i j r l hr hl (fun _ h => h)) hlen

/-- Another world that holds the same blocks. -/
theorem RepL.world (h : RepL w I l v S) (hw : ∀ b, S b ∨ I b → w'.heap[b]? = w.heap[b]?) : RepL w' I l v S := by
 induction h with
 | bad v S => exact .bad ..
 | self t v S => exact .self ..
 | bts e l v S h1 h2 => exact .bts _ _ _ _ (owns_world h1 fun g hg => hw g (.inl (h2 g hg))) h2
 | int => exact .int ..
 | bool => exact .bool ..
 | str => exact .str ..
 | fn f vs S h => exact .fn _ _ _ h
 | clo f vals S b cs e h1 h2 h3 h4 => exact .clo f vals _ b cs e h1 ((hw b (.inl h1)).trans h2) h3 h4
 | nil o sz S a cap h => exact .nil _ _ _ _ _ h
 | own sz rows S b cap cs e cv D h1 hlen hcap hb hcs hsz hcv hD hdis hrep ih =>
  exact .own sz rows S b cap cs e cv D h1 hlen hcap ((hw b (.inl h1)).trans hb) hcs hsz hcv hD hdis (fun i j r l hr hl => ih i j r l hr hl (fun x hx => hw x (hx.imp (fun hx => (hD i j x hx).1) id)))
 | imm sz rows S b o cap cv h1 hsz hcv hrep hlen ih =>
  exact .imm sz rows S b o cap cv h1 hsz (fun i j hi hj => by rw [World.cell?_of_block (w := w) (w' := w') (a := ⟨b, o + (i * sz + j), none⟩) (hw b (.inr h1))]; exact hcv i j hi hj)
   (fun i j r l hr hl => ih i j r l hr hl (fun x hx => hw x (.inr (hx.resolve_left id)))) hlen

/-- What owns nothing at its surface owns nothing. -/
theorem RepL.unowned (h : RepL w I l v S) (ho : l.own = false) : RepL w I l v S' := by
 cases h with
 | bad => exact .bad ..
 | self => exact .self ..
 | int => exact .int ..
 | bool => exact .bool ..
 | str => exact .str ..
 | fn f vs S h => exact .fn _ _ _ h
 | clo => cases ho
 | bts => cases ho
 | nil o sz S a cap h => exact .nil _ _ _ _ _ h
 | own => cases ho
 | imm sz rows S b o cap cv h1 hsz hcv hrep hlen => exact .imm sz rows _ b o cap cv h1 hsz hcv hrep hlen

theorem freezeR_length : ∀ r : List L, (freezeR r).length = r.length
 | [] => rfl
 | _ :: r => by simp only [freezeR, List.length_cons, freezeR_length r]
theorem freezeRR_length : ∀ r : List (List L), (freezeRR r).length = r.length
 | [] => rfl
 | _ :: r => by simp only [freezeRR, List.length_cons, freezeRR_length r]
theorem freezeR_get : ∀ (r : List L) (j : Nat), (freezeR r)[j]? = (r[j]?).map L.freeze
 | [], j => by simp [freezeR]
 | x :: r, 0 => by simp [freezeR]
 | x :: r, j + 1 => by simp [freezeR, freezeR_get r j]
theorem freezeRR_get : ∀ (r : List (List L)) (j : Nat), (freezeRR r)[j]? = (r[j]?).map freezeR
 | [], j => by simp [freezeRR]
 | x :: r, 0 => by simp [freezeRR]
 | x :: r, j + 1 => by simp [freezeRR, freezeRR_get r j]

/-- A leaf given up for good: its blocks are immutable from now on. -/
theorem RepL.freeze (h : RepL w I l v S) (hS : ∀ b, S b → I' b) (hI : ∀ b, I b → I' b) : RepL w I' l.freeze v S' := by
 induction h generalizing S' with
 | bad v S => exact .bad ..
 | self t v S => exact .bad ..
 | bts => exact .bad ..
 | int => exact .int ..
 | bool => exact .bool ..
 | str => exact .str ..
 | fn f vs S h => exact .fn _ _ _ h
 | clo => exact .bad ..
 | nil o sz S a cap h =>
  cases o
  ·exact .nil _ _ _ _ _ (fun h => by cases h)
  ·exact .nil _ _ _ _ _ (fun h => by cases h)
 | own sz rows S b cap cs e cv D h1 hlen hcap hb hcs hsz hcv hD hdis hrep ih =>
  simp only [L.freeze]
  rw [← freezeRR_length rows]
  refine .imm sz (freezeRR rows) S' b 0 cap cv (hS b h1) (fun i r hr => ?_) (fun i j hi hj => ?_) (fun i j r l hr hl => ?_) (by rw [freezeRR_length]; exact hlen)
  ·rw [freezeRR_get, Option.map_eq_some_iff] at hr
   obtain ⟨r0, hr0, rfl⟩ := hr
   rw [freezeR_length]
   exact hsz i r0 hr0
  ·rw [freezeRR_length] at hi
   have := hcv i j hi hj
   refine ⟨?_, this.2⟩
   simp only [World.cell?, hb, Nat.zero_add]
   exact this.1
  ·rw [freezeRR_get, Option.map_eq_some_iff] at hr
   obtain ⟨r0, hr0, rfl⟩ := hr
   rw [freezeR_get, Option.map_eq_some_iff] at hl
   obtain ⟨l0, hl0, rfl⟩ := hl
   exact ih i j r0 l0 hr0 hl0 (fun x hx => hS x (hD i j x hx).1)
 | imm sz rows S b o cap cv h1 hsz hcv hrep hlen ih =>
  exact .imm sz rows S' b o cap cv (hI b h1) hsz hcv (fun i j r l hr hl => (hrep i j r l hr hl).mono hI (fun _ h => h)) hlen

/-- A row of leaves behind a reader of cells. -/
def RepRow (w : World) (I : Nat → Prop) (row : List L) (get : Nat → Option Value) (S : Nat → Prop) : Prop :=
 ∃ D : Nat → Nat → Prop, (∀ j x, D j x → S x) ∧ (∀ j j' x, D j x → D j' x → j = j') ∧ ∀ (j : Nat) l, row[j]? = some l → ∃ v, get j = some v ∧ v.oneCell' = true ∧ RepL w I l v (D j)

theorem RepRow.mono {row : List L} {get : Nat → Option Value} (h : RepRow w I row get S) (hI : ∀ b, I b → I' b) (hS : ∀ b, S b → S' b) : RepRow w I' row get S' := by
 obtain ⟨D, h1, h2, h3⟩ := h
 refine ⟨D, fun j x hx => hS x (h1 j x hx), h2, fun j l hl => ?_⟩
 obtain ⟨v, a, b, c⟩ := h3 j l hl
 exact ⟨v, a, b, c.mono hI fun _ h => h⟩
theorem RepRow.world {row : List L} {get get' : Nat → Option Value} (h : RepRow w I row get S) (hg : ∀ j, j < row.length → get' j = get j) (hw : ∀ b, S b ∨ I b → w'.heap[b]? = w.heap[b]?) : RepRow w' I row get' S := by
 obtain ⟨D, h1, h2, h3⟩ := h
 refine ⟨D, h1, h2, fun j l hl => ?_⟩
 obtain ⟨v, a, b, c⟩ := h3 j l hl
 exact ⟨v, (hg j (List.getElem?_eq_some_iff.1 hl).1).trans a, b, c.world fun x hx => hw x (hx.imp (h1 j x) id)⟩
theorem RepRow.freeze {row : List L} {get : Nat → Option Value} (h : RepRow w I row get S) (hS : ∀ b, S b → I' b) (hI : ∀ b, I b → I' b) : RepRow w I' (freezeR row) get S' := by
 obtain ⟨D, h1, h2, h3⟩ := h
 refine ⟨fun _ _ => False, fun _ _ h => h.elim, fun _ _ _ h => h.elim, fun j l hl => ?_⟩
 rw [freezeR_get, Option.map_eq_some_iff] at hl
 obtain ⟨l0, hl0, rfl⟩ := hl
 obtain ⟨v, a, b, c⟩ := h3 j l0 hl0
 exact ⟨v, a, b, c.freeze (fun x hx => hS x (h1 j x hx)) hI⟩

/-- What a builder holds of itself. -/
def SelfOk (row : List L) (cs : Array Value) (b : Nat) (e : TypeId) : Prop := ∀ (j : Nat) t, row[j]? = some (L.self t) → e = t ∧ (cs[j]? = some (Value.pointer none) ∨ cs[j]? = some (Value.pointer (some ⟨b, 0, none⟩)))
theorem noS_get : ∀ {ls : List L} {j : Nat} {t : TypeId}, noS ls = true → ls[j]? ≠ some (L.self t)
 | [], j, _, _ => by simp
 | l :: ls, 0, t, h => by
  intro e
  simp at e
  subst e
  simp [noS] at h
 | l :: ls, j + 1, t, h => by
  have : noS ls = true := by cases l <;> first | exact h | simp [noS] at h
  simpa using noS_get (j := j) this
theorem SelfOk.of_none {row : List L} {cs : Array Value} {b : Nat} {e : TypeId} (h : noS row = true) : SelfOk row cs b e := fun j t hj => absurd hj (noS_get h)
/-- A value that is handed over; 'arg' tells what the parameters came in as. -/
def RepC (arg : Tmp → Value) (w : World) (I : Nat → Prop) (c : CV) (v : Value) (S : Nat → Prop) : Prop :=
 match c with
 | .leaf l => v.oneCell' = true ∧ RepL w I l v S
 | .agg ls => ∃ cs, v = .agg cs ∧ cs.size = ls.length ∧ RepRow w I ls (fun j => cs[j]?) S
 | .box row => ∃ b cs e, v = .pointer (some ⟨b, 0, none⟩) ∧ S b ∧ w.heap[b]? = some (.cells cs e (0, 0)) ∧ cs.size = row.length ∧ RepRow w I row (fun j => cs[j]?) (fun x => S x ∧ x ≠ b) ∧ SelfOk row cs b e
 | .pbox t row => ∃ b cs e, v = .pointer (some ⟨b, 0, none⟩) ∧ S b ∧ w.heap[b]? = some (.cells cs e (0, 0)) ∧ cs.size = row.length ∧ RepRow w I row (fun j => cs[j]?) (fun x => S x ∧ x ≠ b) ∧ arg t = .agg cs
 | .gone => True

variable {c : CV} {arg : Tmp → Value}
theorem RepC.mono (h : RepC arg w I c v S) (hI : ∀ b, I b → I' b) (hS : ∀ b, S b → S' b) : RepC arg w I' c v S' := by
 cases c with
 | leaf l => exact ⟨h.1, h.2.mono hI hS⟩
 | agg ls => obtain ⟨cs, h1, h2, h3⟩ := h; exact ⟨cs, h1, h2, h3.mono hI hS⟩
 | box row => obtain ⟨b, cs, e, h1, h2, h3, h4, h5, h6⟩ := h; exact ⟨b, cs, e, h1, hS b h2, h3, h4, h5.mono hI fun x hx => ⟨hS x hx.1, hx.2⟩, h6⟩
 | pbox t row => obtain ⟨b, cs, e, h1, h2, h3, h4, h5, h6⟩ := h; exact ⟨b, cs, e, h1, hS b h2, h3, h4, h5.mono hI fun x hx => ⟨hS x hx.1, hx.2⟩, h6⟩
 | gone => trivial
theorem RepC.world (h : RepC arg w I c v S) (hw : ∀ b, S b ∨ I b → w'.heap[b]? = w.heap[b]?) : RepC arg w' I c v S := by
 cases c with
 | leaf l => exact ⟨h.1, h.2.world hw⟩
 | agg ls => obtain ⟨cs, h1, h2, h3⟩ := h; exact ⟨cs, h1, h2, h3.world (fun _ _ => rfl) hw⟩
 | box row => obtain ⟨b, cs, e, h1, h2, h3, h4, h5, h6⟩ := h; exact ⟨b, cs, e, h1, h2, (hw b (.inl h2)).trans h3, h4, h5.world (fun _ _ => rfl) (fun x hx => hw x (hx.imp (·.1) id)), h6⟩
 | pbox t row => obtain ⟨b, cs, e, h1, h2, h3, h4, h5, h6⟩ := h; exact ⟨b, cs, e, h1, h2, (hw b (.inl h2)).trans h3, h4, h5.world (fun _ _ => rfl) (fun x hx => hw x (hx.imp (·.1) id)), h6⟩
 | gone => trivial
theorem RepC.freeze (h : RepC arg w I c v S) (hS : ∀ b, S b → I' b) (hI : ∀ b, I b → I' b) : RepC arg w I' c.freeze v S' := by
 cases c with
 | leaf l => exact ⟨h.1, h.2.freeze hS hI⟩
 | agg ls => obtain ⟨cs, h1, h2, h3⟩ := h; exact ⟨cs, h1, by rw [freezeR_length]; exact h2, h3.freeze hS hI⟩
 | _ => trivial

theorem ownR_get : ∀ {r : List L} {j : Nat} {l : L}, ownR r = false → r[j]? = some l → l.own = false
 | [], _, _, _, h => by simp at h
 | x :: r, 0, l, ho, h => by
  simp only [ownR, Bool.or_eq_false_iff] at ho
  simp at h
  exact h ▸ ho.1
 | x :: r, j + 1, l, ho, h => by
  simp only [ownR, Bool.or_eq_false_iff] at ho
  simp at h
  exact ownR_get ho.2 h
theorem RepRow.unowned {row : List L} {get : Nat → Option Value} (h : RepRow w I row get S) (ho : ownR row = false) : RepRow w I row get S' := by
 obtain ⟨D, h1, h2, h3⟩ := h
 refine ⟨fun _ _ => False, fun _ _ h => h.elim, fun _ _ _ h => h.elim, fun j l hl => ?_⟩
 obtain ⟨v, a, b, c⟩ := h3 j l hl
 exact ⟨v, a, b, c.unowned (ownR_get ho hl)⟩
theorem RepC.unowned (h : RepC arg w I c v S) (ho : c.shal = true) : RepC arg w I c v S' := by
 cases c with
 | leaf l => exact ⟨h.1, h.2.unowned (by simpa [CV.shal] using ho)⟩
 | agg ls => obtain ⟨cs, h1, h2, h3⟩ := h; exact ⟨cs, h1, h2, h3.unowned (by simpa [CV.shal] using ho)⟩
 | _ => cases ho

/-- Where a root's cells lie: in memory, or in the value itself. -/
inductive Base where
 | addr (b o : Nat)
 | vals (cs : Array Value)
def Base.get (w : World) : Base → Nat → Option Value
 | .addr b o, j => w.cell? ⟨b, o + j, none⟩
 | .vals cs, j => cs[j]?
def CV.base : CV → Value → Base
 | .leaf _, v => .vals #[v]
 | .agg _, .agg cs => .vals cs
 | .box _, .pointer (some a) => .addr a.block 0
 | .pbox _ _, .pointer (some a) => .addr a.block 0
 | _, _ => .vals #[]
theorem base_withRow (c : CV) (row : List L) (v : Value) : (c.withRow row).base v = c.base v := by
 cases c <;> cases v <;> first | rfl | (rename_i a; cases a <;> rfl)

/-- What a root's row owns: all but the block that it lies in itself. -/
def Under (B : Base) (S : Nat → Prop) (x : Nat) : Prop := S x ∧ ∀ o, B ≠ .addr x o
theorem RepC.root (h : RepC arg w I c v S) : RepRow w I c.row ((c.base v).get w) (Under (c.base v) S) := by
 cases c with
 | leaf l =>
  refine ⟨fun j x => j = 0 ∧ S x, fun j x h => ⟨h.2, fun o h => by cases h⟩, fun j j' x h h' => h.1.trans h'.1.symm, fun j l' hl => ?_⟩
  cases j with
  | zero => simp [CV.row] at hl; subst hl; exact ⟨v, rfl, h.1, h.2.mono (fun _ h => h) fun x hx => ⟨rfl, hx⟩⟩
  | succ j => simp [CV.row] at hl
 | agg ls =>
  obtain ⟨cs, rfl, h2, h3⟩ := h
  exact h3.mono (fun _ h => h) fun x hx => ⟨hx, fun o h => by cases h⟩
 | box row =>
  obtain ⟨b, cs, e, rfl, h2, h3, h4, h5, _⟩ := h
  refine (h5.mono (fun _ h => h) (fun x hx => ⟨hx.1, fun o h => hx.2 (by cases h; rfl)⟩)).world (fun j _ => ?_) (fun _ _ => rfl)
  simp only [CV.base, Base.get, World.cell?, h3, Nat.zero_add]
  rfl
 | pbox t row =>
  obtain ⟨b, cs, e, rfl, h2, h3, h4, h5, _⟩ := h
  refine (h5.mono (fun _ h => h) (fun x hx => ⟨hx.1, fun o h => hx.2 (by cases h; rfl)⟩)).world (fun j _ => ?_) (fun _ _ => rfl)
  simp only [CV.base, Base.get, World.cell?, h3, Nat.zero_add]
  rfl
 | gone => exact ⟨fun _ _ => False, fun _ _ h => h.elim, fun _ _ _ h => h.elim, fun j l hl => by simp [CV.row] at hl⟩

/-- From a base with a row, along a path through owned slices, to a base with a row. -/
inductive Follow (w : World) : Base → List L → List (Nat × Nat) → Base → List L → Prop
 | nil (B row) : Follow w B row [] B row
 | step (B row c i p B' row' sz rows r b len cap) (h1 : row[c]? = some (.sl true sz rows)) (h2 : rows[i]? = some r)
   (h3 : B.get w c = some (.slice (some ⟨b, 0, none⟩) len cap)) (h4 : Follow w (.addr b (i * sz)) r p B' row') : Follow w B row ((c, i) :: p) B' row'

theorem Follow.same {B B1 B2 : Base} {row r1 r2 : List L} {p : List (Nat × Nat)} (h1 : Follow w B row p B1 r1) (h2 : Follow w B row p B2 r2) : B1 = B2 ∧ r1 = r2 := by
 induction h1 with
 | nil => cases h2; exact ⟨rfl, rfl⟩
 | step B row c i p B' row' sz rows r b len cap g1 g2 g3 g4 ih =>
  cases h2 with
  | step _ _ _ _ _ _ _ sz2 rows2 rr b2 len2 cap2 k1 k2 k3 k4 =>
   rw [g1] at k1
   simp only [Option.some.injEq, L.sl.injEq] at k1
   obtain ⟨_, rfl, rfl⟩ := k1
   rw [g2] at k2
   simp only [Option.some.injEq] at k2
   subst k2
   rw [g3] at k3
   simp only [Option.some.injEq, Value.slice.injEq, Addr.mk.injEq] at k3
   obtain ⟨⟨rfl, _, _⟩, _, _⟩ := k3
   exact ih k4
theorem Follow.rowAt {B B' : Base} {row row' : List L} {p : List (Nat × Nat)} (h : Follow w B row p B' row') : rowAt p row = some row' := by
 induction h with
 | nil => rfl
 | step B row c i p B' row' sz rows r b len cap h1 h2 h3 h4 ih => simp only [VS.rowAt, h1, h2, ih]

theorem Follow.append {B B1 B2 : Base} {row r1 r2 : List L} {p q : List (Nat × Nat)} (h1 : Follow w B row p B1 r1) (h2 : Follow w B1 r1 q B2 r2) : Follow w B row (p ++ q) B2 r2 := by
 induction h1 with
 | nil => exact h2
 | step B row c i p B' row' sz rows r b len cap g1 g2 g3 g4 ih => exact .step _ _ _ _ _ _ _ sz rows r b len cap g1 g2 g3 (ih h2)

theorem cell_of {b : Nat} {cs : Array Value} {e : TypeId} {f : Nat × Nat} (hb : w.heap[b]? = some (.cells cs e f)) (o : Nat) : w.cell? ⟨b, o, none⟩ = cs[o]? := by
 simp only [World.cell?, hb]
 rfl

theorem setRow_length : ∀ (p : List (Nat × Nat)) (row new : List L), p ≠ [] → (setRow p row new).length = row.length
 | [], _, _, h => absurd rfl h
 | (c, i) :: p, row, new, _ => by
  simp only [setRow]
  split
  ·split <;> simp
  ·rfl
theorem out_of_row {i i' j sz : Nat} (h : i' ≠ i) (hj : j < sz) : ¬ (i * sz ≤ i' * sz + j ∧ i' * sz + j < i * sz + sz) := by
 intro ⟨h1, h2⟩
 rcases Nat.lt_or_gt_of_ne h with h | h
 ·have : (i' + 1) * sz ≤ i * sz := Nat.mul_le_mul_right sz h
  rw [Nat.add_mul, Nat.one_mul] at this
  omega
 ·have : (i + 1) * sz ≤ i' * sz := Nat.mul_le_mul_right sz h
  rw [Nat.add_mul, Nat.one_mul] at this
  omega

/-- What may be said behind a change of the leaves at the end of a path. -/
def Pokes (w : World) (I : Nat → Prop) (p : List (Nat × Nat)) (B : Base) (row : List L) (S : Nat → Prop) (B' : Base) (row' : List L) (S' : Nat → Prop) : Prop :=
 ∀ (w' : World) (I' N T : Nat → Prop) (new : List L), new.length = row'.length → RepRow w' I' new (B'.get w') T → (∀ x, T x → S' x ∨ N x) → (∀ x, N x → ¬ S x) → (∀ x, I x → I' x) → (∀ x, I x → w'.heap[x]? = w.heap[x]?) →
  (∀ x, S x → ¬ S' x → (∀ b o, B' = .addr b o → p ≠ [] → x ≠ b) → w'.heap[x]? = w.heap[x]?) →
  (p ≠ [] → ∀ b o, B' = .addr b o → ∃ cs cs' e, w.heap[b]? = some (.cells cs e (0, 0)) ∧ w'.heap[b]? = some (.cells cs' e (0, 0)) ∧ cs'.size = cs.size ∧ ∀ k, ¬ (o ≤ k ∧ k < o + row'.length) → cs'[k]? = cs[k]?) →
  (p ≠ [] → ∀ j, B.get w' j = B.get w j) → RepRow w' I' (setRow p row new) (B.get w') (fun x => (S x ∧ (S' x → T x)) ∨ N x)

/-- The leaves at the end of a path lie as they should; and may be changed there. -/
theorem follow : ∀ (p : List (Nat × Nat)) {B : Base} {row row' : List L} {S : Nat → Prop}, RepRow w I row (B.get w) S → rowAt p row = some row' →
  ∃ B' S', Follow w B row p B' row' ∧ RepRow w I row' (B'.get w) S' ∧ (∀ x, S' x → S x) ∧
   (p ≠ [] → ∃ b o cs e, B' = .addr b o ∧ S b ∧ ¬ S' b ∧ w.heap[b]? = some (.cells cs e (0, 0)) ∧ o + row'.length ≤ cs.size) ∧ Pokes w I p B row S B' row' S'
 | [], B, row, row', S, h, hp => by
  simp only [VS.rowAt, Option.some.injEq] at hp
  subst hp
  refine ⟨B, S, .nil .., h, fun _ h => h, fun h => absurd rfl h, ?_⟩
  intro w' I' N T new _ hr hT _ _ _ _ _ _
  exact hr.mono (fun _ h => h) fun x hx => (hT x hx).imp (fun h => ⟨h, fun _ => hx⟩) id
 | (c, i) :: p, B, row, row', S, h, hp => by
  obtain ⟨D, d1, d2, d3⟩ := h
  obtain ⟨sz, rows, r, hc, hi, hp⟩ : ∃ sz rows r, row[c]? = some (.sl true sz rows) ∧ rows[i]? = some r ∧ rowAt p r = some row' := by
   simp only [VS.rowAt] at hp
   cases hc : row[c]? with
   | none => rw [hc] at hp; cases hp
   | some x =>
    rw [hc] at hp
    cases x with
    | sl o sz rows =>
     cases o with
     | false => cases hp
     | true =>
      cases hi : rows[i]? with
      | none => simp only [hi] at hp; cases hp
      | some r => simp only [hi] at hp; exact ⟨sz, rows, r, rfl, hi, hp⟩
    | _ => cases hp
  obtain ⟨v, g1, g2, g3⟩ := d3 c _ hc
  cases g3 with
  | nil => simp at hi
  | own _ _ _ b cap cs e cv E hS hlen hcap hb hcs hsz hcv hE hdis hrep =>
   have hir : i < rows.length := (List.getElem?_eq_some_iff.1 hi).1
   have hrl := hsz i r hi
   have hfit : i * sz + r.length ≤ cs.size := by
    rw [hcs, hrl]
    have : (i + 1) * sz ≤ cap * sz := Nat.mul_le_mul_right sz (by omega)
    rw [Nat.add_mul, Nat.one_mul] at this
    exact this
   have hrow : RepRow w I r ((Base.addr b (i * sz)).get w) (fun x => ∃ j, E i j x) := by
    refine ⟨E i, fun j x hx => ⟨j, hx⟩, fun j j' x h h' => (hdis i j i j' x h h').2, fun j l hl => ?_⟩
    have hjl := (List.getElem?_eq_some_iff.1 hl).1
    have hc' := hcv i j hir (by omega)
    exact ⟨cv i j, (cell_of hb _).trans hc'.1, hc'.2, hrep i j r l hi hl⟩
   obtain ⟨B', S', f1, f2, f3, f4, f5⟩ := follow p hrow hp
   have hsub : ∀ x, S' x → S x ∧ x ≠ b := fun x hx => by
    obtain ⟨j, hj⟩ := f3 x hx
    exact ⟨d1 c x (hE i j x hj).1, (hE i j x hj).2⟩
   have hBb : ∀ b' o', B' = .addr b' o' → p = [] ∧ b' = b ∧ o' = i * sz ∧ row' = r ∨ p ≠ [] ∧ ∃ j, E i j b' := by
    intro b' o' hB
    by_cases hp0 : p = []
    ·subst hp0
     cases f1
     injection hB with h1 h2
     exact .inl ⟨rfl, h1.symm, h2.symm, rfl⟩
    ·obtain ⟨b2, o2, cs2, e2, k1, k2, _⟩ := f4 hp0
     rw [k1] at hB
     injection hB with h1 h2
     exact .inr ⟨hp0, h1 ▸ k2⟩
   refine ⟨B', S', .step _ _ _ _ _ _ _ sz rows r b _ _ hc hi g1 f1, f2, fun x hx => (hsub x hx).1, fun _ => ?_, ?_⟩
   ·by_cases hp0 : p = []
    ·subst hp0
     cases f1
     exact ⟨b, i * sz, cs, e, rfl, d1 c b hS, fun h => (hsub b h).2 rfl, hb, hfit⟩
    ·obtain ⟨b', o', cs', e', k1, k2, k3, k4, k5⟩ := f4 hp0
     obtain ⟨j, hj⟩ := k2
     exact ⟨b', o', cs', e', k1, d1 c b' (hE i j b' hj).1, k3, k4, k5⟩
   ·intro w' I' N T new hl hr hT hN hI hIw hframe hblk hBg
    -- the block of the slice, behind the change
    have hblk0 : p ≠ [] → w'.heap[b]? = w.heap[b]? := fun hp0 => hframe b (d1 c b hS) (fun h => (hsub b h).2 rfl) (fun b' o' hB _ => by
     rcases hBb b' o' hB with ⟨h, _⟩ | ⟨_, j, hj⟩
     ·exact absurd h hp0
     ·exact fun he => (hE i j b' hj).2 he.symm)
    have hb' : ∃ cs', w'.heap[b]? = some (.cells cs' e (0, 0)) ∧ cs'.size = cs.size ∧ ∀ i' j, i' ≠ i → j < sz → cs'[i' * sz + j]? = cs[i' * sz + j]? := by
     by_cases hp0 : p = []
     ·subst hp0
      cases f1
      obtain ⟨c1, c2, e2, k1, k2, k3, k4⟩ := hblk (by simp) b (i * sz) rfl
      rw [hb] at k1
      simp only [Option.some.injEq, Obj.cells.injEq] at k1
      obtain ⟨rfl, rfl, _⟩ := k1
      exact ⟨c2, k2, k3, fun i' j hne hj => k4 _ (by rw [hrl]; exact out_of_row hne hj)⟩
     ·exact ⟨cs, (hblk0 hp0).trans hb, rfl, fun _ _ _ _ => rfl⟩
    obtain ⟨cs', hb', hcs', hold⟩ := hb'
    have hin := f5 w' I' N T new hl hr hT (fun x hx ⟨j, hj⟩ => hN x hx (d1 c x (hE i j x hj).1)) hI hIw
     (fun x ⟨j, hj⟩ hx hne => hframe x (d1 c x (hE i j x hj).1) hx (fun b' o' hB _ => by
      rcases hBb b' o' hB with ⟨_, hbb, _⟩ | ⟨hp0, _⟩
      ·subst hbb; exact (hE i j x hj).2
      ·exact hne b' o' hB hp0))
     (fun hp0 b' o' hB => hblk (by simp) b' o' hB)
     (fun hp0 j => by simp only [Base.get]; exact World.cell?_of_block (w := w) (w' := w') (a := ⟨b, i * sz + j, none⟩) (hblk0 hp0))
    obtain ⟨Dn, n1, n2, n3⟩ := hin
    have hlen' : (setRow p r new).length = sz := by
     by_cases hp0 : p = []
     ·subst hp0
      simp only [VS.rowAt, Option.some.injEq] at hp
      simp only [setRow]
      rw [hl, ← hp, hrl]
     ·rw [setRow_length p r new hp0, hrl]
    have hset : setRow ((c, i) :: p) row new = row.set c (.sl true sz (rows.set i (setRow p r new))) := by simp only [setRow, hc, hi]
    have hBg' := hBg (by simp)
    rw [hset]
    have hSc : ∀ x, S' x → D c x := fun x hx => by obtain ⟨j, hj⟩ := f3 x hx; exact (hE i j x hj).1
    refine ⟨fun j x => if j = c then (D c x ∧ (S' x → T x)) ∨ N x else D j x, fun j x hx => ?_, fun j j' x hx hx' => ?_, fun j l hjl => ?_⟩
    ·by_cases hj : j = c
     ·simp only [hj, if_true] at hx; exact hx.imp (fun h => ⟨d1 c x h.1, h.2⟩) id
     ·simp only [hj, if_false] at hx; exact .inl ⟨d1 j x hx, fun hs => absurd (d2 j c x hx (hSc x hs)) hj⟩
    ·by_cases hj : j = c <;> by_cases hj' : j' = c
     ·rw [hj, hj']
     ·simp only [hj, if_true] at hx
      simp only [hj', if_false] at hx'
      rcases hx with hx | hx
      ·exact hj.trans (d2 c j' x hx.1 hx')
      ·exact absurd (d1 j' x hx') (hN x hx)
     ·simp only [hj', if_true] at hx'
      simp only [hj, if_false] at hx
      rcases hx' with hx' | hx'
      ·exact (d2 j c x hx hx'.1).trans hj'.symm
      ·exact absurd (d1 j x hx) (hN x hx')
     ·simp only [hj, if_false] at hx
      simp only [hj', if_false] at hx'
      exact d2 j j' x hx hx'
    ·by_cases hj : j = c
     ·subst hj
      simp only [if_true]
      rw [List.getElem?_set_self (List.getElem?_eq_some_iff.1 hc).1, Option.some.injEq] at hjl
      subst hjl
      refine ⟨_, (hBg' j).trans g1, g2, ?_⟩
      rw [← List.length_set (as := rows) (i := i) (a := setRow p r new)]
      refine .own sz _ _ b cap cs' e (fun i' j => (cs'[i' * sz + j]?).getD undef) (fun i' j x => if i' = i then Dn j x else E i' j x) (.inl ⟨hS, fun hs => absurd rfl (hsub b hs).2⟩) (by rw [List.length_set]; exact hlen) hcap hb' (hcs'.trans hcs) (fun i' r' hr' => ?_) (fun i' j' hi' hj' => ?_) (fun i' j' x hx => ?_) (fun i1 j1 i2 j2 x hx1 hx2 => ?_) (fun i' j' r' l' hr' hl' => ?_)
      ·by_cases hii : i' = i
       ·subst hii
        rw [List.getElem?_set_self hir, Option.some.injEq] at hr'
        exact hr' ▸ hlen'
       ·rw [List.getElem?_set_ne (fun h => hii h.symm)] at hr'
        exact hsz i' r' hr'
      ·rw [List.length_set] at hi'
       by_cases hii : i' = i
       ·subst hii
        obtain ⟨l', hl'⟩ : ∃ l', (setRow p r new)[j']? = some l' := ⟨_, List.getElem?_eq_getElem (by omega)⟩
        obtain ⟨v', q1, q2, q3⟩ := n3 j' l' hl'
        have q1' : cs'[i' * sz + j']? = some v' := (cell_of hb' _).symm.trans q1
        rw [q1']
        exact ⟨rfl, q2⟩
       ·have hcc := hcv i' j' hi' hj'
        rw [hold i' j' hii hj', hcc.1]
        exact ⟨rfl, hcc.2⟩
      ·by_cases hii : i' = i
       ·simp only [hii, if_true] at hx
        rcases n1 j' x hx with ⟨⟨j2, hx2⟩, hi2⟩ | hx2
        ·exact ⟨.inl ⟨(hE i j2 x hx2).1, hi2⟩, (hE i j2 x hx2).2⟩
        ·exact ⟨.inr hx2, fun he => hN x hx2 (he ▸ d1 j b hS)⟩
       ·simp only [hii, if_false] at hx
        exact ⟨.inl ⟨(hE i' j' x hx).1, fun hs => by obtain ⟨j3, h3⟩ := f3 x hs; exact absurd (hdis i' j' i j3 x hx h3).1 hii⟩, (hE i' j' x hx).2⟩
      ·by_cases h1 : i1 = i <;> by_cases h2 : i2 = i
       ·simp only [h1, if_true] at hx1
        simp only [h2, if_true] at hx2
        exact ⟨h1.trans h2.symm, n2 j1 j2 x hx1 hx2⟩
       ·simp only [h1, if_true] at hx1
        simp only [h2, if_false] at hx2
        rcases n1 j1 x hx1 with ⟨⟨j3, hx3⟩, _⟩ | hx3
        ·exact absurd ((hdis i j3 i2 j2 x hx3 hx2).1) (fun h => h2 h.symm)
        ·exact absurd (d1 j x (hE i2 j2 x hx2).1) (hN x hx3)
       ·simp only [h1, if_false] at hx1
        simp only [h2, if_true] at hx2
        rcases n1 j2 x hx2 with ⟨⟨j3, hx3⟩, _⟩ | hx3
        ·exact absurd ((hdis i1 j1 i j3 x hx1 hx3).1) h1
        ·exact absurd (d1 j x (hE i1 j1 x hx1).1) (hN x hx3)
       ·simp only [h1, if_false] at hx1
        simp only [h2, if_false] at hx2
        exact hdis i1 j1 i2 j2 x hx1 hx2
      ·by_cases hii : i' = i
       ·subst hii
        rw [List.getElem?_set_self hir, Option.some.injEq] at hr'
        subst hr'
        obtain ⟨v', q1, q2, q3⟩ := n3 j' l' hl'
        have q1' : cs'[i' * sz + j']? = some v' := (cell_of hb' _).symm.trans q1
        simp only [if_true, q1', Option.getD_some]
        exact q3
       ·rw [List.getElem?_set_ne (fun h => hii h.symm)] at hr'
        have hi' := (List.getElem?_eq_some_iff.1 hr').1
        have hj' : j' < sz := by rw [← hsz i' r' hr']; exact (List.getElem?_eq_some_iff.1 hl').1
        have hcc := hcv i' j' hi' hj'
        simp only [hii, if_false]
        rw [hold i' j' hii hj', hcc.1]
        refine ((hrep i' j' r' l' hr' hl').world (w' := w') fun x hx => ?_).mono hI (fun _ h => h)
        rcases hx with hx | hx
        ·refine hframe x (d1 j x (hE i' j' x hx).1) (fun hs => ?_) (fun b' o' hB _ => ?_)
         ·obtain ⟨j3, h3⟩ := f3 x hs
          exact hii (hdis i' j' i j3 x hx h3).1
         ·rcases hBb b' o' hB with ⟨_, hbb, _⟩ | ⟨_, j3, h3⟩
          ·subst hbb; exact (hE i' j' x hx).2
          ·exact fun he => hii (hdis i' j' i j3 x hx (he ▸ h3)).1
        ·exact hIw x hx
     ·rw [List.getElem?_set_ne (fun h => hj h.symm)] at hjl
      obtain ⟨v', q1, q2, q3⟩ := d3 j l hjl
      refine ⟨v', (hBg' j).trans q1, q2, ?_⟩
      simp only [hj, if_false]
      refine (q3.world (w' := w') fun x hx => ?_).mono hI (fun _ h => h)
      rcases hx with hx | hx
      ·refine hframe x (d1 j x hx) (fun hs => ?_) (fun b' o' hB _ => ?_)
       ·obtain ⟨j3, h3⟩ := f3 x hs
        exact hj (d2 j c x hx (hE i j3 x h3).1)
       ·rcases hBb b' o' hB with ⟨_, hbb, _⟩ | ⟨_, j3, h3⟩
        ·subst hbb; exact fun he => hj (d2 j c x hx (he ▸ hS))
        ·exact fun he => hj (d2 j c x hx (he ▸ (hE i j3 b' h3).1))
      ·exact hIw x hx

theorem Follow.world {B B' : Base} {row row' : List L} {p : List (Nat × Nat)} {S : Nat → Prop} (hf : Follow w B row p B' row') (h : RepRow w I row (B.get w) S) (hw : ∀ x, S x → w'.heap[x]? = w.heap[x]?) (hB : ∀ j, j < row.length → B.get w' j = B.get w j) :
  Follow w' B row p B' row' ∧ ∀ j, j < row'.length → B'.get w' j = B'.get w j := by
 induction hf generalizing S with
 | nil B row => exact ⟨.nil .., hB⟩
 | step B row c i p B' row' sz rows r b len cap h1 h2 h3 h4 ih =>
  obtain ⟨D, d1, d2, d3⟩ := h
  obtain ⟨v, g1, g2, g3⟩ := d3 c _ h1
  rw [h3] at g1
  obtain rfl := Option.some.inj g1
  cases g3 with
  | nil => simp at h2
  | own _ _ _ _ _ cs e cv E hS hlen hcap hb hcs hsz hcv hE hdis hrep =>
   have hir : i < rows.length := (List.getElem?_eq_some_iff.1 h2).1
   have hrl := hsz i r h2
   have hrow : RepRow w I r ((Base.addr b (i * sz)).get w) (fun x => ∃ j, E i j x) := by
    refine ⟨E i, fun j x hx => ⟨j, hx⟩, fun j j' x h h' => (hdis i j i j' x h h').2, fun j l hl => ?_⟩
    have hjl := (List.getElem?_eq_some_iff.1 hl).1
    have hc' := hcv i j hir (by omega)
    exact ⟨cv i j, (cell_of hb _).trans hc'.1, hc'.2, hrep i j r l h2 hl⟩
   have hbb := hw b (d1 c b hS)
   obtain ⟨q1, q2⟩ := ih hrow (fun x ⟨j, hj⟩ => hw x (d1 c x (hE i j x hj).1)) (fun j _ => World.cell?_of_block (w := w) (w' := w') (a := ⟨b, i * sz + j, none⟩) hbb)
   exact ⟨.step _ _ _ _ _ _ _ sz rows r b _ _ h1 h2 ((hB c (List.getElem?_eq_some_iff.1 h1).1).trans h3) q1, q2⟩

/-- A change at one path leaves what another path leads to, unless it hits it. -/
theorem follow_poke {o n : Nat} : ∀ (p : List (Nat × Nat)) (p2 : List (Nat × Nat)) {B B' B2 : Base} {row row' row2 new : List L} {S : Nat → Prop}, RepRow w I row (B.get w) S → Follow w B row p B' row' → Follow w B row p2 B2 row2 →
  hits p o n p2 = false → new.length = row'.length → (∀ j, ¬ (o ≤ j ∧ j < o + n) → new[j]? = row'[j]?) →
  (∀ j, j < row.length → (p = [] → ¬ (o ≤ j ∧ j < o + n)) → B.get w' j = B.get w j) →
  (∀ b o', p ≠ [] → B' = .addr b o' → ∃ cs cs' e, w.heap[b]? = some (.cells cs e (0, 0)) ∧ w'.heap[b]? = some (.cells cs' e (0, 0)) ∧ ∀ k, ¬ (o' + o ≤ k ∧ k < o' + o + n) → cs'[k]? = cs[k]?) →
  (p ≠ [] → o + n ≤ row'.length) →
  (∀ x, S x → (p ≠ [] → ∀ o', B' ≠ .addr x o') → w'.heap[x]? = w.heap[x]?) →
  ∃ row2', Follow w' B (setRow p row new) p2 B2 row2' ∧ row2'.length = row2.length ∧ ∀ x k, meets p o n p2 x k = false → x + k ≤ row2.length → ∀ j, x ≤ j → j < x + k → B2.get w' j = B2.get w j
 | p, [], B, B', B2, row, row', row2, new, S, h, hf, hf2, hh, hl, hnew, hB, hblk, hon, hw => by
  cases hf2
  refine ⟨_, .nil .., ?_, fun x k hm hx j h1 h2 => hB j (by omega) (fun hp => ?_)⟩
  ·by_cases hp : p = []
   ·subst hp; cases hf; exact hl
   ·exact setRow_length p row new hp
  ·subst hp
   simp only [meets, Bool.and_eq_false_iff, decide_eq_false_iff_not] at hm
   omega
 | [], (c, i) :: p2, B, B', B2, row, row', row2, new, S, h, hf, hf2, hh, hl, hnew, hB, hblk, hon, hw => by
  cases hf
  simp only [hits, Bool.and_eq_false_iff, decide_eq_false_iff_not] at hh
  have hfw : ∀ x, S x → w'.heap[x]? = w.heap[x]? := fun x hx => hw x hx (fun h => absurd rfl h)
  cases hf2 with
  | step _ _ _ _ _ _ _ sz rows r b len cap g1 g2 g3 g4 =>
   obtain ⟨D, d1, d2, d3⟩ := h
   obtain ⟨v, q1, q2, q3⟩ := d3 c _ g1
   rw [g3] at q1
   obtain rfl := Option.some.inj q1
   cases q3 with
   | nil => simp at g2
   | own _ _ _ _ _ cs e cv E hS hlen hcap hb hcs hsz hcv hE hdis hrep =>
    have hir : i < rows.length := (List.getElem?_eq_some_iff.1 g2).1
    have hrow : RepRow w I r ((Base.addr b (i * sz)).get w) (fun x => ∃ j, E i j x) := by
     refine ⟨E i, fun j x hx => ⟨j, hx⟩, fun j j' x h h' => (hdis i j i j' x h h').2, fun j l hl => ?_⟩
     have hjl := (List.getElem?_eq_some_iff.1 hl).1
     have hrl := hsz i r g2
     have hc' := hcv i j hir (by omega)
     exact ⟨cv i j, (cell_of hb _).trans hc'.1, hc'.2, hrep i j r l g2 hl⟩
    obtain ⟨k1, k2⟩ := g4.world (w' := w') hrow (fun x ⟨j, hj⟩ => hfw x (d1 c x (hE i j x hj).1)) (fun j _ => World.cell?_of_block (w := w) (w' := w') (a := ⟨b, i * sz + j, none⟩) (hfw b (d1 c b hS)))
    refine ⟨row2, ?_, rfl, fun x k _ hx j _ h2 => k2 j (by omega)⟩
    simp only [setRow]
    refine .step _ _ _ _ _ _ _ sz rows r b rows.length cap ?_ g2 ?_ k1
    ·rw [hnew c (by omega)]; exact g1
    ·rw [hB c (List.getElem?_eq_some_iff.1 g1).1 (fun _ => by omega)]; exact g3
 | (a, ia) :: p, (c, i) :: p2, B, B', B2, row, row', row2, new, S, h, hf, hf2, hh, hl, hnew, hB, hblk, hon, hw => by
  have hBw : ∀ j, j < row.length → B.get w' j = B.get w j := fun j hj => hB j hj (fun h => by cases h)
  cases hf with
  | step _ _ _ _ _ _ _ sz rows r b len cap f1 f2 f3 f4 =>
  cases hf2 with
  | step _ _ _ _ _ _ _ sz2 rows2 r2 b2 len2 cap2 g1 g2 g3 g4 =>
   obtain ⟨D, d1, d2, d3⟩ := h
   obtain ⟨v, q1, q2, q3⟩ := d3 a _ f1
   rw [f3] at q1
   obtain rfl := Option.some.inj q1
   cases q3 with
   | nil => simp at f2
   | own _ _ _ _ _ cs e cv E hS hlen hcap hb hcs hsz hcv hE hdis hrep =>
    have hir : ia < rows.length := (List.getElem?_eq_some_iff.1 f2).1
    have hrows : ∀ i r, rows[i]? = some r → RepRow w I r ((Base.addr b (i * sz)).get w) (fun x => ∃ j, E i j x) := by
     intro i r hr
     refine ⟨E i, fun j x hx => ⟨j, hx⟩, fun j j' x h h' => (hdis i j i j' x h h').2, fun j l hl => ?_⟩
     have hjl := (List.getElem?_eq_some_iff.1 hl).1
     have hrl := hsz i r hr
     have hc' := hcv i j (List.getElem?_eq_some_iff.1 hr).1 (by omega)
     exact ⟨cv i j, (cell_of hb _).trans hc'.1, hc'.2, hrep i j r l hr hl⟩
    -- the changed block lies in row ia of this slice, or is its own
    have hB'b : ∀ b' o', B' = .addr b' o' → p = [] ∧ b' = b ∧ o' = ia * sz ∧ row' = r ∨ p ≠ [] ∧ ∃ j, E ia j b' := by
     intro b' o' hBe
     by_cases hp0 : p = []
     ·subst hp0
      cases f4
      injection hBe with h1 h2
      exact .inl ⟨rfl, h1.symm, h2.symm, rfl⟩
     ·obtain ⟨B3, S3, k1, _, _, k4, _⟩ := follow p (hrows ia r f2) f4.rowAt
      obtain ⟨rfl, _⟩ : B3 = B' ∧ True := ⟨by
       have := k1; exact (by
        clear k4
        revert k1
        intro k1
        exact (Follow.same k1 f4).1), trivial⟩
      obtain ⟨b4, o4, cs4, e4, m1, m2, _⟩ := k4 hp0
      rw [m1] at hBe
      injection hBe with h1 h2
      exact .inr ⟨hp0, h1 ▸ m2⟩
    have hset : setRow ((a, ia) :: p) row new = row.set a (.sl true sz (rows.set ia (setRow p r new))) := by simp only [setRow, f1, f2]
    rw [hset]
    by_cases hac : a = c
    ·subst hac
     rw [f1] at g1
     simp only [Option.some.injEq, L.sl.injEq, true_and] at g1
     obtain ⟨rfl, rfl⟩ := g1
     rw [f3] at g3
     simp only [Option.some.injEq, Value.slice.injEq, Addr.mk.injEq] at g3
     obtain ⟨⟨rfl, _, _⟩, rfl, rfl⟩ := g3
     have hh' : hits p o n p2 = false := by simpa [hits] using hh
     by_cases hii : i = ia
     ·subst hii
      rw [f2] at g2
      obtain rfl := Option.some.inj g2
      have hgb : ∀ j, j < r.length → (p = [] → ¬ (o ≤ j ∧ j < o + n)) → (Base.addr b (i * sz)).get w' j = (Base.addr b (i * sz)).get w j := by
       intro j hj hjn
       by_cases hp0 : p = []
       ·subst hp0
        cases f4
        obtain ⟨c1, c2, e1, m1, m2, m3⟩ := hblk b (i * sz) (by simp) rfl
        simp only [Base.get]
        rw [cell_of m1, cell_of m2]
        exact m3 _ (by have := hjn rfl; omega)
       ·simp only [Base.get]
        refine World.cell?_of_block (w := w) (w' := w') (a := ⟨b, i * sz + j, none⟩) (hw b (d1 a b hS) fun _ o' hBe => ?_)
        rcases hB'b b o' hBe with ⟨h, _⟩ | ⟨_, j, hj⟩
        ·exact hp0 h
        ·exact (hE i j b hj).2 rfl
      obtain ⟨row2', k1, k2, k3⟩ := follow_poke p p2 (hrows i r f2) f4 g4 hh' hl hnew hgb (fun b' o' hp0 hBe => hblk b' o' (by simp) hBe) (fun hp0 => hon (by simp)) (fun x ⟨j, hj⟩ hx => by
       refine hw x (d1 a x (hE i j x hj).1) fun _ o' hBe => ?_
       rcases hB'b x o' hBe with ⟨_, hxb, _⟩ | ⟨hp0, _⟩
       ·exact (hE i j x hj).2 hxb
       ·exact hx hp0 o' hBe)
      refine ⟨row2', ?_, k2, fun x k hm => k3 x k (by simpa [meets] using hm)⟩
      refine .step _ _ _ _ _ _ _ sz _ (setRow p r new) b _ _ (List.getElem?_set_self (List.getElem?_eq_some_iff.1 f1).1) (List.getElem?_set_self hir) ((hBw a (List.getElem?_eq_some_iff.1 f1).1).trans f3) k1
     ·have hri := (List.getElem?_eq_some_iff.1 g2).1
      have hr2 := hsz i r2 g2
      have hgb : ∀ j, j < r2.length → (Base.addr b (i * sz)).get w' j = (Base.addr b (i * sz)).get w j := by
       intro j hj
       by_cases hp0 : p = []
       ·subst hp0
        cases f4
        obtain ⟨c1, c2, e1, m1, m2, m3⟩ := hblk b (ia * sz) (by simp) rfl
        simp only [Base.get]
        rw [cell_of m1, cell_of m2]
        have hr1 := hsz ia _ f2
        have hno := out_of_row (i := ia) (i' := i) (j := j) (sz := sz) hii (by omega)
        have hon' := hon (by simp)
        exact m3 _ (by omega)
       ·simp only [Base.get]
        refine World.cell?_of_block (w := w) (w' := w') (a := ⟨b, i * sz + j, none⟩) (hw b (d1 a b hS) fun _ o' hBe => ?_)
        rcases hB'b b o' hBe with ⟨h, _⟩ | ⟨_, j, hj⟩
        ·exact hp0 h
        ·exact (hE ia j b hj).2 rfl
      obtain ⟨k1, k2⟩ := g4.world (w' := w') (hrows i r2 g2) (fun x ⟨j, hj⟩ => by
       refine hw x (d1 a x (hE i j x hj).1) fun _ o' hBe => ?_
       rcases hB'b x o' hBe with ⟨_, hxb, _⟩ | ⟨_, j', hj'⟩
       ·exact (hE i j x hj).2 hxb
       ·exact hii (hdis i j ia j' x hj hj').1) hgb
      refine ⟨row2, ?_, rfl, fun x k _ hx j _ h2 => k2 j (by omega)⟩
      exact .step _ _ _ _ _ _ _ sz _ r2 b _ _ (List.getElem?_set_self (List.getElem?_eq_some_iff.1 f1).1) (by rw [List.getElem?_set_ne (fun h => hii h.symm)]; exact g2) ((hBw a (List.getElem?_eq_some_iff.1 f1).1).trans f3) k1
    ·obtain ⟨v2, u1, u2, u3⟩ := d3 c _ g1
     have hfr : ∀ x, D c x → w'.heap[x]? = w.heap[x]? := fun x hx => by
      refine hw x (d1 c x hx) fun _ o' hBe => ?_
      rcases hB'b x o' hBe with ⟨_, hxb, _⟩ | ⟨_, j', hj'⟩
      ·subst hxb; exact hac (d2 a c _ hS hx)
      ·exact hac (d2 a c _ (hE ia j' x hj').1 hx)
     have hsub : RepRow w I [L.sl true sz2 rows2] (fun j => if j = 0 then some v2 else none) (D c) :=
      ⟨fun j x => j = 0 ∧ D c x, fun j x h => h.2, fun j j' x h h' => h.1.trans h'.1.symm, fun j l hl => by
       cases j with
       | zero => simp at hl; subst hl; exact ⟨v2, rfl, u2, u3.mono (fun _ h => h) fun x hx => ⟨rfl, hx⟩⟩
       | succ j => simp at hl⟩
     have hone : Follow w (.vals #[v2]) [L.sl true sz2 rows2] ((0, i) :: p2) B2 row2 := .step _ _ _ _ _ _ _ sz2 rows2 r2 b2 len2 cap2 rfl g2 (by rw [g3] at u1; exact u1.symm ▸ rfl) g4
     obtain ⟨k1, k2⟩ := hone.world (w' := w') (S := D c) (I := I) (hsub.world (w' := w) (fun j hj => by simp at hj; subst hj; rfl) (fun _ _ => rfl)) hfr (fun j _ => rfl)
     refine ⟨row2, ?_, rfl, fun x k _ hx j _ h2 => k2 j (by omega)⟩
     cases k1 with
     | step _ _ _ _ _ _ _ sz3 rows3 r3 b3 len3 cap3 m1 m2 m3 m4 =>
      simp only [List.getElem?_cons_zero, Option.some.injEq, L.sl.injEq, true_and] at m1
      obtain ⟨rfl, rfl⟩ := m1
      refine .step _ _ _ _ _ _ _ sz2 rows2 r3 b3 len3 cap3 (by rw [List.getElem?_set_ne hac]; exact g1) m2 ?_ m4
      rw [hBw c (List.getElem?_eq_some_iff.1 g1).1, u1]
      exact m3

end Go.VS

/- The slots and the model's frame: how they belong together. -/
namespace Go.VS
open Go Go.RowKit
set_option linter.unusedSimpArgs false
set_option linter.unusedVariables false

theorem get_put : ∀ (e : Env) (t : Tmp) (v : AV) (t' : Tmp), (Env.put e t v).get t' = if t' = t then v else e.get t'
 | [], t, v, t' => by
  simp only [Env.put, Env.get]
  by_cases h : t' = t
  ·subst h; simp
  ·rw [if_neg h, if_neg (fun e => h e.symm)]
 | (k, x) :: e, t, v, t' => by
  simp only [Env.put]
  by_cases h1 : t = k
  ·subst h1
   rw [if_pos rfl]
   simp only [Env.get]
   by_cases h : t' = t
   ·subst h; simp
   ·rw [if_neg h, if_neg (fun e => h e.symm), if_neg (fun e => h e.symm)]
  ·rw [if_neg h1]
   split
   ·simp only [Env.get]
    by_cases h : t' = t
    ·subst h; simp
    ·rw [if_neg h, if_neg (fun e => h e.symm)]
   ·simp only [Env.get]
    rw [get_put e t v t']
    by_cases h : k = t'
    ·subst h; rw [if_pos rfl, if_neg (fun e => h1 e.symm)]; simp
    ·rw [if_neg h, if_neg h]
theorem get_del : ∀ (e : Env) (ts : List Tmp) (t : Tmp), (Env.del e ts).get t = if ts.contains t then .bad else e.get t
 | [], ts, t => by simp [Env.del, Env.get]
 | (k, x) :: e, ts, t => by
  simp only [Env.del]
  by_cases h : ts.contains k
  ·rw [if_pos h, get_del e ts t]
   simp only [Env.get]
   by_cases hk : k = t
   ·subst hk; rw [if_pos h, if_pos h]
   ·rw [if_neg hk]
  ·rw [if_neg h]
   simp only [Env.get]
   by_cases hk : k = t
   ·subst hk; rw [if_pos rfl, if_neg h, if_pos rfl]
   ·rw [if_neg hk, if_neg hk, get_del e ts t]

/-- From root r along a path: where the row at its end lies. -/
def Roots (w : World) (e : Env) (vs : Array Value) (r : Tmp) (p : List (Nat × Nat)) (B : Base) (row : List L) : Prop :=
 ∃ c, e.get r = .v c ∧ Follow w (c.base (vs.getD r undef)) c.row p B row

/-- Several values at once. -/
def RepT (arg : Tmp → Value) (w : World) (I : Nat → Prop) (cs : List CV) (v : Value) (S : Nat → Prop) : Prop :=
 ∃ us, v = .tuple us ∧ us.size = cs.length ∧ ∃ D : Nat → Nat → Prop, (∀ j x, D j x → S x) ∧ (∀ j j' x, D j x → D j' x → j = j') ∧ ∀ (j : Nat) c, cs[j]? = some c → ∃ u, us[j]? = some u ∧ RepC arg w I c u (D j)

/-- What a slot's hold says of the slot's value. -/
def RepA (arg : Tmp → Value) (w : World) (I : Nat → Prop) (s : RS) (vs : Array Value) (av : AV) (v : Value) (S : Nat → Prop) : Prop :=
 match av with
 | .bad => True
 | .un => v = undef
 | .v c => RepC arg w I c v S
 | .tup cs => RepT arg w I cs v S
 | .ptr r p o => cleanP s.d r p = true → ∃ b o' row', Roots w s.e vs r p (.addr b o') row' ∧ v = .pointer (some ⟨b, o' + o, none⟩)
 | .iptr row o => ∃ b o', I b ∧ v = .pointer (some ⟨b, o' + o, none⟩) ∧ RepRow w I row ((Base.addr b o').get w) (fun _ => False)
 | .ld r p o n agg => clean s.d r p o n = true → ∃ B row', Roots w s.e vs r p B row' ∧ o + n ≤ row'.length ∧
   (agg = true → ∃ cs, v = .agg cs ∧ cs.size = n ∧ ∀ j, j < n → cs[j]? = B.get w (o + j)) ∧ (agg = false → n = 1 ∧ B.get w o = some v)

/-- The evaluator's slots s stand for the frame's slots vs in world w: I are the immutable blocks, O t are those that slot t owns. -/
structure Rel (arg : Tmp → Value) (W : World) (I : Nat → Prop) (O : Tmp → Nat → Prop) (s : RS) (vs : Array Value) (w : World) : Prop where
 bel : Below W.heap.size W w
 old : ∀ b, b < W.heap.size → I b
 ilt : ∀ b, I b → b < w.heap.size
 olt : ∀ t b, O t b → b < w.heap.size
 notI : ∀ t b, O t b → ¬ I b
 disj : ∀ t t' b, O t b → O t' b → t = t'
 rep : ∀ t, RepA arg w I s vs (s.e.get t) (vs.getD t undef) (O t)

theorem Follow.grow {w w' : World} {B B' : Base} {row row' : List L} {p : List (Nat × Nat)} (h : Follow w B row p B' row') (hw : Below w.heap.size w w') : Follow w' B row p B' row' := by
 induction h with
 | nil => exact .nil ..
 | step B row c i p B' row' sz rows r b len cap h1 h2 h3 h4 ih =>
  refine .step _ _ _ _ _ _ _ sz rows r b len cap h1 h2 ?_ ih
  cases B with
  | addr b' o' => exact (hw.cell (p := ⟨b', o' + c, none⟩) (World.block_lt_of_cell? w _ h3)).trans h3
  | vals cs => exact h3

theorem cleanP_put {s : RS} {d : Tmp} {av : AV} {r : Tmp} {p : List (Nat × Nat)} (h : cleanP (s.put d av).d r p = true) : cleanP s.d r p = true ∧ ((s.e.get d).isV = true → r ≠ d) := by
 simp only [RS.put] at h
 split at h
 ·simp only [cleanP, Bool.and_eq_true] at h
  refine ⟨h.2, fun _ he => ?_⟩
  subst he
  simp at h
 ·exact ⟨h, fun hh => by rename_i hn; exact absurd hh hn⟩
theorem clean_put {s : RS} {d : Tmp} {av : AV} {r : Tmp} {p : List (Nat × Nat)} {x k : Nat} (h : clean (s.put d av).d r p x k = true) : clean s.d r p x k = true ∧ ((s.e.get d).isV = true → r ≠ d) := by
 simp only [RS.put] at h
 split at h
 ·simp only [clean, Bool.and_eq_true] at h
  refine ⟨h.2, fun _ he => ?_⟩
  subst he
  simp at h
 ·exact ⟨h, fun hh => by rename_i hn; exact absurd hh hn⟩

theorem getD_set {vs : Array Value} {d t : Tmp} {v : Value} (hd : d < vs.size) : (vs.setIfInBounds d v).getD t undef = if t = d then v else vs.getD t undef := by
 simp only [Array.getD_eq_getD_getElem?, Array.getElem?_setIfInBounds]
 by_cases h : t = d
 ·subst h; simp [hd]
 ·rw [if_neg (fun e => h e.symm), if_neg h]

theorem Roots.put {w w' : World} {s : RS} {vs : Array Value} {d r : Tmp} {p : List (Nat × Nat)} {B : Base} {row : List L} {av : AV} {v : Value} (h : Roots w s.e vs r p B row) (hw : Below w.heap.size w w') (hd : d < vs.size)
  (hn : (s.e.get d).isV = true → r ≠ d) : Roots w' (s.put d av).e (vs.setIfInBounds d v) r p B row := by
 obtain ⟨c, h1, h2⟩ := h
 have hr : r ≠ d := fun e => hn (by rw [← e, h1]; rfl) e
 refine ⟨c, ?_, ?_⟩
 ·simp only [RS.put]; rw [get_put, if_neg hr]; exact h1
 ·rw [getD_set hd, if_neg hr]; exact h2.grow hw
theorem base_get_below {w w' : World} {B : Base} {j : Nat} {v : Value} (hw : Below w.heap.size w w') (h : B.get w j = some v) : B.get w' j = some v := by
 cases B with
 | addr b o => exact (hw.cell (p := ⟨b, o + j, none⟩) (World.block_lt_of_cell? w _ h)).trans h
 | vals cs => exact h

/-- A slot is written; the world may have got new blocks. -/
theorem Rel.step {arg : Tmp → Value} {W w w' : World} {I : Nat → Prop} {O : Tmp → Nat → Prop} {s : RS} {vs : Array Value} {d : Tmp} {av : AV} {v : Value} {S : Nat → Prop}
  (h : Rel arg W I O s vs w) (hd : d < vs.size) (hw : Below w.heap.size w w') (hS : ∀ b, S b → b < w'.heap.size ∧ ¬ I b ∧ ∀ t, t ≠ d → ¬ O t b)
  (hav : RepA arg w' I s vs av v S)
  (hfr : ∀ r p o, av = .ptr r p o → cleanP s.d r p = true → ∃ c, s.e.get r = .v c) :
  Rel arg W I (fun t => if t = d then S else O t) (s.put d av) (vs.setIfInBounds d v) w' := by
 have hold : ∀ b, b < w.heap.size → w'.heap[b]? = w.heap[b]? := hw.block
 refine ⟨h.bel.trans (hw.mono h.bel.size), h.old, fun b hb => Nat.lt_of_lt_of_le (h.ilt b hb) hw.size, fun t b hb => ?_, fun t b hb => ?_, fun t t' b hb hb' => ?_, fun t => ?_⟩
 ·by_cases ht : t = d
  ·simp only [ht, if_true] at hb; exact (hS b hb).1
  ·simp only [ht, if_false] at hb; exact Nat.lt_of_lt_of_le (h.olt t b hb) hw.size
 ·by_cases ht : t = d
  ·simp only [ht, if_true] at hb; exact (hS b hb).2.1
  ·simp only [ht, if_false] at hb; exact h.notI t b hb
 ·by_cases ht : t = d <;> by_cases ht' : t' = d
  ·rw [ht, ht']
  ·simp only [ht, if_true] at hb
   simp only [ht', if_false] at hb'
   exact absurd hb' ((hS b hb).2.2 t' ht')
  ·simp only [ht', if_true] at hb'
   simp only [ht, if_false] at hb
   exact absurd hb ((hS b hb').2.2 t ht)
  ·simp only [ht, if_false] at hb
   simp only [ht', if_false] at hb'
   exact h.disj t t' b hb hb'
 ·have hg : (s.put d av).e.get t = if t = d then av else s.e.get t := by simp only [RS.put]; exact get_put ..
  rw [hg, getD_set hd]
  by_cases ht : t = d
  ·simp only [ht, if_true]
   cases av with
   | ptr r p o =>
    intro hc
    obtain ⟨c1, c2⟩ := cleanP_put hc
    obtain ⟨b, o', row', k1, k2⟩ := hav c1
    have hb : Below w'.heap.size w' w' := Below.refl _ _
    obtain ⟨c, e1, e2⟩ := k1
    exact ⟨b, o', row', Roots.put (s := s) (vs := vs) ⟨c, e1, e2⟩ hb hd c2, k2⟩
   | ld r p o n agg =>
    intro hc
    obtain ⟨c1, c2⟩ := clean_put hc
    obtain ⟨B, row', k1, k0, k2, k3⟩ := hav c1
    exact ⟨B, row', Roots.put k1 (Below.refl _ _) hd c2, k0, k2, k3⟩
   | _ => exact hav
  ·simp only [ht, if_false]
   have hr := h.rep t
   have hblk : ∀ b, O t b ∨ I b → w'.heap[b]? = w.heap[b]? := fun b hb => hold b (hb.elim (h.olt t b) (h.ilt b))
   cases hav' : s.e.get t with
   | bad => trivial
   | un => rw [hav'] at hr; exact hr
   | v c => rw [hav'] at hr; exact RepC.world hr hblk
   | tup cs =>
    rw [hav'] at hr
    obtain ⟨us, h1, h2, D, d1, d2, d3⟩ := hr
    refine ⟨us, h1, h2, D, d1, d2, fun j c hc => ?_⟩
    obtain ⟨u, u1, u2⟩ := d3 j c hc
    exact ⟨u, u1, u2.world fun b hb => hblk b (hb.imp (d1 j b) id)⟩
   | iptr row o =>
    rw [hav'] at hr
    obtain ⟨b, o', h1, h2, h3⟩ := hr
    exact ⟨b, o', h1, h2, h3.world (fun j _ => World.cell?_of_block (w := w) (w' := w') (a := ⟨b, o' + j, none⟩) (hblk b (.inr h1))) fun x hx => hblk x (.inr (hx.resolve_left id))⟩
   | ptr r p o =>
    rw [hav'] at hr
    intro hc
    obtain ⟨c1, c2⟩ := cleanP_put hc
    obtain ⟨b, o', row', k1, k2⟩ := hr c1
    exact ⟨b, o', row', k1.put hw hd c2, k2⟩
   | ld r p o n agg =>
    rw [hav'] at hr
    intro hc
    obtain ⟨c1, c2⟩ := clean_put hc
    obtain ⟨B, row', k1, k0, k2, k3⟩ := hr c1
    refine ⟨B, row', k1.put hw hd c2, k0, fun ha => ?_, fun ha => ?_⟩
    ·obtain ⟨cs, q1, q2, q3⟩ := k2 ha
     refine ⟨cs, q1, q2, fun j hj => ?_⟩
     have hs : ∃ u, cs[j]? = some u := ⟨cs[j]'(by omega), Array.getElem?_eq_getElem _⟩
     obtain ⟨u, hu⟩ := hs
     rw [hu]
     exact (base_get_below hw ((q3 j hj).symm.trans hu)).symm
    ·exact ⟨(k3 ha).1, base_get_below hw (k3 ha).2⟩

end Go.VS

/- Looking at what a slot stands for, and taking it from its place. -/
namespace Go.VS
open Go Go.RowKit
set_option linter.unusedSimpArgs false
set_option linter.unusedVariables false

variable {arg : Tmp → Value} {W w w' : World} {I I' : Nat → Prop} {O : Tmp → Nat → Prop} {s s' : RS} {vs : Array Value} {S : Nat → Prop} {c : CV} {x : X} {v : Value}

/-- What an operand is in the frame. -/
def XV (vs : Array Value) : X → Value → Prop
 | .t t, v => v = vs.getD t undef
 | .c c, v => ∀ arg w I, RepC arg w I c v (fun _ => False)

theorem RepRow.sub {row : List L} {get : Nat → Option Value} (h : RepRow w I row get S) (o n : Nat) : RepRow w I ((row.drop o).take n) (fun j => get (o + j)) S := by
 obtain ⟨D, h1, h2, h3⟩ := h
 refine ⟨fun j => D (o + j), fun j x hx => h1 _ x hx, fun j j' x hx hx' => by have := h2 _ _ x hx hx'; omega, fun j l hl => ?_⟩
 have hj : j < n := by
  have := (List.getElem?_eq_some_iff.1 hl).1
  rw [List.length_take] at this
  omega
 rw [List.getElem?_take_of_lt hj, List.getElem?_drop] at hl
 exact h3 (o + j) l hl

/-- A row's leaves from o on, n wide, as one value. -/
def Loaded (get : Nat → Option Value) (o n : Nat) (agg : Bool) (v : Value) : Prop :=
 (agg = true → ∃ cs, v = .agg cs ∧ cs.size = n ∧ ∀ j, j < n → cs[j]? = get (o + j)) ∧ (agg = false → n = 1 ∧ get o = some v)

theorem cells_rep {row : List L} {get : Nat → Option Value} {o n : Nat} {agg : Bool} (h : RepRow w I row get S) (hc : cellsOf row o n agg = some c) (hl : Loaded get o n agg v) : RepC arg w I c v S := by
 cases agg with
 | true =>
  simp only [cellsOf, if_true] at hc
  split at hc
  ·rename_i hn
   obtain rfl := (Option.some.inj hc).symm
   obtain ⟨cs, rfl, h1, h2⟩ := hl.1 rfl
   refine ⟨cs, rfl, by rw [h1, List.length_take, List.length_drop]; omega, (h.sub o n).world (fun j hj => ?_) fun _ _ => rfl⟩
   rw [List.length_take] at hj
   exact h2 j (by omega)
  ·cases hc
 | false =>
  simp only [cellsOf, if_false, Bool.false_eq_true] at hc
  split at hc
  ·rename_i l hr
   obtain rfl := (Option.some.inj hc).symm
   obtain ⟨D, h1, h2, h3⟩ := h
   obtain ⟨u, u1, u2, u3⟩ := h3 o l hr
   have := (hl.2 rfl).2
   rw [u1] at this
   obtain rfl := Option.some.inj this
   exact ⟨u2, u3.mono (fun _ h => h) (h1 o)⟩
  ·cases hc

theorem cells_row {row : List L} {o n : Nat} {agg : Bool} (hc : cellsOf row o n agg = some c) (h1 : agg = false → n = 1) : c.row = (row.drop o).take n ∧ o + n ≤ row.length := by
 cases agg with
 | true =>
  simp only [cellsOf, if_true] at hc
  split at hc
  ·obtain rfl := (Option.some.inj hc).symm
   exact ⟨rfl, by assumption⟩
  ·cases hc
 | false =>
  simp only [cellsOf, if_false, Bool.false_eq_true] at hc
  split at hc
  ·rename_i l hr
   obtain rfl := (Option.some.inj hc).symm
   have hlt := (List.getElem?_eq_some_iff.1 hr).1
   have h1 := h1 rfl
   subst h1
   refine ⟨?_, by omega⟩
   rw [List.drop_eq_getElem_cons hlt]
   simp only [CV.row, List.take_succ_cons, List.take_zero]
   rw [← (List.getElem?_eq_some_iff.1 hr).2]
  ·cases hc

theorem slot_some {e : Env} {r : Tmp} {p : List (Nat × Nat)} {row : List L} (h : slotAt e r p = some row) : ∃ c, e.get r = .v c ∧ rowAt p c.row = some row := by
 unfold slotAt rowOf at h
 split at h
 ·rename_i row0 h0
  split at h0
  ·rename_i c hc
   exact ⟨c, hc, by rw [Option.some.inj h0]; exact h⟩
  ·cases h0
 ·cases h

/-- The row at a place, in memory. -/
theorem Rel.slot (h : Rel arg W I O s vs w) {r : Tmp} {p : List (Nat × Nat)} {row : List L} (hs : slotAt s.e r p = some row) :
  ∃ c B' S', s.e.get r = .v c ∧ Follow w (c.base (vs.getD r undef)) c.row p B' row ∧ RepRow w I row (B'.get w) S' ∧ (∀ x, S' x → Under (c.base (vs.getD r undef)) (O r) x) ∧
   (p ≠ [] → ∃ b o cs e, B' = .addr b o ∧ O r b ∧ ¬ S' b ∧ w.heap[b]? = some (.cells cs e (0, 0)) ∧ o + row.length ≤ cs.size) ∧ Pokes w I p (c.base (vs.getD r undef)) c.row (Under (c.base (vs.getD r undef)) (O r)) B' row S' := by
 obtain ⟨c, hc, hp⟩ := slot_some hs
 have hr := h.rep r
 rw [hc] at hr
 obtain ⟨B', S', f1, f2, f3, f4, f5⟩ := follow p (RepC.root hr) hp
 exact ⟨c, B', S', hc, f1, f2, f3, fun hp => by obtain ⟨b, o, cs, e, k1, k2, k3⟩ := f4 hp; exact ⟨b, o, cs, e, k1, k2.1, k3⟩, f5⟩

theorem Roots.unique {r : Tmp} {p : List (Nat × Nat)} {B B' : Base} {row row' : List L} (h : Roots w s.e vs r p B row) (hc : s.e.get r = .v c) (hf : Follow w (c.base (vs.getD r undef)) c.row p B' row') : B = B' ∧ row = row' := by
 obtain ⟨c2, h1, h2⟩ := h
 rw [hc] at h1
 obtain rfl := (AV.v.inj h1).symm
 exact h2.same hf

/-- What an operand stands for lies as it should. -/
theorem Rel.look (h : Rel arg W I O s vs w) (hx : XV vs x v) (hl : s.look (s.val x) = some c) : ∃ t S, RepC arg w I c v S ∧ ∀ b, S b → O t b := by
 cases x with
 | c c0 =>
  simp only [RS.val, RS.look, Option.some.injEq] at hl
  subst hl
  exact ⟨0, fun _ => False, hx arg w I, fun _ h => h.elim⟩
 | t t =>
  simp only [XV] at hx
  subst hx
  simp only [RS.val] at hl
  have hr := h.rep t
  cases hav : s.e.get t with
  | v c0 =>
   rw [hav] at hl hr
   simp only [RS.look, Option.some.injEq] at hl
   subst hl
   exact ⟨t, O t, hr, fun _ h => h⟩
  | ld r p o n agg =>
   rw [hav] at hl hr
   simp only [RS.look] at hl
   split at hl
   ·rename_i hcl
    split at hl
    ·rename_i row hs
     obtain ⟨B, row', k1, k2⟩ := hr hcl
     obtain ⟨c1, B', S', hc1, f1, f2, f3, _⟩ := h.slot hs
     obtain ⟨rfl, rfl⟩ := k1.unique hc1 f1
     exact ⟨r, S', cells_rep f2 hl k2.2, fun b hb => (f3 b hb).1⟩
    ·cases hl
   ·cases hl
  | _ => rw [hav] at hl; cases hl

theorem patch_length : ∀ (ls row : List L) (o : Nat), (patch row o ls).length = row.length
 | [], row, o => rfl
 | l :: ls, row, o => by simp only [patch]; rw [patch_length ls]; simp
theorem patch_get : ∀ (ls row : List L) (o j : Nat), o + ls.length ≤ row.length → (patch row o ls)[j]? = if o ≤ j ∧ j < o + ls.length then ls[j - o]? else row[j]?
 | [], row, o, j, _ => by
  simp only [patch, List.length_nil, Nat.add_zero]
  rw [if_neg (by omega)]
 | l :: ls, row, o, j, h => by
  simp only [patch]
  rw [List.length_cons] at h ⊢
  rw [patch_get ls _ _ _ (by rw [List.length_set]; omega)]
  by_cases h1 : o ≤ j ∧ j < o + (ls.length + 1)
  ·rw [if_pos h1]
   by_cases h2 : j = o
   ·subst h2
    rw [if_neg (by omega), Nat.sub_self, List.getElem?_set_self (by omega)]
    rfl
   ·rw [if_pos (by omega), show j - o = (j - (o + 1)) + 1 by omega, List.getElem?_cons_succ]
  ·rw [if_neg h1, if_neg (by omega), List.getElem?_set_ne (by omega)]
theorem unownR_length : ∀ r : List L, (unownR r).length = r.length
 | [] => rfl
 | _ :: r => by simp only [unownR, List.length_cons, unownR_length r]
theorem unownR_get : ∀ (r : List L) (j : Nat), (unownR r)[j]? = (r[j]?).map L.unown
 | [], j => by simp [unownR]
 | x :: r, 0 => by simp [unownR]
 | x :: r, j + 1 => by simp [unownR, unownR_get r j]

/-- A row parted: what some of its leaves own, and the rest. -/
theorem RepRow.part {row : List L} {get : Nat → Option Value} (h : RepRow w I row get S) (o n : Nat) (hn : o + n ≤ row.length) :
  ∃ A T : Nat → Prop, (∀ x, A x → S x) ∧ (∀ x, T x → S x) ∧ (∀ x, A x → ¬ T x) ∧ RepRow w I ((row.drop o).take n) (fun j => get (o + j)) A ∧
   RepRow w I (patch row o (unownR ((row.drop o).take n))) get T := by
 obtain ⟨D, h1, h2, h3⟩ := h
 have hlen : ((row.drop o).take n).length = n := by rw [List.length_take, List.length_drop]; omega
 refine ⟨fun x => ∃ j, j < n ∧ D (o + j) x, fun x => ∃ j, ¬ (o ≤ j ∧ j < o + n) ∧ D j x, fun x ⟨j, _, hx⟩ => h1 _ x hx, fun x ⟨j, _, hx⟩ => h1 _ x hx, fun x ⟨j, hj, hx⟩ ⟨j', hj', hx'⟩ => ?_, ?_, ?_⟩
 ·have := h2 _ _ x hx hx'
  omega
 ·refine ⟨fun j x => j < n ∧ D (o + j) x, fun j x hx => ⟨j, hx⟩, fun j j' x hx hx' => by have := h2 _ _ x hx.2 hx'.2; omega, fun j l hl => ?_⟩
  have hj : j < n := by have := (List.getElem?_eq_some_iff.1 hl).1; omega
  rw [List.getElem?_take_of_lt hj, List.getElem?_drop] at hl
  obtain ⟨u, u1, u2, u3⟩ := h3 _ l hl
  exact ⟨u, u1, u2, u3.mono (fun _ h => h) fun x hx => ⟨hj, hx⟩⟩
 ·refine ⟨fun j x => ¬ (o ≤ j ∧ j < o + n) ∧ D j x, fun j x hx => ⟨j, hx⟩, fun j j' x hx hx' => h2 _ _ x hx.2 hx'.2, fun j l hl => ?_⟩
  rw [patch_get _ _ _ _ (by rw [unownR_length, hlen]; exact hn), unownR_length, hlen] at hl
  by_cases hj : o ≤ j ∧ j < o + n
  ·rw [if_pos hj, unownR_get, Option.map_eq_some_iff] at hl
   obtain ⟨l0, hl0, rfl⟩ := hl
   rw [List.getElem?_take_of_lt (by omega), List.getElem?_drop, show o + (j - o) = j by omega] at hl0
   obtain ⟨u, u1, u2, u3⟩ := h3 j l0 hl0
   refine ⟨u, u1, u2, ?_⟩
   unfold L.unown
   split
   ·exact .bad ..
   ·rename_i hno
    exact u3.unowned (by simpa using hno)
  ·rw [if_neg hj] at hl
   obtain ⟨u, u1, u2, u3⟩ := h3 j l hl
   exact ⟨u, u1, u2, u3.mono (fun _ h => h) fun x hx => ⟨hj, hx⟩⟩

theorem RepC.withRow {row : List L} {T : Nat → Prop} (h : RepC arg w I c v S) (hl : row.length = c.row.length) (hr : RepRow w I row ((c.base v).get w) T) (hT : ∀ x, T x → S x)
  (hb : ∀ b o, c.base v = .addr b o → ¬ T b) (hsf : ∀ (j : Nat) t, row[j]? = some (L.self t) → c.row[j]? = some (L.self t)) : RepC arg w I (c.withRow row) v (fun x => T x ∨ ∃ o, c.base v = .addr x o) := by
 cases c with
 | leaf l =>
  cases row with
  | nil => simp [CV.row] at hl
  | cons l' r =>
   obtain ⟨D, h1, h2, h3⟩ := hr
   obtain ⟨u, u1, u2, u3⟩ := h3 0 l' rfl
   simp only [CV.base, Base.get] at u1
   obtain rfl := Option.some.inj u1
   exact ⟨u2, u3.mono (fun _ h => h) fun x hx => .inl (h1 0 x hx)⟩
 | agg ls =>
  obtain ⟨cs, rfl, h2, h3⟩ := h
  exact ⟨cs, rfl, h2.trans hl.symm, hr.mono (fun _ h => h) fun x hx => .inl hx⟩
 | box ls =>
  obtain ⟨b, cs, e, rfl, h2, h3, h4, h5, h6⟩ := h
  refine ⟨b, cs, e, rfl, .inr ⟨0, rfl⟩, h3, h4.trans hl.symm, (hr.world (fun j _ => ?_) fun _ _ => rfl).mono (fun _ h => h) (fun x hx => ⟨.inl hx, fun he => hb b 0 rfl (he ▸ hx)⟩), fun j t hj => h6 j t (hsf j t hj)⟩
  simp only [CV.base, Base.get, World.cell?, h3, Nat.zero_add]
  rfl
 | pbox t ls =>
  obtain ⟨b, cs, e, rfl, h2, h3, h4, h5, h6⟩ := h
  refine ⟨b, cs, e, rfl, .inr ⟨0, rfl⟩, h3, h4.trans hl.symm, (hr.world (fun j _ => ?_) fun _ _ => rfl).mono (fun _ h => h) (fun x hx => ⟨.inl hx, fun he => hb b 0 rfl (he ▸ hx)⟩), h6⟩
  simp only [CV.base, Base.get, World.cell?, h3, Nat.zero_add]
  rfl
 | gone => trivial

end Go.VS

/- A place's leaves changed, in the value and perhaps in memory. -/
namespace Go.VS
open Go Go.RowKit
set_option linter.unusedSimpArgs false
set_option linter.unusedVariables false

variable {arg : Tmp → Value} {W w w' : World} {I I' : Nat → Prop} {O : Tmp → Nat → Prop} {s s' : RS} {vs : Array Value} {S : Nat → Prop} {c : CV} {x : X} {v : Value}

theorem base_owned (h : RepC arg w I c v S) {b o : Nat} (hb : c.base v = .addr b o) : S b ∧ o = 0 ∧ ∃ cs e, w.heap[b]? = some (.cells cs e (0, 0)) ∧ cs.size = c.row.length := by
 cases c with
 | box row =>
  obtain ⟨b', cs, e, rfl, h2, h3, h4, h5⟩ := h
  simp only [CV.base, Base.addr.injEq] at hb
  obtain ⟨rfl, rfl⟩ := hb
  exact ⟨h2, rfl, cs, e, h3, h4⟩
 | pbox t row =>
  obtain ⟨b', cs, e, rfl, h2, h3, h4, h5, _⟩ := h
  simp only [CV.base, Base.addr.injEq] at hb
  obtain ⟨rfl, rfl⟩ := hb
  exact ⟨h2, rfl, cs, e, h3, h4⟩
 | leaf l => cases hb
 | agg ls => obtain ⟨cs, rfl, _⟩ := h; cases hb
 | gone => cases hb

theorem clean_mark {d : List Dirt} {r r' : Tmp} {q p : List (Nat × Nat)} {o n x k : Nat} (h : clean ((r, q, o, n) :: d) r' p x k = true) : clean d r' p x k = true ∧ (r = r' → n ≠ 0 ∧ meets q o n p x k = false) := by
 simp only [clean, Bool.and_eq_true, Bool.not_eq_true', Bool.and_eq_false_iff, Bool.or_eq_false_iff, beq_eq_false_iff_ne] at h
 refine ⟨h.2, fun he => ?_⟩
 rcases h.1 with h1 | h1
 ·exact absurd he h1
 ·exact h1
theorem cleanP_mark {d : List Dirt} {r r' : Tmp} {q p : List (Nat × Nat)} {o n : Nat} (h : cleanP ((r, q, o, n) :: d) r' p = true) : cleanP d r' p = true ∧ (r = r' → n ≠ 0 ∧ hits q o n p = false) := by
 simp only [cleanP, Bool.and_eq_true, Bool.not_eq_true', Bool.and_eq_false_iff, Bool.or_eq_false_iff, beq_eq_false_iff_ne] at h
 refine ⟨h.2, fun he => ?_⟩
 rcases h.1 with h1 | h1
 ·exact absurd he h1
 ·exact h1
theorem meets_hits : ∀ (q p : List (Nat × Nat)) (o n x k : Nat), meets q o n p x k = false → hits q o n p = false
 | [], [], _, _, _, _, _ => rfl
 | [], _ :: _, _, _, _, _, h => h
 | _ :: _, [], _, _, _, _, _ => rfl
 | (a, _) :: q, (b, _) :: p, o, n, x, k, h => by
  simp only [meets, hits, Bool.and_eq_false_iff] at h ⊢
  exact h.imp id (meets_hits q p o n x k)

theorem poke_some {r : Tmp} {p : List (Nat × Nat)} {o : Nat} {ls row : List L} (hc : s.e.get r = .v c) (hp : rowAt p c.row = some row) (h : s.poke r p o ls = some s') : s' = s.set r (.v (c.withRow (setRow p c.row (patch row o ls)))) := by
 simp only [RS.poke, hc, hp, Option.some.injEq] at h
 exact h.symm

theorem row_withRow {row : List L} (hl : row.length = c.row.length) : (c.withRow row).row = row := by
 cases c with
 | leaf l =>
  cases row with
  | nil => simp [CV.row] at hl
  | cons a r =>
   simp only [CV.row, List.length_cons, List.length_nil] at hl
   obtain rfl : r = [] := List.eq_nil_of_length_eq_zero (by omega)
   rfl
 | agg ls => rfl
 | box ls => rfl
 | pbox t ls => rfl
 | gone => exact (List.eq_nil_of_length_eq_zero hl).symm

theorem setRow_self {p : List (Nat × Nat)} {row new : List L} {j : Nat} {t : TypeId} (hp : p ≠ []) (h : (setRow p row new)[j]? = some (L.self t)) : row[j]? = some (L.self t) := by
 cases p with
 | nil => exact absurd rfl hp
 | cons q p =>
  obtain ⟨c, i⟩ := q
  unfold setRow at h
  split at h
  ·split at h
   ·rw [List.getElem?_set] at h
    split at h
    ·split at h
     ·cases h
     ·cases h
    ·exact h
   ·exact h
  ·exact h
theorem patch_self {row ls : List L} {o j : Nat} {t : TypeId} (hn : o + ls.length ≤ row.length) (hs : noS ls = true) (h : (patch row o ls)[j]? = some (L.self t)) : row[j]? = some (L.self t) ∧ ¬ (o ≤ j ∧ j < o + ls.length) := by
 rw [patch_get ls row o j hn] at h
 split at h
 ·exact absurd h (noS_get hs)
 ·exact ⟨h, by assumption⟩
theorem unownR_self : ∀ {r : List L} {j : Nat} {t : TypeId}, (unownR r)[j]? = some (L.self t) → r[j]? = some (L.self t)
 | [], j, _, h => by simp [unownR] at h
 | l :: r, 0, t, h => by
  simp only [unownR, List.getElem?_cons_zero, Option.some.injEq] at h
  unfold L.unown at h
  split at h
  ·cases h
  ·rw [h]; rfl
 | l :: r, j + 1, t, h => by simpa using unownR_self (r := r) (by simpa [unownR] using h)
theorem patch_unown {row : List L} {o n j : Nat} {t : TypeId} (hn : o + n ≤ row.length) (h : (patch row o (unownR ((row.drop o).take n)))[j]? = some (L.self t)) : row[j]? = some (L.self t) := by
 have hl : (unownR ((row.drop o).take n)).length = n := by rw [unownR_length, List.length_take, List.length_drop]; omega
 rw [patch_get _ row o j (by rw [hl]; exact hn), hl] at h
 split at h
 ·rename_i hj
  have := unownR_self h
  rw [List.getElem?_take_of_lt (by omega), List.getElem?_drop, show o + (j - o) = j by omega] at this
  exact this
 ·exact h
/-- The leaves at a place have changed. -/
theorem Rel.poke (h : Rel arg W I O s vs w) {r : Tmp} {p : List (Nat × Nat)} {o : Nat} {ls row : List L} {B' : Base} {S' T N : Nat → Prop}
  (hc : s.e.get r = .v c) (hf : Follow w (c.base (vs.getD r undef)) c.row p B' row) (hS' : ∀ x, S' x → Under (c.base (vs.getD r undef)) (O r) x)
  (hBb : p ≠ [] → ∀ b o', B' = .addr b o' → O r b ∧ ¬ S' b ∧ ∀ o2, c.base (vs.getD r undef) ≠ .addr b o2)
  (hpk : Pokes w I p (c.base (vs.getD r undef)) c.row (Under (c.base (vs.getD r undef)) (O r)) B' row S') (hs' : s.poke r p o ls = some s') (hn : o + ls.length ≤ row.length)
  (hnew : RepRow w' I' (patch row o ls) (B'.get w') T) (hT : ∀ x, T x → S' x ∨ N x) (hN : ∀ x, N x → x < w'.heap.size ∧ ¬ I' x ∧ ∀ t, ¬ O t x)
  (hbel : Below W.heap.size W w') (hsz : w.heap.size ≤ w'.heap.size) (hI : ∀ x, I x → I' x) (hI' : ∀ x, I' x → x < w'.heap.size)
  (hIO : ∀ x, I' x → ¬ I x → (∀ t, ¬ O t x) ∨ (O r x ∧ S' x ∧ ¬ T x))
  (hw : ∀ x, (∀ o', B' ≠ .addr x o') → x < w.heap.size → w'.heap[x]? = w.heap[x]?)
  (hblk : ∀ b o', B' = .addr b o' → ∃ cs cs' e, w.heap[b]? = some (.cells cs e (0, 0)) ∧ w'.heap[b]? = some (.cells cs' e (0, 0)) ∧ cs'.size = cs.size ∧ ∀ k, ¬ (o' + o ≤ k ∧ k < o' + o + ls.length) → cs'[k]? = cs[k]?)
  (hpb : p = [] → ∀ t row0, c = .pbox t row0 → ∀ x, x < w.heap.size → w'.heap[x]? = w.heap[x]?)
  (hself : ∀ (j : Nat) t0, (patch row o ls)[j]? = some (L.self t0) → row[j]? = some (L.self t0) ∧ ∀ b o' cs cs' e e', B' = .addr b o' → w.heap[b]? = some (.cells cs e (0, 0)) → w'.heap[b]? = some (.cells cs' e' (0, 0)) → cs'[o' + j]? = cs[o' + j]? ∧ e' = e) :
  Rel arg W I' (fun t x => if t = r then ((Under (c.base (vs.getD r undef)) (O r) x ∧ (S' x → T x)) ∨ N x) ∨ ∃ o2, c.base (vs.getD r undef) = .addr x o2 else O t x) (s'.mark r p o ls.length) vs w' := by
 have hrc := h.rep r
 rw [hc] at hrc
 have hrc : RepC arg w I c (vs.getD r undef) (O r) := hrc
 have hroot := RepC.root hrc
 have hrow := hf.rowAt
 obtain rfl := poke_some hc hrow hs'
 -- the root's own block
 have hbase : ∀ b o2, c.base (vs.getD r undef) = .addr b o2 → O r b := fun b o2 hb => (base_owned hrc hb).1
 -- the changed block is the root's
 have hB'O : ∀ b o', B' = .addr b o' → O r b := fun b o' hB => by
  by_cases hp : p = []
  ·subst hp; cases hf; exact hbase b o' hB
  ·exact (hBb hp b o' hB).1
 have hBw : p ≠ [] → ∀ j, (c.base (vs.getD r undef)).get w' j = (c.base (vs.getD r undef)).get w j := fun hp j => by
  cases hb : c.base (vs.getD r undef) with
  | vals cs => rfl
  | addr b o2 =>
   refine World.cell?_of_block (w := w) (w' := w') (a := ⟨b, o2 + j, none⟩) (hw b (fun o' hB => ?_) (h.olt r b (hbase b o2 hb)))
   exact (hBb hp b o' hB).2.2 o2 hb
 have hIw : ∀ x, I x → w'.heap[x]? = w.heap[x]? := fun x hx => hw x (fun o' hB => h.notI r x (hB'O x o' hB) hx) (h.ilt x hx)
 have hlen : (patch row o ls).length = row.length := patch_length ls row o
 have hnewrow := hpk w' I' N T (patch row o ls) hlen hnew hT (fun x hx hu => (hN x hx).2.2 r hu.1) hI hIw
  (fun x hx hns hne => by
   by_cases hp : p = []
   ·subst hp
    cases hf
    exact hw x (fun o' hB => hx.2 o' hB) (h.olt r x hx.1)
   ·exact hw x (fun o' hB => hne x o' hB hp rfl) (h.olt r x hx.1))
  (fun hp b o' hB => by
   obtain ⟨cs, cs', e, k1, k2, k3, k4⟩ := hblk b o' hB
   exact ⟨cs, cs', e, k1, k2, k3, fun k hk => k4 k (by omega)⟩) hBw
 have hsetlen : (setRow p c.row (patch row o ls)).length = c.row.length := by
  by_cases hp : p = []
  ·subst hp; cases hf; exact hlen
  ·exact setRow_length p _ _ hp
 refine ⟨hbel, fun b hb => hI b (h.old b hb), hI', fun t b hb => ?_, fun t b hb => ?_, fun t t' b hb hb' => ?_, fun t => ?_⟩
 ·by_cases ht : t = r
  ·simp only [ht, if_true] at hb
   rcases hb with (hb | hb) | ⟨o2, hb⟩
   ·exact Nat.lt_of_lt_of_le (h.olt r b hb.1.1) hsz
   ·exact (hN b hb).1
   ·exact Nat.lt_of_lt_of_le (h.olt r b (hbase b o2 hb)) hsz
  ·simp only [ht, if_false] at hb; exact Nat.lt_of_lt_of_le (h.olt t b hb) hsz
 ·intro hi
  by_cases hib : I b
  ·by_cases ht : t = r
   ·simp only [ht, if_true] at hb
    rcases hb with (hb | hb) | ⟨o2, hb⟩
    ·exact h.notI r b hb.1.1 hib
    ·exact (hN b hb).2.1 hi
    ·exact h.notI r b (hbase b o2 hb) hib
   ·simp only [ht, if_false] at hb; exact h.notI t b hb hib
  ·rcases hIO b hi hib with hno | ⟨hor, hs, hnt⟩
   ·by_cases ht : t = r
    ·simp only [ht, if_true] at hb
     rcases hb with (hb | hb) | ⟨o2, hb⟩
     ·exact hno r hb.1.1
     ·exact (hN b hb).2.1 hi
     ·exact hno r (hbase b o2 hb)
    ·simp only [ht, if_false] at hb; exact hno t hb
   ·by_cases ht : t = r
    ·simp only [ht, if_true] at hb
     rcases hb with (hb | hb) | ⟨o2, hb⟩
     ·exact hnt (hb.2 hs)
     ·exact (hN b hb).2.1 hi
     ·exact (hS' b hs).2 o2 hb
    ·simp only [ht, if_false] at hb; exact ht (h.disj t r b hb hor)
 ·by_cases ht : t = r <;> by_cases ht' : t' = r
  ·rw [ht, ht']
  ·simp only [ht, if_true] at hb
   simp only [ht', if_false] at hb'
   rcases hb with (hb | hb) | ⟨o2, hb⟩
   ·exact absurd (h.disj r t' b hb.1.1 hb').symm ht'
   ·exact absurd hb' ((hN b hb).2.2 t')
   ·exact absurd (h.disj r t' b (hbase b o2 hb) hb').symm ht'
  ·simp only [ht', if_true] at hb'
   simp only [ht, if_false] at hb
   rcases hb' with (hb' | hb') | ⟨o2, hb'⟩
   ·exact absurd (h.disj r t b hb'.1.1 hb).symm ht
   ·exact absurd hb ((hN b hb').2.2 t)
   ·exact absurd (h.disj r t b (hbase b o2 hb') hb).symm ht
  ·simp only [ht, if_false] at hb
   simp only [ht', if_false] at hb'
   exact h.disj t t' b hb hb'
 ·have hg : ((s.set r (.v (c.withRow (setRow p c.row (patch row o ls))))).mark r p o ls.length).e.get t = if t = r then .v (c.withRow (setRow p c.row (patch row o ls))) else s.e.get t := by simp only [RS.set, RS.mark]; exact get_put ..
  -- roots seen from a slot that is not hit
  have hroots : ∀ r2 p2 B2 row2, Roots w s.e vs r2 p2 B2 row2 → (r = r2 → hits p o ls.length p2 = false) →
    ∃ row2', Roots w' (s.e.put r (.v (c.withRow (setRow p c.row (patch row o ls))))) vs r2 p2 B2 row2' ∧ row2'.length = row2.length ∧ ∀ x k, (r = r2 → meets p o ls.length p2 x k = false) → x + k ≤ row2.length → ∀ j, x ≤ j → j < x + k → B2.get w' j = B2.get w j := by
   intro r2 p2 B2 row2 ⟨c2, g1, g2⟩ hh
   by_cases hr : r2 = r
   ·subst hr
    rw [hc] at g1
    obtain rfl := AV.v.inj g1
    obtain ⟨row2', k1, k2, k3⟩ := follow_poke (w' := w') (o := o) (n := ls.length) (new := patch row o ls) p p2 hroot hf g2 (hh rfl) hlen (fun j hj => by rw [patch_get ls row o j hn, if_neg hj])
     (fun j hj hjp => by
      by_cases hp : p = []
      ·subst hp
       cases hf
       cases hb : c.base (vs.getD r2 undef) with
       | vals cs => rfl
       | addr b o2 =>
        obtain ⟨cs, cs', e, m1, m2, m3, m4⟩ := hblk b o2 hb
        simp only [Base.get]
        rw [cell_of m1, cell_of m2]
        exact m4 _ (by have := hjp rfl; omega)
      ·exact hBw hp j)
     (fun b o' hp hB => by
      obtain ⟨cs, cs', e, m1, m2, m3, m4⟩ := hblk b o' hB
      exact ⟨cs, cs', e, m1, m2, m4⟩) (fun _ => hn)
     (fun x hx hne => by
      by_cases hp : p = []
      ·subst hp
       cases hf
       exact hw x (fun o' hB => hx.2 o' hB) (h.olt r2 x hx.1)
      ·exact hw x (fun o' hB => hne hp o' hB) (h.olt r2 x hx.1))
    refine ⟨row2', ⟨_, by rw [get_put, if_pos rfl], ?_⟩, k2, fun x k hm => k3 x k (hm rfl)⟩
    rw [base_withRow, row_withRow hsetlen]
    exact k1
   ·have hr2 := h.rep r2
    rw [g1] at hr2
    have hne : ∀ x, O r2 x → w'.heap[x]? = w.heap[x]? := fun x hx => hw x (fun o' hB => hr (h.disj r2 r x hx (hB'O x o' hB))) (h.olt r2 x hx)
    obtain ⟨k1, k2⟩ := g2.world (w' := w') (RepC.root hr2) (fun x hx => hne x hx.1) (fun j _ => by
     cases hb : c2.base (vs.getD r2 undef) with
     | vals cs => rfl
     | addr b o2 => exact World.cell?_of_block (w := w) (w' := w') (a := ⟨b, o2 + j, none⟩) (hne b (base_owned hr2 hb).1))
    exact ⟨row2, ⟨c2, by rw [get_put, if_neg hr]; exact g1, k1⟩, rfl, fun x k _ hx j _ h2 => k2 j (by omega)⟩
  rw [hg]
  by_cases ht : t = r
  ·subst ht
   simp only [if_true]
   have hsz' : ∀ b o2, c.base (vs.getD t undef) = .addr b o2 → ∃ cs e, w'.heap[b]? = some (.cells cs e (0, 0)) ∧ cs.size = c.row.length := fun b o2 hb => by
    obtain ⟨_, _, cs, e, m1, m2⟩ := base_owned hrc hb
    by_cases hp : p = []
    ·subst hp
     cases hf
     obtain ⟨cs1, cs', e', n1, n2, n3, _⟩ := hblk b o2 hb
     rw [m1] at n1
     simp only [Option.some.injEq, Obj.cells.injEq] at n1
     obtain ⟨rfl, rfl, _⟩ := n1
     exact ⟨cs', e, n2, n3.trans m2⟩
    ·exact ⟨cs, e, (hw b (fun o' hB => (hBb hp b o' hB).2.2 o2 hb) (h.olt t b (hbase b o2 hb))).trans m1, m2⟩
   have hnb : ∀ b o2, c.base (vs.getD t undef) = .addr b o2 → ¬ ((Under (c.base (vs.getD t undef)) (O t) b ∧ (S' b → T b)) ∨ N b) := fun b o2 hb hx => by
    rcases hx with hx | hx
    ·exact hx.1.2 o2 hb
    ·exact (hN b hx).2.2 t (hbase b o2 hb)
   show RepC arg w' I' (c.withRow _) (vs.getD t undef) _
   cases c with
   | leaf l =>
    obtain ⟨D, h1, h2, h3⟩ := hnewrow
    cases hrw : setRow p (CV.leaf l).row (patch row o ls) with
    | nil => rw [hrw] at hsetlen; simp [CV.row] at hsetlen
    | cons l' r' =>
     rw [hrw] at h3
     obtain ⟨u, u1, u2, u3⟩ := h3 0 l' rfl
     simp only [CV.base, Base.get] at u1
     obtain rfl := Option.some.inj u1
     exact ⟨u2, u3.mono (fun _ h => h) fun x hx => .inl (h1 0 x hx)⟩
   | agg ls0 =>
    obtain ⟨cs, hv, h2, h3⟩ := hrc
    refine ⟨cs, hv, h2.trans hsetlen.symm, ?_⟩
    refine RepRow.mono ?_ (fun _ h => h) (fun x hx => .inl hx)
    rw [hv] at hnewrow
    rw [hv]
    exact hnewrow
   | box ls0 =>
    obtain ⟨b, cs, e, hv, h2, h3, h4, h5, h6⟩ := hrc
    have hb : (CV.box ls0).base (vs.getD t undef) = .addr b 0 := by rw [hv]; rfl
    obtain ⟨cs', e', m1, m2⟩ := hsz' b 0 hb
    refine ⟨b, cs', e', hv, .inr ⟨0, hb⟩, m1, m2.trans hsetlen.symm, (hnewrow.world (fun j _ => ?_) fun _ _ => rfl).mono (fun _ h => h) (fun x hx => ⟨.inl hx, fun he => hnb b 0 hb (he ▸ hx)⟩), fun j t0 hj => ?_⟩
    ·rw [hb]
     simp only [Base.get, Nat.zero_add]
     exact (cell_of m1 j).symm
    ·by_cases hp : p = []
     ·subst hp
      obtain ⟨q1, q2⟩ := hself j t0 hj
      have hB : B' = .addr b 0 := by rw [← hb]; cases hf; rfl
      have hrw : row = ls0 := by
       have := hrow
       simp only [rowAt, CV.row, Option.some.injEq] at this
       exact this.symm
      obtain ⟨q3, q4⟩ := q2 b 0 cs cs' e e' hB h3 m1
      rw [Nat.zero_add] at q3
      rw [q3, q4]
      exact h6 j t0 (hrw ▸ q1)
     ·have hbw : w'.heap[b]? = some (.cells cs e (0, 0)) := (hw b (fun o' hB => (hBb hp b o' hB).2.2 0 hb) (h.olt t b h2)).trans h3
      rw [hbw] at m1
      simp only [Option.some.injEq, Obj.cells.injEq] at m1
      obtain ⟨rfl, rfl, _⟩ := m1
      exact h6 j t0 (setRow_self hp hj)
   | pbox t0 ls0 =>
    obtain ⟨b, cs, e, hv, h2, h3, h4, h5, h6⟩ := hrc
    have hb : (CV.pbox t0 ls0).base (vs.getD t undef) = .addr b 0 := by rw [hv]; rfl
    have hbw : w'.heap[b]? = some (.cells cs e (0, 0)) := by
     by_cases hp : p = []
     ·exact (hpb hp t0 ls0 rfl b (h.olt t b h2)).trans h3
     ·exact (hw b (fun o' hB => (hBb hp b o' hB).2.2 0 hb) (h.olt t b h2)).trans h3
    refine ⟨b, cs, e, hv, .inr ⟨0, hb⟩, hbw, h4.trans hsetlen.symm, (hnewrow.world (fun j _ => ?_) fun _ _ => rfl).mono (fun _ h => h) (fun x hx => ⟨.inl hx, fun he => hnb b 0 hb (he ▸ hx)⟩), h6⟩
    rw [hb]
    simp only [Base.get, Nat.zero_add]
    exact (cell_of hbw j).symm
   | gone => trivial
  ·simp only [ht, if_false]
   have hr := h.rep t
   have hblk' : ∀ b, O t b ∨ I b → w'.heap[b]? = w.heap[b]? := fun b hb => hb.elim (fun hb => hw b (fun o' hB => ht (h.disj t r b hb (hB'O b o' hB))) (h.olt t b hb)) (hIw b)
   cases hav' : s.e.get t with
   | bad => trivial
   | un => rw [hav'] at hr; exact hr
   | v c => rw [hav'] at hr; exact RepC.mono (RepC.world hr hblk') hI (fun _ h => h)
   | tup cs =>
    rw [hav'] at hr
    obtain ⟨us, h1, h2, D, d1, d2, d3⟩ := hr
    refine ⟨us, h1, h2, D, d1, d2, fun j c hc => ?_⟩
    obtain ⟨u, u1, u2⟩ := d3 j c hc
    exact ⟨u, u1, (u2.world fun b hb => hblk' b (hb.imp (d1 j b) id)).mono hI fun _ h => h⟩
   | iptr row o =>
    rw [hav'] at hr
    obtain ⟨b, o', h1, h2, h3⟩ := hr
    exact ⟨b, o', hI b h1, h2, (h3.world (fun j _ => World.cell?_of_block (w := w) (w' := w') (a := ⟨b, o' + j, none⟩) (hblk' b (.inr h1))) fun x hx => hblk' x (.inr (hx.resolve_left id))).mono hI fun _ h => h⟩
   | ptr r2 p2 o2 =>
    rw [hav'] at hr
    intro hcl
    obtain ⟨c1, c2⟩ := cleanP_mark hcl
    obtain ⟨b, o', row', k1, k2⟩ := hr c1
    obtain ⟨row2', q1, _, _⟩ := hroots r2 p2 _ _ k1 (fun he => (c2 he).2)
    exact ⟨b, o', row2', q1, k2⟩
   | ld r2 p2 o2 n2 agg =>
    rw [hav'] at hr
    intro hcl
    obtain ⟨c1, c2⟩ := clean_mark hcl
    obtain ⟨B, row', k1, k0, k2, k3⟩ := hr c1
    obtain ⟨row2', q1, q2, q3⟩ := hroots r2 p2 _ _ k1 (fun he => meets_hits _ _ _ _ _ _ (c2 he).2)
    have hsame := q3 o2 n2 (fun he => (c2 he).2) k0
    refine ⟨B, row2', q1, by omega, fun ha => ?_, fun ha => ?_⟩
    ·obtain ⟨cs, m1, m2, m3⟩ := k2 ha
     exact ⟨cs, m1, m2, fun j hj => (m3 j hj).trans (hsame (o2 + j) (by omega) (by omega)).symm⟩
    ·obtain ⟨m1, m2⟩ := k3 ha
     exact ⟨m1, (hsame o2 (by omega) (by omega)).trans m2⟩

end Go.VS

/- Taking what an operand stands for. -/
namespace Go.VS
open Go Go.RowKit
set_option linter.unusedSimpArgs false
set_option linter.unusedVariables false

variable {arg : Tmp → Value} {W w w' : World} {I I' : Nat → Prop} {O : Tmp → Nat → Prop} {s s' : RS} {vs : Array Value} {S : Nat → Prop} {c : CV} {x : X} {v : Value}

/-- A slot is struck: what it owned is nobody's. -/
theorem Rel.strike (h : Rel arg W I O s vs w) (t : Tmp) (av : AV) (hav : av = .bad) : Rel arg W I (fun t' b => if t' = t then False else O t' b) (s.put t av) vs w := by
 subst hav
 refine ⟨h.bel, h.old, h.ilt, fun t' b hb => ?_, fun t' b hb => ?_, fun t1 t2 b h1 h2 => ?_, fun t' => ?_⟩
 ·by_cases ht : t' = t
  ·simp only [ht, if_true] at hb
  ·simp only [ht, if_false] at hb; exact h.olt t' b hb
 ·by_cases ht : t' = t
  ·simp only [ht, if_true] at hb
  ·simp only [ht, if_false] at hb; exact h.notI t' b hb
 ·by_cases ht1 : t1 = t
  ·simp only [ht1, if_true] at h1
  ·by_cases ht2 : t2 = t
   ·simp only [ht2, if_true] at h2
   ·simp only [ht1, if_false] at h1
    simp only [ht2, if_false] at h2
    exact h.disj t1 t2 b h1 h2
 ·have hg : (s.put t .bad).e.get t' = if t' = t then .bad else s.e.get t' := by simp only [RS.put]; exact get_put ..
  rw [hg]
  by_cases ht : t' = t
  ·simp only [ht, if_true]; trivial
  ·simp only [ht, if_false]
   have hr := h.rep t'
   have hrt : ∀ r p B row, (s.e.get t).isV = true → r ≠ t → Roots w s.e vs r p B row → Roots w (s.put t .bad).e vs r p B row := fun r p B row _ hne ⟨c, h1, h2⟩ => ⟨c, by simp only [RS.put]; rw [get_put, if_neg hne]; exact h1, h2⟩
   have hrt' : ∀ r p B row, ((s.e.get t).isV = true → r ≠ t) → Roots w s.e vs r p B row → Roots w (s.put t .bad).e vs r p B row := fun r p B row hne ⟨c, h1, h2⟩ => by
    have hr : r ≠ t := fun e => hne (by rw [← e, h1]; rfl) e
    exact ⟨c, by simp only [RS.put]; rw [get_put, if_neg hr]; exact h1, h2⟩
   cases hav' : s.e.get t' with
   | ptr r p o =>
    rw [hav'] at hr
    intro hc
    obtain ⟨c1, c2⟩ := cleanP_put hc
    obtain ⟨b, o', row', k1, k2⟩ := hr c1
    exact ⟨b, o', row', hrt' r p _ _ c2 k1, k2⟩
   | ld r p o n agg =>
    rw [hav'] at hr
    intro hc
    obtain ⟨c1, c2⟩ := clean_put hc
    obtain ⟨B, row', k1, k2⟩ := hr c1
    exact ⟨B, row', hrt' r p _ _ c2 k1, k2⟩
   | _ => rw [hav'] at hr; exact hr

/-- What was owned is owned no more by s', or by it alone. -/
def Out (O O' : Tmp → Nat → Prop) (S : Nat → Prop) : Prop := (∀ b, S b → ∃ t, O t b) ∧ (∀ t b, O' t b → O t b) ∧ ∀ t b, O' t b → ¬ S b

theorem poke_rel_out (h : Rel arg W I O s vs w) {r : Tmp} {p : List (Nat × Nat)} {o n : Nat} {row : List L}
  (hs : slotAt s.e r p = some row) (hn : o + n ≤ row.length) (hs' : s.poke r p o (unownR ((row.drop o).take n)) = some s') :
  ∃ c B' S' A O', s.e.get r = .v c ∧ Follow w (c.base (vs.getD r undef)) c.row p B' row ∧ RepRow w I ((row.drop o).take n) (fun j => B'.get w (o + j)) A ∧ (∀ x, A x → O r x) ∧
   Rel arg W I O' (s'.mark r p o n) vs w ∧ Out O O' A ∧ (∀ x, S' x → O r x) ∧ RepRow w I row (B'.get w) S' := by
 obtain ⟨c, B', S', hc, f1, f2, f3, f4, f5⟩ := h.slot hs
 obtain ⟨A, T, a1, a2, a3, a4, a5⟩ := f2.part o n hn
 have hlen : (unownR ((row.drop o).take n)).length = n := by rw [unownR_length, List.length_take, List.length_drop]; omega
 have hrc := h.rep r
 rw [hc] at hrc
 have hblk : ∀ b o', B' = .addr b o' → ∃ cs e, w.heap[b]? = some (.cells cs e (0, 0)) := fun b o' hB => by
  by_cases hp : p = []
  ·subst hp; cases f1
   obtain ⟨_, _, cs, e, m, _⟩ := base_owned hrc hB
   exact ⟨cs, e, m⟩
  ·obtain ⟨b2, o2, cs, e, k1, _, _, k4, _⟩ := f4 hp
   rw [k1] at hB
   injection hB with h1 h2
   exact ⟨cs, e, h1 ▸ k4⟩
 have hk := h.poke (w' := w) (I' := I) (T := T) (N := fun _ => False) (ls := unownR ((row.drop o).take n)) (o := o) hc f1 f3
  (fun hp b o' hB => by
   obtain ⟨b2, o2, cs, e, k1, k2, k3, _⟩ := f4 hp
   rw [k1] at hB
   injection hB with h1 h2
   subst h1
   refine ⟨k2, k3, fun o3 hb => ?_⟩
   -- the block of a nested slice is not the root's own
   obtain ⟨B3, S3, g1, g2, g3, g4, _⟩ := follow p (RepC.root hrc) f1.rowAt
   obtain ⟨rfl, _⟩ := g1.same f1
   obtain ⟨b5, o5, cs5, e5, m1, m2, _⟩ := g4 hp
   rw [k1] at m1
   injection m1 with m1 _
   subst m1
   exact m2.2 o3 hb)
  f5 hs' (by rw [hlen]; exact hn) a5 (fun x hx => .inl (a2 x hx)) (fun x hx => hx.elim) h.bel (Nat.le_refl _) (fun _ h => h) h.ilt (fun x hx hn => absurd hx hn) (fun _ _ _ => rfl)
  (fun b o' hB => by
   obtain ⟨cs, e, m⟩ := hblk b o' hB
   exact ⟨cs, cs, e, m, m, rfl, fun _ _ => rfl⟩)
  (fun _ _ _ _ _ _ => rfl)
  (fun j t0 hj => ⟨patch_unown hn hj, fun b o2 cs cs2 e e2 _ m1 m2 => by rw [m1] at m2; simp only [Option.some.injEq, Obj.cells.injEq] at m2; exact ⟨by rw [m2.1], m2.2.1.symm⟩⟩)
 rw [hlen] at hk
 have hbo : ∀ b o2, c.base (vs.getD r undef) = .addr b o2 → O r b := fun b o2 hb => (base_owned hrc hb).1
 refine ⟨c, B', S', A, _, hc, f1, a4, fun x hx => (f3 x (a1 x hx)).1, hk, ⟨fun b hb => ⟨r, (f3 b (a1 b hb)).1⟩, fun t b hb => ?_, fun t b hb hA => ?_⟩, fun x hx => (f3 x hx).1, f2⟩
 ·by_cases ht : t = r
  ·simp only [ht, if_true] at hb
   rw [ht]
   rcases hb with (hb | hb) | ⟨o2, hb⟩
   ·exact hb.1.1
   ·exact hb.elim
   ·exact hbo b o2 hb
  ·simp only [ht, if_false] at hb; exact hb
 ·by_cases ht : t = r
  ·simp only [ht, if_true] at hb
   rcases hb with (hb | hb) | ⟨o2, hb⟩
   ·exact a3 b hA (hb.2 (a1 b hA))
   ·exact hb.elim
   ·exact (f3 b (a1 b hA)).2 o2 hb
  ·simp only [ht, if_false] at hb
   exact ht (h.disj t r b hb (f3 b (a1 b hA)).1)

theorem unown_self : ∀ {ls : List L}, ownR ls = false → unownR ls = ls
 | [], _ => rfl
 | l :: ls, h => by
  simp only [ownR, Bool.or_eq_false_iff] at h
  simp only [unownR, unown_self h.2]
  unfold L.unown
  rw [if_neg (by simp [h.1])]

/-- What an operand stands for, taken: it lies as it should and is nobody else's. -/
theorem Rel.take (h : Rel arg W I O s vs w) (hx : XV vs x v) (ht : s.take x = some (c, s')) :
  ∃ S O', RepC arg w I c v S ∧ Rel arg W I O' s' vs w ∧ Out O O' S := by
 cases x with
 | c c0 =>
  simp only [RS.take, Option.some.injEq, Prod.mk.injEq] at ht
  obtain ⟨rfl, rfl⟩ := ht
  exact ⟨fun _ => False, O, hx arg w I, h, fun _ h => h.elim, fun _ _ h => h, fun _ _ _ h => h⟩
 | t t =>
  simp only [XV] at hx
  subst hx
  have hr := h.rep t
  simp only [RS.take] at ht
  cases hav : s.e.get t with
  | v c0 =>
   rw [hav] at ht hr
   have key : (if c0.shal then some (c0, s) else some (c0, s.put t .bad)) = some (c, s') → ∃ S O', RepC arg w I c (vs.getD t undef) S ∧ Rel arg W I O' s' vs w ∧ Out O O' S := by
    intro ht
    split at ht
    ·rename_i hsh
     simp only [Option.some.injEq, Prod.mk.injEq] at ht
     obtain ⟨rfl, rfl⟩ := ht
     exact ⟨fun _ => False, O, RepC.unowned hr hsh, h, fun _ h => h.elim, fun _ _ h => h, fun _ _ _ h => h⟩
    ·simp only [Option.some.injEq, Prod.mk.injEq] at ht
     obtain ⟨rfl, rfl⟩ := ht
     refine ⟨O t, _, hr, h.strike t _ rfl, fun b hb => ⟨t, hb⟩, fun t' b hb => ?_, fun t' b hb hb' => ?_⟩
     ·by_cases ht : t' = t
      ·simp only [ht, if_true] at hb
      ·simp only [ht, if_false] at hb; exact hb
     ·by_cases ht : t' = t
      ·simp only [ht, if_true] at hb
      ·simp only [ht, if_false] at hb; exact ht (h.disj t' t b hb hb')
   cases c0 with
   | pbox => cases ht
   | gone => cases ht
   | _ => exact key ht
  | ld r p o n agg =>
   rw [hav] at ht hr
   simp only at ht
   cases hl : s.look (.ld r p o n agg) with
   | none => rw [hl] at ht; cases ht
   | some c0 =>
    rw [hl] at ht
    simp only at ht
    have hl' := hl
    simp only [RS.look] at hl
    split at hl
    ·rename_i hcl
     split at hl
     ·rename_i row hs
      obtain ⟨B, row', k1, k0, k2⟩ := hr hcl
      have hload : Loaded (B.get w) o n agg (vs.getD t undef) := k2
      obtain ⟨hrow, hfit⟩ := cells_row hl (fun ha => (k2.2 ha).1)
      split at ht
      ·rename_i hsh
       simp only [Option.some.injEq, Prod.mk.injEq] at ht
       obtain ⟨rfl, rfl⟩ := ht
       obtain ⟨t', S, q1, q2⟩ := h.look (x := .t t) (v := vs.getD t undef) rfl (by simp only [RS.val, hav]; exact hl')
       exact ⟨fun _ => False, O, RepC.unowned q1 hsh, h, fun _ h => h.elim, fun _ _ h => h, fun _ _ _ h => h⟩
      ·split at ht
       ·rename_i s1 hp
        simp only [Option.some.injEq, Prod.mk.injEq] at ht
        obtain ⟨rfl, rfl⟩ := ht
        rw [hrow] at hp
        obtain ⟨c1, B', S', A, O', g1, g2, g3, g4, g5, g6, g7, g8⟩ := poke_rel_out h hs hfit hp
        obtain ⟨rfl, rfl⟩ := k1.unique g1 g2
        refine ⟨A, O', ?_, g5, g6⟩
        -- the value, out of the loaded cells
        cases agg with
        | true =>
         simp only [cellsOf, if_true] at hl
         split at hl
         ·obtain rfl := (Option.some.inj hl).symm
          obtain ⟨cs, hv, h1, h2⟩ := hload.1 rfl
          refine ⟨cs, hv, by rw [h1, List.length_take, List.length_drop]; omega, g3.world (fun j hj => ?_) fun _ _ => rfl⟩
          rw [List.length_take] at hj
          exact h2 j (by omega)
         ·rename_i hnf
          exact absurd hfit hnf
        | false =>
         obtain ⟨hn1, hv⟩ := hload.2 rfl
         simp only [cellsOf, if_false, Bool.false_eq_true] at hl
         split at hl
         ·rename_i l hrl
          obtain rfl := (Option.some.inj hl).symm
          obtain ⟨D, d1, d2, d3⟩ := g3
          simp only [CV.row] at hrow
          rw [← hrow] at d3
          obtain ⟨u, u1, u2, u3⟩ := d3 0 l rfl
          simp only [Nat.add_zero] at u1
          rw [u1] at hv
          obtain rfl := Option.some.inj hv
          exact ⟨u2, u3.mono (fun _ h => h) (d1 0)⟩
         ·cases hl
       ·cases ht
     ·cases hl
    ·cases hl
  | _ => rw [hav] at ht; cases ht

end Go.VS

/- Steps: what must hold behind an operation; operations that turn no place. -/
namespace Go.VS
open Go Go.RowKit
set_option linter.unusedSimpArgs false
set_option linter.unusedVariables false

variable {P : Program} {arg : Tmp → Value} {W w w' : World} {I I' : Nat → Prop} {O O' : Tmp → Nat → Prop} {s s' : RS} {vs : Array Value} {S : Nat → Prop} {c : CV} {x : X} {v : Value}

/-- From one world to a later one: what nobody here owned is as it was; nothing of others' has been got. -/
structure Ext (w : World) (I : Nat → Prop) (O : Tmp → Nat → Prop) (w' : World) (I' : Nat → Prop) (O' : Tmp → Nat → Prop) : Prop where
 imm : ∀ b, I b → I' b
 size : w.heap.size ≤ w'.heap.size
 kept : ∀ b, b < w.heap.size → (∀ t, ¬ O t b) → w'.heap[b]? = w.heap[b]?
 got : ∀ b, (∃ t, O' t b) ∨ I' b → (∃ t, O t b) ∨ I b ∨ w.heap.size ≤ b

theorem Ext.refl : Ext w I O w I O := ⟨fun _ h => h, Nat.le_refl _, fun _ _ _ => rfl, fun _ h => h.imp id .inl⟩
theorem Ext.trans {w'' : World} {I'' : Nat → Prop} {O'' : Tmp → Nat → Prop} (h : Ext w I O w' I' O') (hn : ∀ t b, O' t b → ¬ I' b) (k : Ext w' I' O' w'' I'' O'') : Ext w I O w'' I'' O'' := by
 refine ⟨fun b hb => k.imm b (h.imm b hb), Nat.le_trans h.size k.size, fun b hb hno => ?_, fun b hb => ?_⟩
 ·refine (k.kept b (Nat.lt_of_lt_of_le hb h.size) fun t ht => ?_).trans (h.kept b hb hno)
  rcases h.got b (.inl ⟨t, ht⟩) with ⟨t', h'⟩ | h' | h'
  ·exact hno t' h'
  ·exact hn t b ht (h.imm b h')
  ·omega
 ·rcases k.got b hb with h' | h' | h'
  ·exact h.got b (.inl h')
  ·exact h.got b (.inr h')
  ·exact .inr (.inr (Nat.le_trans h.size h'))
/-- What has been given away or lost since is no matter. -/
theorem Ext.of_out (h : Out O O' S) : Ext w I O w I O' :=
 ⟨fun _ h => h, Nat.le_refl _, fun _ _ _ => rfl, fun b hb => hb.elim (fun ⟨t, ht⟩ => .inl ⟨t, h.2.1 t b ht⟩) fun h => .inr (.inl h)⟩

theorem oper_value {o : Oper} {a : Act} {K : Act → World → Prop} {Q : Exit → Act → World → Prop} (h : (execOp a.eval o).run P w = .ok (.value v) w') (hk : K (a.put o.dst v) w') : o.wp P a w K Q := by
 unfold Oper.wp; rw [h]; exact hk
theorem oper_skip {o : Oper} {a : Act} {K : Act → World → Prop} {Q : Exit → Act → World → Prop} (h : (execOp a.eval o).run P w = .ok .skip w') (hk : K (a.put o.dst undef) w') : o.wp P a w K Q := by
 unfold Oper.wp; rw [h]; exact hk

/-- What holds behind an operation that has led to s'. -/
def Good (arg : Tmp → Value) (W : World) (I : Nat → Prop) (O : Tmp → Nat → Prop) (w : World) (a : Act) (s' : RS) (d : Option Tmp) (a' : Act) (w' : World) : Prop :=
 ∃ I' O', a'.defers = a.defers ∧ a'.tmps.size = a.tmps.size ∧ Rel arg W I' O' s' a'.tmps w' ∧ Ext w I O w' I' O' ∧ ∀ t, d ≠ some t → a'.tmps.getD t undef = a.tmps.getD t undef

theorem put_size (a : Act) (d : Option Tmp) (v : Value) : (a.put d v).tmps.size = a.tmps.size := by cases d <;> simp [Act.put]
theorem put_defers (a : Act) (d : Option Tmp) (v : Value) : (a.put d v).defers = a.defers := by cases d <;> rfl

/-- A value is laid into a slot; the world may have got new blocks. -/
theorem good_put {a : Act} {d : Tmp} {av : AV} {S : Nat → Prop} (h : Rel arg W I O s a.tmps w) (hd : d < a.tmps.size) (hw : Below w.heap.size w w')
  (hS : ∀ b, S b → b < w'.heap.size ∧ ¬ I b ∧ (∀ t, t ≠ d → ¬ O t b) ∧ ((∃ t, O t b) ∨ w.heap.size ≤ b)) (hav : RepA arg w' I s a.tmps av v S)
  (hfr : ∀ r p o, av = .ptr r p o → cleanP s.d r p = true → ∃ c, s.e.get r = .v c) :
  Good arg W I O w a (s.put d av) (some d) (a.put (some d) v) w' := by
 refine ⟨I, _, rfl, put_size .., h.step hd hw (fun b hb => ⟨(hS b hb).1, (hS b hb).2.1, (hS b hb).2.2.1⟩) hav hfr, ⟨fun _ h => h, hw.size, fun b hb _ => hw.block b hb, fun b hb => ?_⟩, fun t ht => ?_⟩
 ·rcases hb with ⟨t, hb⟩ | hb
  ·by_cases ht : t = d
   ·simp only [ht, if_true] at hb
    rcases (hS b hb).2.2.2 with h | h
    ·exact .inl h
    ·exact .inr (.inr h)
   ·simp only [ht, if_false] at hb; exact .inl ⟨t, hb⟩
  ·exact .inr (.inl hb)
 ·simp only [Act.put]
  rw [getD_set hd, if_neg (fun e => ht (by rw [e]))]
/-- .. that owns nothing. -/
theorem good_free {a : Act} {d : Tmp} {av : AV} (h : Rel arg W I O s a.tmps w) (hd : d < a.tmps.size) (hw : Below w.heap.size w w') (hav : RepA arg w' I s a.tmps av v (fun _ => False))
  (hfr : ∀ r p o, av = .ptr r p o → cleanP s.d r p = true → ∃ c, s.e.get r = .v c) :
  Good arg W I O w a (s.put d av) (some d) (a.put (some d) v) w' := good_put h hd hw (fun _ h => h.elim) hav hfr
theorem good_int {a : Act} {d : Tmp} {k : IntKind} {n : Int} (h : Rel arg W I O s a.tmps w) (hd : d < a.tmps.size) : Good arg W I O w a (s.put d (.v (.leaf (.int k n)))) (some d) (a.put (some d) (.int k n)) w :=
 good_free h hd (Below.refl _ _) ⟨rfl, .int ..⟩ (fun _ _ _ h => by cases h)
theorem good_bool {a : Act} {d : Tmp} {b : Bool} (h : Rel arg W I O s a.tmps w) (hd : d < a.tmps.size) : Good arg W I O w a (s.put d (.v (.leaf (.bool b)))) (some d) (a.put (some d) (.bool b)) w :=
 good_free h hd (Below.refl _ _) ⟨rfl, .bool ..⟩ (fun _ _ _ h => by cases h)
theorem good_str {a : Act} {d : Tmp} {b : ByteArray} (h : Rel arg W I O s a.tmps w) (hd : d < a.tmps.size) : Good arg W I O w a (s.put d (.v (.leaf (.str b)))) (some d) (a.put (some d) (.string b)) w :=
 good_free h hd (Below.refl _ _) ⟨rfl, .str ..⟩ (fun _ _ _ h => by cases h)

/-- Looking at scalars. -/
theorem look_leaf (h : Rel arg W I O s vs w) (hx : XV vs x v) {l : L} (hl : s.look (s.val x) = some (.leaf l)) : ∃ t S, v.oneCell' = true ∧ RepL w I l v S ∧ ∀ b, S b → O t b := by
 obtain ⟨t, S, h1, h2⟩ := h.look hx hl
 exact ⟨t, S, h1.1, h1.2, h2⟩
theorem look_int (h : Rel arg W I O s vs w) (hx : XV vs x v) {k : IntKind} {n : Int} (hl : s.look (s.val x) = some (.leaf (.int k n))) : v = .int k n := by
 obtain ⟨_, _, _, h2, _⟩ := look_leaf h hx hl
 cases h2; rfl
theorem look_bool (h : Rel arg W I O s vs w) (hx : XV vs x v) {b : Bool} (hl : s.look (s.val x) = some (.leaf (.bool b))) : v = .bool b := by
 obtain ⟨_, _, _, h2, _⟩ := look_leaf h hx hl
 cases h2; rfl
theorem look_str (h : Rel arg W I O s vs w) (hx : XV vs x v) {b : ByteArray} (hl : s.look (s.val x) = some (.leaf (.str b))) : v = .string b := by
 obtain ⟨_, _, _, h2, _⟩ := look_leaf h hx hl
 cases h2; rfl
theorem look_sl (h : Rel arg W I O s vs w) (hx : XV vs x v) {o : Bool} {sz : Nat} {rows : List (List L)} (hl : s.look (s.val x) = some (.leaf (.sl o sz rows))) : ∃ a cap, v = .slice a rows.length cap := by
 obtain ⟨_, _, _, h2, _⟩ := look_leaf h hx hl
 cases h2 <;> exact ⟨_, _, rfl⟩
theorem int_look {k : IntKind} {n : Int} (h : s.int x = some (k, n)) : s.look (s.val x) = some (.leaf (.int k n)) := by
 unfold RS.int at h
 split at h
 ·rename_i k' n' hl
  simp only [Option.some.injEq, Prod.mk.injEq] at h
  obtain ⟨rfl, rfl⟩ := h
  exact hl
 ·cases h
theorem int_val (h : Rel arg W I O s vs w) (hx : XV vs x v) {k : IntKind} {n : Int} (hl : s.int x = some (k, n)) : v = .int k n := look_int h hx (int_look hl)

/-- The operation on two leaves is the model's. -/
theorem vbin_run {op : BinOp} {a b r : L} {va vb : Value} {S S' : Nat → Prop} {t : TypeId} {x y : Operand} (ha : RepL w I a va S) (hb : RepL w I b vb S') (h : vbin op a b = some r) :
  ∃ v, (do eqGuard op t x y va vb; binOp op t va vb : Sem Value).run P w = .ok v w ∧ v.oneCell' = true ∧ RepL w I r v (fun _ => False) := by
 have hg : ∀ {u v : Value}, (∀ c, u ≠ .agg c) → u ≠ .nilIface → (eqGuard op t x y u v).run P w = .ok () w := by
  intro u v h1 h2
  cases u <;> first | exact absurd rfl (h1 _) | exact absurd rfl h2 | (cases op <;> cases v <;> rfl)
 cases a with
 | int k m =>
  cases b with
  | int k' n =>
   cases ha; cases hb
   rw [Sem.run_bind, hg (by intro c h; cases h) (by intro h; cases h), Result.andThen_ok]
   unfold vbin at h
   cases op <;> simp only at h <;> (try split at h) <;> (try split at h) <;> (try cases h) <;> (try subst_vars) <;>
    first
    | (refine ⟨_, ?_, rfl, .int ..⟩; simp_all [binOp, Op.shift, Op.intArith, Op.intDiv, Op.intBits, Op.intCmp]; done)
    | (refine ⟨_, ?_, rfl, .bool ..⟩; simp_all [binOp, Op.shift, Op.intArith, Op.intDiv, Op.intBits, Op.intCmp]; done)
    | (refine ⟨_, ?_, rfl, .int ..⟩; simp_all [binOp, Op.shift]; intro h; omega)
    | skip
  | _ => cases op <;> cases h
 | str m =>
  cases b with
  | str n =>
   cases ha; cases hb
   rw [Sem.run_bind, hg (by intro c h; cases h) (by intro h; cases h), Result.andThen_ok]
   unfold vbin at h
   cases op <;> simp only at h <;> (try split at h) <;> (try cases h) <;>
    first
    | (refine ⟨_, ?_, rfl, .str ..⟩; simp_all [binOp, Op.stringOp]; done)
    | (refine ⟨_, ?_, rfl, .bool ..⟩; simp_all [binOp, Op.stringOp]; done)
    | skip
  | _ => cases op <;> cases h
 | _ => cases op <;> cases h

end Go.VS
