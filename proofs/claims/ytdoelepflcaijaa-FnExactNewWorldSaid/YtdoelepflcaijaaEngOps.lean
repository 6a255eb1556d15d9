/- The value-semantics evaluator: operations, code, functions. -/
import Derived.Test.YtdoelepflcaijaaEngVal
namespace Go.VS
open Go
set_option linter.unusedSimpArgs false
set_option linter.unusedVariables false

inductive Mode where
  | V
  | O
  | M
  deriving DecidableEq

inductive EK where
  | int
  | str
  | bool
/-- An operation, its types looked up: sizes in cells, zero rows, widths in bytes. -/
inductive VOp where
  | mv (d : Tmp) (x : X)
  | asg (d : Tmp) (x : X)
  | bad (d : Tmp)
  | pick (d : Tmp) (c a b : X)
  | alloc (d : Tmp) (zs : List L)
  | box (d : Tmp) (x : X)
  | boxM (d : Tmp) (t : Tmp)
  | build (d : Tmp) (zs : List L) (parts : List (Nat × Nat × X))
  | mk (d : Tmp) (zs : List L) (n : Nat) (parts : List (Nat × X))
  | load (d : Tmp) (x : X) (n : Nat) (agg : Bool)
  | store (a x : X) (n : Nat)
  | nil (d : Tmp) (x : X)
  | bin (d : Tmp) (op : BinOp) (x y : X)
  | eqs (d : Tmp) (neg : Bool) (es : List EK) (x y : X)
  | eqb (d : Tmp) (neg : Bool) (x y : X)
  | un (d : Tmp) (op : UnOp) (x : X)
  | conv (d : Tmp) (k : IntKind) (x : X)
  | bytes (d : Tmp) (x : X)
  | make (d : Tmp) (zs : List L) (bytes : Nat) (l c : X)
  | subStr (d : Tmp) (x : X) (lo hi : Option X)
  | subSl (d : Tmp) (x : X) (lo hi : Option X) (sz : Nat)
  | fld (d : Tmp) (x : X) (off : Nat)
  | idx (d : Tmp) (x i : X) (sz : Nat)
  | byte (d : Tmp) (x i : X)
  | len (d : Tmp) (x : X) (str : Bool)
  | app (d : Tmp) (s y : X) (sz bytes : Nat) (str : Bool)
  | min (d : Tmp) (x y : X)
  | call (d : Tmp) (f : FuncId) (args : List X)
  | ext (d : Tmp) (x : X) (i : Nat)

/-- An argument before the call: seen only (and the root that owns its memory); lent to be written into (root, path, column); to be given away. -/
inductive Arg where
  | v (c : CV) (r : Option Tmp)
  | m (c : CV) (r : Tmp) (p : List (Nat × Nat)) (o : Nat)
  | o

/-- How a function takes its arguments; does its result hold only what is its own? -/
structure Sig where
  modes : List Mode
  own : Bool
abbrev Sigs := FuncId → Option Sig
/-- What a function answers: its results; what became of the arguments that it may write into. -/
abbrev Fns := FuncId → List CV → Option (List CV × List CV)

def vbin (op : BinOp) : L → L → Option L
  | .int k a, .int k' b =>
    match op with
    | .shl => if b < 0 then none else some (.int k (k.wrap (a * 2 ^ (Nat.min b.toNat k.bits))))
    | .shr => if b < 0 then none else some (.int k (a.fdiv (2 ^ (Nat.min b.toNat k.bits))))
    | _ =>
      if k = k' then
        match op with
        | .add => some (.int k (k.wrap (a + b)))
        | .sub => some (.int k (k.wrap (a - b)))
        | .mul => some (.int k (k.wrap (a * b)))
        | .quo => if b = 0 then none else some (.int k (k.wrap (a.tdiv b)))
        | .rem => if b = 0 then none else some (.int k (a.tmod b))
        | .and => some (.int k (k.wrap (BitVec.ofInt k.bits a &&& BitVec.ofInt k.bits b).toNat))
        | .or => some (.int k (k.wrap (BitVec.ofInt k.bits a ||| BitVec.ofInt k.bits b).toNat))
        | .xor => some (.int k (k.wrap (BitVec.ofInt k.bits a ^^^ BitVec.ofInt k.bits b).toNat))
        | .eql => some (.bool (a == b))
        | .neq => some (.bool (a != b))
        | .lss => some (.bool (a < b))
        | .leq => some (.bool (a ≤ b))
        | .gtr => some (.bool (a > b))
        | .geq => some (.bool (a ≥ b))
        | _ => none
      else none
  | .str a, .str b =>
    match op with
    | .add => if ((a.size + b.size : Nat) : Int) ≤ 9223372036854775807 then some (.str (a ++ b)) else none
    | .eql => some (.bool (a.toList == b.toList))
    | .neq => some (.bool (!(a.toList == b.toList)))
    | .lss => some (.bool (Op.bytesLess a.toList b.toList))
    | .leq => some (.bool (Op.bytesLess a.toList b.toList || a.toList == b.toList))
    | .gtr => some (.bool (!(Op.bytesLess a.toList b.toList || a.toList == b.toList)))
    | .geq => some (.bool (!Op.bytesLess a.toList b.toList))
    | _ => none
  | _, _ => none
/-- Two structs of numbers, texts and bools, of these kinds: are they alike? -/
def eqLs : List EK → List L → List L → Option Bool
  | [], [], [] => some true
  | .int :: es, .int k a :: xs, .int k' b :: ys => if k = k' then (eqLs es xs ys).map fun r => (a == b) && r else none
  | .str :: es, .str a :: xs, .str b :: ys => (eqLs es xs ys).map fun r => (a.toList == b.toList) && r
  | .bool :: es, .bool a :: xs, .bool b :: ys => (eqLs es xs ys).map fun r => (a == b) && r
  | _, _, _ => none
def bytesOf : List (List L) → Option (List UInt8)
  | [] => some []
  | [.int .u8 n] :: rs => (bytesOf rs).map fun l => UInt8.ofNat n.toNat :: l
  | _ => none
def strRows (s : ByteArray) : List (List L) := s.data.toList.map fun b => [L.int .u8 b.toNat]

def RS.int (s : RS) (x : X) : Option (IntKind × Int) :=
  match s.look (s.val x) with
  | some (.leaf (.int k n)) => some (k, n)
  | _ => none
/-- A bound of a slice expression. -/
def RS.bound (s : RS) (dflt : Nat) : Option X → Option Nat
  | none => some dflt
  | some x => match s.int x with
    | some (_, n) => if 0 ≤ n then some n.toNat else none
    | none => none
/-- The parts of a composite, taken one by one and laid over rows (each 'sz' wide) of a list. -/
def RS.parts (s : RS) : List (Nat × Nat × X) → List L → Option (List L × RS)
  | [], row => some (row, s)
  | (o, n, x) :: ps, row =>
    match s.take x with
    | some (c, s') => if c.flat = true ∧ c.row.length = n ∧ o + n ≤ row.length then s'.parts ps (patch row o c.row) else none
    | _ => none
def RS.rows (s : RS) (sz : Nat) : List (Nat × X) → List (List L) → Option (List (List L) × RS)
  | [], rows => some (rows, s)
  | (i, x) :: ps, rows =>
    match s.take x with
    | some (c, s') => if c.flat = true ∧ c.row.length = sz ∧ i < rows.length then s'.rows sz ps (rows.set i c.row) else none
    | _ => none
/-- The place that an address means. -/
def RS.place (s : RS) : X → Option (Tmp × List (Nat × Nat) × Nat)
  | .c _ => none
  | .t t =>
    match s.e.get t with
    | .v (.box _) => some (t, [], 0)
    | .v (.pbox _ _) => some (t, [], 0)
    | .ptr r p o => if cleanP s.d r p then some (r, p, o) else none
    | _ => none
/-- An argument that is seen only. -/
def RS.argV (s : RS) : X → Option Arg
  | .c c => if c.flat then some (.v c.freeze none) else none
  | .t t =>
    match s.look (s.e.get t) with
    | some c => if c.flat then
        if c.shal then some (.v c.freeze none) else
        match s.e.get t with
        | .v _ => some (.v c.freeze (some t))
        | .ld r _ _ _ _ => some (.v c.freeze (some r))
        | _ => none
      else none
    | none => none
def shalO : Option CV → Bool
  | some c => c.shal
  | none => false
/-- An argument that is lent; one that owns nothing is only seen. -/
def RS.argM (s : RS) : X → Option Arg
  | .c _ => none
  | .t t =>
    if shalO (s.look (s.e.get t)) = true then s.argV (.t t) else
    match s.e.get t with
    | .v (.box row) => some (.m (.box row) t [] 0)
    | .v (.leaf l) => some (.m (.leaf l) t [] 0)
    | .v (.agg ls) => some (.m (.agg ls) t [] 0)
    | .ptr r [] 0 => if cleanP s.d r [] then match s.e.get r with
      | .v (.box row) => some (.m (.box row) r [] 0)
      | _ => none
      else none
    | .ld r p o n agg =>
      match s.look (.ld r p o n agg) with
      | some c => some (.m c r p o)
      | none => none
    | _ => none
def RS.seen (s : RS) : List Mode → List X → Option (List Arg)
  | [], [] => some []
  | m :: ms, x :: xs =>
    match (match m with | .V => s.argV x | .M => s.argM x | .O => some .o), s.seen ms xs with
    | some a, some as => some (a :: as)
    | _, _ => none
  | _, _ => none
def rootsV : List Arg → List Tmp
  | [] => []
  | .v _ (some r) :: as => r :: rootsV as
  | _ :: as => rootsV as
def rootsM : List Arg → List Tmp
  | [] => []
  | .m _ r _ _ :: as => r :: rootsM as
  | _ :: as => rootsM as
/-- Roots out of reach. -/
def RS.hide (s : RS) (rs : List Tmp) : RS := ⟨s.e.del rs, rs.map (fun r => (r, [], 0, 0)) ++ s.d⟩
/-- What the callee gets: what is given away is taken. -/
def RS.given (s : RS) : List Arg → List X → Option (List CV × RS)
  | [], [] => some ([], s)
  | .v c _ :: as, _ :: xs => match s.given as xs with
    | some (cs, s') => some (c :: cs, s')
    | none => none
  | .m c _ _ _ :: as, _ :: xs => match s.given as xs with
    | some (cs, s') => some (c :: cs, s')
    | none => none
  | .o :: as, x :: xs => match s.take x with
    | some (c, s1) => if c.flat then match s1.given as xs with
        | some (cs, s') => some (c :: cs, s')
        | none => none
      else none
    | none => none
  | _, _ => none
/-- A root that was lent, with what came back. (Boxes only.) -/
def lent (cr : CV) (p : List (Nat × Nat)) (o : Nat) (c c' : CV) : Option (CV × Nat) :=
  match c, c' with
  | .box row, .box row' => if row'.length = row.length then some (.box row', row.length + 1) else none
  | _, _ => none
/-- The slots behind a call: s0 before it. -/
def RS.back (s0 s : RS) : List Arg → List CV → Option RS
  | [], [] => some s
  | .v _ none :: as, _ :: cs => s0.back s as cs
  | .o :: as, _ :: cs => s0.back s as cs
  | .v _ (some r) :: as, _ :: cs => s0.back (s.set r (s0.e.get r)) as cs
  | .m c r p o :: as, c' :: cs => match s0.e.get r with
    | .v cr => match lent cr p o c c' with
      | some (cr', n) => s0.back ((s.set r (.v cr')).mark r [] 0 n) as cs
      | none => none
    | _ => none
  | _, _ => none
def nodup : List Tmp → Bool
  | [] => true
  | t :: ts => !ts.contains t && nodup ts
/-- A call whose arguments are taken by these modes: results, what became of the arguments, how these were taken, the slots. -/
def RS.core (s : RS) (F : Fns) (f : FuncId) (own : Bool) (modes : List Mode) (args : List X) : Option (List CV × List CV × List Arg × RS) :=
  match s.seen modes args with
  | some as =>
    if nodup (rootsM as) = true ∧ (rootsM as).all (fun r => !(rootsV as).contains r) = true ∧ (own = true ∨ rootsV as = []) then
      match (s.hide (rootsM as ++ rootsV as)).given as args with
      | some (cs, s1) => match F f cs with
        | some (res, outs) => match s.back ⟨s1.e, s1.d.take (s1.d.length - ((rootsM as).length + (rootsV as).length + s.d.length)) ++ s.d⟩ as outs with
          | some s2 => some (res, outs, as, s2)
          | none => none
        | none => none
      | none => none
    else none
  | none => none
/-- The first argument that is lent, is no box and owns something. -/
def RS.lendAt (s : RS) : List Mode → List X → Nat → Option (Nat × Tmp)
  | .M :: ms, .t t :: xs, j => match s.look (s.e.get t) with
    | some c => if c.flat = true ∧ c.shal = false then some (j, t) else s.lendAt ms xs (j + 1)
    | none => s.lendAt ms xs (j + 1)
  | _ :: ms, _ :: xs, j => s.lendAt ms xs (j + 1)
  | _, _, _ => none
/-- How wide the rows are along a path. -/
def pathSz : List (Nat × Nat) → List L → List Nat
  | [], _ => []
  | (c, i) :: p, row => match row[c]? with
    | some (.sl _ sz rows) => match rows[i]? with
      | some r => sz :: pathSz p r
      | none => []
    | _ => []
/-- What was taken from where a slot stands for is laid there again. -/
def RS.relay (s0 s : RS) (ms : List Tmp) (t : Tmp) (c : CV) : AV → Option RS
  | .v _ => if c.flat = true then some (s.put t (.v c)) else none
  | .ld r p o n _ => match slotAt s.e r p, rowOf s0.e r, rowOf s.e r with
    | some row, some r0, some r2 => if c.flat = true ∧ c.row.length = n ∧ o + n ≤ row.length ∧ ms.contains r = false ∧ pathSz p r0 = pathSz p r2 then match s.poke r p o c.row with
        | some s' => some (s'.mark r p o n)
        | none => none
      else none
    | _, _, _ => none
  | _ => none
/-- A call, up to its results. An argument that is lent and is no box is taken, and laid back as it comes out. -/
def RS.call (s : RS) (G : Sigs) (F : Fns) (f : FuncId) (args : List X) : Option (List CV × RS) :=
  match G f with
  | some g => match s.lendAt g.modes args 0 with
    | none => match s.core F f g.own g.modes args with
      | some (res, _, _, s2) => some (res, s2)
      | none => none
    | some (j, t) => match s.core F f g.own (g.modes.set j .O) args with
      | some (res, outs, as, s2) => match outs[j]? with
        | some c => match s.relay s2 (rootsM as) t c (s.e.get t) with
          | some s3 => some (res, s3)
          | none => none
        | none => none
      | none => none
  | none => none

def vop (G : Sigs) (F : Fns) (s : RS) : VOp → Option RS
  | .mv d x =>
    match s.val x with
    | .v c =>
      if c.shal then some (s.put d (.v c)) else
      match x with
      | .t t => match c with
        | .box _ => some (s.put d (.ptr t [] 0))
        | .pbox _ _ => some (s.put d (.ptr t [] 0))
        | .leaf _ => some (s.put d (.ld t [] 0 1 false))
        | .agg ls => some (s.put d (.ld t [] 0 ls.length true))
        | .gone => none
      | .c _ => some (s.put d (.v c))
    | .ld r p o n a => some (s.put d (.ld r p o n a))
    | .ptr r p o => some (s.put d (.ptr r p o))
    | .iptr row o => some (s.put d (.iptr row o))
    | .un => some (s.put d .un)
    | .tup cs => match x with
      | .t t => if d = t then none else some ((s.put t .bad).put d (.tup cs))
      | .c _ => none
    | _ => none
  | .asg d x =>
    match s.val x with
    | .ptr r p o => some (s.put d (.ptr r p o))
    | .iptr row o => some (s.put d (.iptr row o))
    | _ => match s.take x with
      | some (c, s') => some (s'.put d (.v c))
      | none => none
  | .bad d => some (s.put d .bad)
  | .pick d c a b =>
    match s.look (s.val c) with
    | some (.leaf (.bool t)) => match s.look (s.val (if t then a else b)) with
      | some v => if v.shal then some (s.put d (.v v)) else none
      | none => none
    | _ => none
  | .alloc d zs => some (s.put d (.v (.box zs)))
  | .box d x =>
    match s.take x with
    | some (.leaf l, s') => some (s'.put d (.v (.box [l])))
    | some (.agg ls, s') => some (s'.put d (.v (.box ls)))
    | _ => none
  | .boxM d t =>
    match s.e.get t with
    | .v (.agg ls) => if d = t then none else some ((s.put t .bad).put d (.v (.pbox t ls)))
    | _ => none
  | .build d zs parts =>
    match s.parts parts zs with
    | some (row, s') => some (s'.put d (.v (.agg row)))
    | none => none
  | .mk d zs n parts =>
    match s.rows zs.length parts (List.replicate n zs) with
    | some (rows, s') => some (s'.put d (.v (.leaf (.sl true zs.length rows))))
    | none => none
  | .load d x n agg =>
    match s.place x with
    | some (r, p, o) => match slotAt s.e r p with
      | some row => match cellsOf row o n agg with
        | some c => if c.shal then some (s.put d (.v c)) else some (s.put d (.ld r p o n agg))
        | none => none
      | none => none
    | none => match s.val x with
      | .iptr row o => match cellsOf row o n agg with
        | some c => if c.shal then some (s.put d (.v c)) else none
        | none => none
      | _ => none
  | .store a x n =>
    match s.take x with
    | some (c, s') =>
      if c.flat = false ∨ c.row.length ≠ n then none else
      match s'.place a with
      | some (r, p, o) => match slotAt s'.e r p with
        | some row => if o + n ≤ row.length ∧ (p = [] → (s'.e.get r).isBox = true) then
            match s'.poke r p o c.row with
            | some s'' => some (s''.mark r p o n)
            | none => none
          else none
        | none => none
      | none => none
    | none => none
  | .nil d x =>
    match s.val x with
    | .v (.box _) | .v (.pbox _ _) => match x with
      | .t t => some (s.put d (.ptr t [] 0))
      | .c _ => none
    | .ptr r p o => if cleanP s.d r p then some (s.put d (.ptr r p o)) else none
    | .iptr row o => some (s.put d (.iptr row o))
    | _ => none
  | .bin d op x y =>
    match s.look (s.val x), s.look (s.val y) with
    | some (.leaf a), some (.leaf b) => match vbin op a b with
      | some r => some (s.put d (.v (.leaf r)))
      | none => none
    | _, _ => none
  | .eqs d neg es x y =>
    match s.look (s.val x), s.look (s.val y) with
    | some (.agg a), some (.agg b) => match eqLs es a b with
      | some r => some (s.put d (.v (.leaf (.bool (if neg then !r else r)))))
      | none => none
    | _, _ => none
  | .eqb d neg x y =>
    match s.look (s.val x), s.look (s.val y) with
    | some (.leaf (.bool a)), some (.leaf (.bool b)) => some (s.put d (.v (.leaf (.bool (if neg then !(a == b) else (a == b))))))
    | _, _ => none
  | .un d op x =>
    match s.look (s.val x) with
    | some (.leaf (.int k n)) => match op with
      | .neg => some (s.put d (.v (.leaf (.int k (k.wrap (0 - n))))))
      | _ => none
    | some (.leaf (.bool b)) => match op with
      | .not => some (s.put d (.v (.leaf (.bool (!b)))))
      | _ => none
    | _ => none
  | .conv d k x =>
    match s.int x with
    | some (_, n) => some (s.put d (.v (.leaf (.int k (k.wrap n)))))
    | none => none
  | .bytes d x =>
    match s.look (s.val x) with
    | some (.leaf (.sl _ 1 rows)) => match bytesOf rows with
      | some l => some (s.put d (.v (.leaf (.str ⟨l.toArray⟩))))
      | none => none
    | _ => none
  | .make d zs bytes l c =>
    match s.int l, s.int c with
    | some (_, n), some (_, m) =>
      if 0 ≤ n ∧ n ≤ m ∧ (bytes : Int) * m ≤ 281474976710656 ∧ m ≤ 9223372036854775807 then
        some (s.put d (.v (.leaf (.sl true zs.length (List.replicate n.toNat zs)))))
      else none
    | _, _ => none
  | .subStr d x lo hi =>
    match s.look (s.val x) with
    | some (.leaf (.str a)) => match s.bound 0 lo, s.bound a.size hi with
      | some l, some h => if l ≤ h ∧ h ≤ a.size then some (s.put d (.v (.leaf (.str (a.extract l h))))) else none
      | _, _ => none
    | _ => none
  | .subSl d x lo hi sz0 =>
    match s.look (s.val x) with
    | some (.leaf (.sl o sz rows)) => match s.bound 0 lo, s.bound rows.length hi with
      | some l, some h => if sz = sz0 ∧ l ≤ h ∧ h ≤ rows.length then
          (if o then
            match (match x with
              | .t t => match s.e.get t with
                | .v (.leaf _) => some (t, [], 0)
                | .ld r p c _ _ => some (r, p, c)
                | _ => none
              | .c _ => none : Option (Tmp × List (Nat × Nat) × Nat)) with
            | some (r, p, c) => match s.poke r p c [.sl false sz (freezeRR rows)] with
              | some s' => some ((s'.mark r p c 1).put d (.v (.leaf (.sl false sz (((freezeRR rows).take h).drop l)))))
              | none => none
            | none => none
          else some (s.put d (.v (.leaf (.sl false sz ((rows.take h).drop l))))))
        else none
      | _, _ => none
    | _ => none
  | .fld d x off =>
    match s.val x with
    | .v (.box _) | .v (.pbox _ _) => match x with
      | .t t => some (s.put d (.ptr t [] off))
      | .c _ => none
    | .ptr r p o => if cleanP s.d r p then some (s.put d (.ptr r p (o + off))) else none
    | .iptr row o => some (s.put d (.iptr row (o + off)))
    | _ => none
  | .idx d x i sz0 =>
    match s.int i with
    | some (_, n) =>
      match s.look (s.val x) with
      | some (.leaf (.sl own sz rows)) =>
        if 0 ≤ n ∧ sz = sz0 then
          match rows[n.toNat]? with
          | some row =>
            if own then
              match x with
              | .t t => match s.e.get t with
                | .v _ => some (s.put d (.ptr t [(0, n.toNat)] 0))
                | .ld r p o _ _ => some (s.put d (.ptr r (p ++ [(o, n.toNat)]) 0))
                | _ => none
              | .c _ => none
            else some (s.put d (.iptr row 0))
          | none => none
        else none
      | _ => none
    | none => none
  | .byte d x i =>
    match s.int i, s.look (s.val x) with
    | some (_, n), some (.leaf (.str a)) =>
      if 0 ≤ n then
        match a.data[n.toNat]? with
        | some b => some (s.put d (.v (.leaf (.int .u8 b.toNat))))
        | none => none
      else none
    | _, _ => none
  | .len d x str =>
    match s.look (s.val x) with
    | some (.leaf (.sl _ _ rows)) => if str then none else some (s.put d (.v (.leaf (.int .i64 rows.length))))
    | some (.leaf (.str a)) => if str then some (s.put d (.v (.leaf (.int .i64 a.size)))) else none
    | _ => none
  | .app d x y sz bytes str =>
    match s.take x with
    | some (.leaf (.sl true sz' rows), s1) =>
      match s1.look (s1.val y) with
      | some (.leaf (.str a)) =>
        if str = true ∧ sz' = sz ∧ sz = 1 ∧ (rows.length + a.size) * bytes ≤ 140737488355328 then some (s1.put d (.v (.leaf (.sl true sz (rows ++ strRows a))))) else none
      | some (.leaf (.sl false sz2 rows2)) =>
        if str = false ∧ sz' = sz ∧ sz2 = sz ∧ (rows.length + rows2.length) * bytes ≤ 140737488355328 then some (s1.put d (.v (.leaf (.sl true sz (rows ++ rows2))))) else none
      | some (.leaf (.sl true _ _)) =>
        match s1.take y with
        | some (.leaf (.sl _ sz2 rows2), s2) =>
          if str = false ∧ sz' = sz ∧ sz2 = sz ∧ (rows.length + rows2.length) * bytes ≤ 140737488355328 then some (s2.put d (.v (.leaf (.sl true sz (rows ++ rows2))))) else none
        | _ => none
      | _ => none
    | _ => none
  | .min d x y =>
    match s.int x, s.int y with
    | some (k, a), some (_, b) => some (s.put d (.v (.leaf (.int k (if b < a then b else a)))))
    | _, _ => none
  | .call d f args =>
    match s.call G F f args with
    | some ([c], s2) => some (s2.put d (.v c))
    | some (res, s2) => some (s2.put d (.tup res))
    | none => none
  | .ext d x i =>
    match x with
    | .t t => match s.e.get t with
      | .tup cs => match cs[i]? with
        | some c => if c.shal then some (s.put d (.v c)) else some ((s.put t (.tup (cs.set i .gone))).put d (.v c))
        | none => none
      | _ => none
    | .c _ => none

def VOp.dst : VOp → Option Tmp
  | .mv d _ | .asg d _ | .bad d | .pick d _ _ _ | .alloc d _ | .box d _ | .boxM d _ | .build d _ _ | .mk d _ _ _ | .load d _ _ _ | .nil d _ | .bin d _ _ _ | .eqs d _ _ _ _ | .eqb d _ _ _ | .un d _ _ | .conv d _ _ | .bytes d _
  | .make d _ _ _ _ | .subStr d _ _ _ | .subSl d _ _ _ _ | .fld d _ _ | .idx d _ _ _ | .byte d _ _ | .len d _ _ | .app d _ _ _ _ _ | .min d _ _ | .call d _ _ | .ext d _ _ => some d
  | .store _ _ _ => none

/-- An operation with its guard: the slot that must hold that bool. -/
structure GOp where
  g : Option (Tmp × Bool)
  o : VOp
def gop (G : Sigs) (F : Fns) (s : RS) (o : GOp) : Option RS :=
  match o.g with
  | none => vop G F s o.o
  | some (t, want) =>
    match s.e.get t with
    | .v (.leaf (.bool b)) => if b = want then vop G F s o.o else match o.o.dst with
      | some d => some (s.put d .un)
      | none => some s
    | .un => match o.o.dst with
      | some d => some (s.put d .un)
      | none => some s
    | _ => none
def gops (G : Sigs) (F : Fns) : List GOp → RS → Option RS
  | [], s => some s
  | o :: os, s => match gop G F s o with
    | some s' => gops G F os s'
    | none => none

/-- An operation of a region whose order is left open: is it calm (it only lays a value that owns nothing)? Between how many of the loud ones may it be done? -/
structure DOp where
  o : GOp
  calm : Bool
  lo : Nat
  hi : Nat
def DOp.dstC (q : DOp) : Option Tmp := if q.calm then q.o.o.dst else none
def calmT : List DOp → List Tmp
  | [] => []
  | q :: qs => match q.dstC with
    | some d => d :: calmT qs
    | none => calmT qs
def AV.calmA (cs : List Tmp) : AV → Bool
  | .v c => c.shal
  | .tup _ => false
  | .ptr r _ _ => !cs.contains r
  | .ld r _ _ _ _ => !cs.contains r
  | _ => true
def Env.noroot (cs : List Tmp) : Env → Bool
  | [] => true
  | (_, .ptr r _ _) :: e => !cs.contains r && Env.noroot cs e
  | (_, .ld r _ _ _ _) :: e => !cs.contains r && Env.noroot cs e
  | _ :: e => Env.noroot cs e
/-- All that the calm ones yield, laid ahead. -/
def lay (S : RS) : List Tmp → RS → RS
  | [], s => s
  | t :: ts, s => lay S ts (s.put t (S.e.get t))
/-- Behind k loud ones each calm one that may be done there yields what it yields in the text's order. -/
def stage (G : Sigs) (F : Fns) (S T : RS) (k : Nat) : List DOp → Prop
  | [] => True
  | q :: qs => (q.calm = true → q.lo ≤ k → k ≤ q.hi → match q.o.o.dst with
      | some d => T.e.get d = S.e.get d ∧ gop G F T q.o = some (T.put d (S.e.get d))
      | none => False) ∧ stage G F S T k qs
open Classical in
noncomputable def runL (G : Sigs) (F : Fns) (S : RS) (all : List DOp) : List DOp → Nat → RS → Option RS
  | [], k, T => if stage G F S T k all then some T else none
  | q :: qs, k, T =>
    if q.calm = true then runL G F S all qs k T else
    if stage G F S T k all then match gop G F T q.o with
      | some T' => runL G F S all qs (k + 1) T'
      | none => none
    else none
noncomputable def draw (G : Sigs) (F : Fns) (qs : List DOp) (s : RS) : Option RS :=
  match gops G F (qs.map (·.o)) s with
  | some S => if ((calmT qs).all fun t => (S.e.get t).calmA (calmT qs)) = true ∧ s.e.noroot (calmT qs) = true then runL G F S qs qs 0 (lay S (calmT qs) s) else none
  | none => none

/-- At a region's end: what stands for a place that has changed, or is not kept, is struck. -/
def AV.keepRef (d : List Dirt) (live : List Tmp) : AV → AV
  | .ptr r p o => if cleanP d r p = true ∧ live.contains r = true then .ptr r p o else .bad
  | .ld r p o n g => if clean d r p o n = true ∧ live.contains r = true then .ld r p o n g else .bad
  | av => av
def Env.keepV (d : List Dirt) (live : List Tmp) : Env → Env
  | [] => []
  | (k, v) :: e => if live.contains k = true then (k, v.keepRef d live) :: Env.keepV d live e else Env.keepV d live e
/-- At a region's end only some slots are kept: what such a slot stands for in a root that is not kept is taken. -/
def RS.fin (s : RS) (live : List Tmp) : List Tmp → Option RS
  | [] => some ⟨Env.keepV s.d live s.e, []⟩
  | t :: ts =>
    match s.e.get t with
    | .ld r _ _ _ _ => if live.contains r = false then
        match s.take (.t t) with
        | some (c, s') => (s'.put t (.v c)).fin live ts
        | none => none
      else s.fin live ts
    | .ptr r [] 0 =>
      if live.contains r = false ∧ cleanP s.d r [] = true ∧ r ≠ t then
        match s.e.get r with
        | .v (.box row) => ((s.put r .bad).put t (.v (.box row))).fin live ts
        | _ => none
      else s.fin live ts
    | _ => s.fin live ts

inductive VC where
  | skip
  | region (ops : List GOp) (live : List Tmp)
  | draw (qs : List DOp) (live : List Tmp)
  | seq (a b : VC)
  | cond (x : X) (a b : VC)
  | block (id : Nat) (b : VC)
  | loop (b : VC)
  | exit (id : Nat)
  | ret
inductive VX where
  | normal
  | exit (id : Nat)
  | ret

/-- A loop's rounds, so many at most. -/
def iter (f : Env → Option (VX × Env)) : Nat → Env → Option (VX × Env)
  | 0, _ => none
  | n + 1, e => match f e with
    | some (.normal, e') => iter f n e'
    | r => r
noncomputable def ex (G : Sigs) (F : Fns) (n : Nat) : VC → Env → Option (VX × Env)
  | .skip, e => some (.normal, e)
  | .region ops live, e => match gops G F ops ⟨e, []⟩ with
    | some s => match s.fin live live with
      | some s' => some (.normal, s'.e)
      | none => none
    | none => none
  | .draw qs live, e => match draw G F qs ⟨e, []⟩ with
    | some s => match s.fin live live with
      | some s' => some (.normal, s'.e)
      | none => none
    | none => none
  | .seq a b, e => match ex G F n a e with
    | some (.normal, e') => ex G F n b e'
    | r => r
  | .cond x a b, e => match (RS.mk e []).look ((RS.mk e []).val x) with
    | some (.leaf (.bool t)) => if t then ex G F n a e else ex G F n b e
    | _ => none
  | .block id b, e => match ex G F n b e with
    | some (.exit id', e') => if id' = id then some (.normal, e') else some (.exit id', e')
    | r => r
  | .loop b, e => iter (ex G F n b) n e
  | .exit id, e => some (.exit id, e)
  | .ret, e => some (.ret, e)

/-- A result: a slot, or what lies in a box. -/
inductive RX where
  | tmp (t : Tmp)
  | cell (t : Tmp) (n : Nat) (agg : Bool)
structure VFn where
  sig : Sig
  body : VC
  res : List RX
def params : Nat → List CV → Env
  | _, [] => []
  | i, c :: cs => (i, .v c) :: params (i + 1) cs
def RS.results (s : RS) : List RX → Option (List CV × RS)
  | [] => some ([], s)
  | .tmp t :: rs => match s.take (.t t) with
    | some (c, s') => match s'.results rs with
      | some (cs, s'') => some (c :: cs, s'')
      | none => none
    | none => none
  | .cell t n agg :: rs => match s.e.get t with
    | .v (.box row) => if row.length = n then match cellsOf row 0 n agg with
        | some c => match (s.put t .bad).results rs with
          | some (cs, s'') => some (c :: cs, s'')
          | none => none
        | none => none
      else none
    | _ => none
def out (e : Env) (i : Nat) : Mode → Option CV
  | .M => match e.get i with
    | .v (.leaf l) => some (.leaf l)
    | .v (.agg ls) => some (.agg ls)
    | .v (.box row) => some (.box row)
    | .bad => match e.boxOf i e with
      | some row => some (.agg row)
      | none => none
    | _ => none
  | _ => some .gone
def outs (e : Env) : Nat → List Mode → Option (List CV)
  | _, [] => some []
  | i, m :: ms =>
    match out e i m with
    | some c => match outs e (i + 1) ms with
      | some cs => some (c :: cs)
      | none => none
    | none => none
noncomputable def vfn (G : Sigs) (F : Fns) (n : Nat) (f : VFn) (args : List CV) : Option (List CV × List CV) :=
  match ex G F n f.body (params 0 args) with
  | some (.normal, e) | some (.ret, e) =>
    match (RS.mk e []).results f.res with
    | some (cs, s) => match outs s.e 0 f.sig.modes with
      | some os => if f.sig.own = false ∨ (cs.all CV.free ∧ os.all CV.free) then some (cs, os) else none
      | none => none
    | none => none
  | _ => none

end Go.VS
