/- The value-semantics evaluator: values, places, environments. Nothing of the model's heap is in this text. -/
import Derived.WalkKit
import Derived.Orders
import Derived.LoopN
namespace Go.VS
open Go
set_option linter.unusedSimpArgs false
set_option linter.unusedVariables false

/-- A leaf: what one cell holds. A slice is a list of rows of leaves, owned (nobody else sees its memory) or immutable. -/
inductive L where
  | bad
  | int (k : IntKind) (n : Int)
  | bool (b : Bool)
  | str (s : ByteArray)
  | sl (own : Bool) (sz : Nat) (rows : List (List L))

/-- What can be handed to a function, or come out of it: a leaf, a struct, a box of one's own (a pointer to it); a box that holds just what parameter t came in as; nothing that is known. -/
inductive CV where
  | leaf (l : L)
  | agg (ls : List L)
  | box (row : List L)
  | pbox (t : Tmp) (row : List L)
  | gone

/-- What a slot holds: a value; several; a pointer into a root's row (path: column and index of each slice on the way; then the column); a pointer into an immutable row; a struct or a slice loaded from an owned place (it stays there); the model's undefined. -/
inductive AV where
  | bad
  | un
  | v (c : CV)
  | tup (cs : List CV)
  | ptr (r : Tmp) (p : List (Nat × Nat)) (o : Nat)
  | iptr (row : List L) (o : Nat)
  | ld (r : Tmp) (p : List (Nat × Nat)) (o n : Nat) (agg : Bool)

mutual
/-- The same value, for good unchanged. -/
def L.freeze : L → L
  | .sl true sz rows => .sl false sz (freezeRR rows)
  | .sl false sz rows => .sl false sz rows
  | .bad => .bad
  | .int k n => .int k n
  | .bool b => .bool b
  | .str s => .str s
def freezeR : List L → List L
  | [] => []
  | l :: ls => l.freeze :: freezeR ls
def freezeRR : List (List L) → List (List L)
  | [] => []
  | r :: rs => freezeR r :: freezeRR rs
end

mutual
/-- All that it holds of memory is its own. -/
def L.free : L → Bool
  | .sl o _ rows => o && freeRR rows
  | .bad => true
  | .int .. => true
  | .bool _ => true
  | .str _ => true
def freeR : List L → Bool
  | [] => true
  | l :: ls => l.free && freeR ls
def freeRR : List (List L) → Bool
  | [] => true
  | r :: rs => freeR r && freeRR rs
end

def L.own : L → Bool
  | .sl o _ _ => o
  | _ => false
def ownR : List L → Bool
  | [] => false
  | l :: ls => l.own || ownR ls
/-- What is left at a place when what it owns has been taken. -/
def L.unown (l : L) : L := if l.own then .bad else l
def unownR : List L → List L
  | [] => []
  | l :: ls => l.unown :: unownR ls

def CV.freeze : CV → CV
  | .leaf l => .leaf l.freeze
  | .agg ls => .agg (freezeR ls)
  | _ => .gone
def CV.free : CV → Bool
  | .leaf l => l.free
  | .agg ls => freeR ls
  | .box row => freeR row
  | .gone => true
  | .pbox _ _ => false
/-- Nothing owned at its surface: may be copied. -/
def CV.shal : CV → Bool
  | .leaf l => !l.own
  | .agg ls => !ownR ls
  | _ => false
/-- The row of leaves that a root offers to paths. -/
def CV.row : CV → List L
  | .leaf l => [l]
  | .agg ls => ls
  | .box row => row
  | .pbox _ row => row
  | .gone => []
/-- The same root with another row. -/
def CV.withRow : CV → List L → CV
  | .leaf l, row => .leaf (row.headD l)
  | .agg _, row => .agg row
  | .box _, row => .box row
  | .pbox t _, row => .pbox t row
  | .gone, _ => .gone
/-- A leaf or a struct. -/
def CV.flat : CV → Bool
  | .leaf _ => true
  | .agg _ => true
  | _ => false

/-- Slots with what they hold; a slot that is not listed holds nothing that may be used. -/
abbrev Env := List (Tmp × AV)
def Env.get : Env → Tmp → AV
  | [], _ => .bad
  | (k, v) :: e, t => if k = t then v else Env.get e t
def Env.put : Env → Tmp → AV → Env
  | [], t, v => [(t, v)]
  | (k, x) :: e, t, v => if t = k then (t, v) :: e else if t < k then (t, v) :: (k, x) :: e else (k, x) :: Env.put e t v
def Env.del : Env → List Tmp → Env
  | [], _ => []
  | (k, x) :: e, ts => if ts.contains k then Env.del e ts else (k, x) :: Env.del e ts
/-- Nothing stands for a place. -/
def Env.norefs : Env → Bool
  | [] => true
  | (_, .ptr _ _ _) :: _ => false
  | (_, .ld _ _ _ _ _) :: _ => false
  | _ :: e => Env.norefs e
/-- What lies in the box of parameter i. -/
def Env.boxOf (E : Env) (i : Tmp) : Env → Option (List L)
  | [] => none
  | (k, _) :: e => match E.get k with
    | .v (.pbox t row) => if t = i then some row else Env.boxOf E i e
    | _ => Env.boxOf E i e

/-- The row at the end of a path through owned slices. -/
def rowAt : List (Nat × Nat) → List L → Option (List L)
  | [], row => some row
  | (c, i) :: p, row =>
    match row[c]? with
    | some (.sl true _ rows) => match rows[i]? with
      | some r => rowAt p r
      | none => none
    | _ => none
/-- The same with another row at the end of the path. -/
def setRow : List (Nat × Nat) → List L → List L → List L
  | [], _, new => new
  | (c, i) :: p, row, new =>
    match row[c]? with
    | some (.sl o sz rows) => match rows[i]? with
      | some r => row.set c (.sl o sz (rows.set i (setRow p r new)))
      | none => row
    | _ => row
/-- Some leaves laid over a row, from a column on. -/
def patch : List L → Nat → List L → List L
  | row, _, [] => row
  | row, o, l :: ls => patch (row.set o l) (o + 1) ls

/-- Does a path lead through one of the columns o .. o+n-1 of the row at path q? (Indices are not looked at.) -/
def hits : List (Nat × Nat) → Nat → Nat → List (Nat × Nat) → Bool
  | [], o, n, (c, _) :: _ => o ≤ c && c < o + n
  | [], _, _, [] => false
  | (a, _) :: q, o, n, (b, _) :: p => a == b && hits q o n p
  | _ :: _, _, _, [] => false
/-- .. or does what begins at column x, k columns wide, of the row at its end? -/
def meets : List (Nat × Nat) → Nat → Nat → List (Nat × Nat) → Nat → Nat → Bool
  | [], o, n, [], x, k => o < x + k && x < o + n
  | [], o, n, (c, _) :: _, _, _ => o ≤ c && c < o + n
  | (a, _) :: q, o, n, (b, _) :: p, x, k => a == b && meets q o n p x k
  | _ :: _, _, _, [], _, _ => false

/-- A place that has changed since the region began: root, path, column, width (0: the whole root). -/
abbrev Dirt := Tmp × List (Nat × Nat) × Nat × Nat
/-- What a region's run turns: the slots, and the places that changed. -/
structure RS where
  e : Env
  d : List Dirt
def cleanP : List Dirt → Tmp → List (Nat × Nat) → Bool
  | [], _, _ => true
  | (r', q, o, n) :: d, r, p => !(r' == r && (n == 0 || hits q o n p)) && cleanP d r p
def clean : List Dirt → Tmp → List (Nat × Nat) → Nat → Nat → Bool
  | [], _, _, _, _ => true
  | (r', q, o, n) :: d, r, p, x, k => !(r' == r && (n == 0 || meets q o n p x k)) && clean d r p x k
def RS.set (s : RS) (t : Tmp) (v : AV) : RS := ⟨s.e.put t v, s.d⟩
def AV.isV : AV → Bool
  | .v _ => true
  | _ => false
def AV.isBox : AV → Bool
  | .v (.box _) => true
  | _ => false
/-- A slot is written: what stood for a place in what it held does so no more. -/
def RS.put (s : RS) (t : Tmp) (v : AV) : RS := ⟨s.e.put t v, if (s.e.get t).isV then (t, [], 0, 0) :: s.d else s.d⟩
def RS.mark (s : RS) (r : Tmp) (q : List (Nat × Nat)) (o n : Nat) : RS := ⟨s.e, (r, q, o, n) :: s.d⟩

/-- An operand: a slot, or a constant. -/
inductive X where
  | t (t : Tmp)
  | c (c : CV)
def RS.val (s : RS) : X → AV
  | .t t => s.e.get t
  | .c c => .v c
/-- A root's row; the row at a path from it. -/
def rowOf (e : Env) (r : Tmp) : Option (List L) :=
  match e.get r with
  | .v c => some c.row
  | _ => none
def slotAt (e : Env) (r : Tmp) (p : List (Nat × Nat)) : Option (List L) :=
  match rowOf e r with
  | some row => rowAt p row
  | none => none
/-- n leaves of a row as a value. -/
def cellsOf (row : List L) (o n : Nat) (agg : Bool) : Option CV :=
  if agg then (if o + n ≤ row.length then some (.agg ((row.drop o).take n)) else none)
  else match row[o]? with
    | some l => some (.leaf l)
    | none => none
/-- The value that a slot stands for. -/
def RS.look (s : RS) : AV → Option CV
  | .v c => some c
  | .ld r p o n agg =>
    if clean s.d r p o n then
      match slotAt s.e r p with
      | some row => cellsOf row o n agg
      | none => none
    else none
  | _ => none
/-- A root with other leaves at a place. -/
def RS.poke (s : RS) (r : Tmp) (p : List (Nat × Nat)) (o : Nat) (ls : List L) : Option RS :=
  match s.e.get r with
  | .v c => match rowAt p c.row with
    | some row => some (s.set r (.v (c.withRow (setRow p c.row (patch row o ls)))))
    | none => none
  | _ => none
/-- The value that an operand stands for, taken from where it lies. -/
def RS.take (s : RS) : X → Option (CV × RS)
  | .c c => some (c, s)
  | .t t =>
    match s.e.get t with
    | .v (.pbox _ _) => none
    | .v .gone => none
    | .v c => if c.shal then some (c, s) else some (c, s.put t .bad)
    | .ld r p o n agg =>
      match s.look (.ld r p o n agg) with
      | some c => if c.shal then some (c, s) else
        match s.poke r p o (unownR c.row) with
        | some s' => some (c, s'.mark r p o n)
        | none => none
      | none => none
    | _ => none

end Go.VS
