/- The evaluator as rules to rewrite by: each step waits until what it looks at is known. -/
import Derived.Test.YtjcjodcpiickaaaGreatDoorEngM5
namespace Go.VS
open Go
set_option linter.unusedSimpArgs false
set_option linter.unusedVariables false

variable {G : Sigs} {F : Fns} {s : RS} {e : Env} {ks : List Fr} {Q : VX → Env → Prop}

attribute [simp] run_seq run_block run_skip_seq run_skip_blk run_skip_nil run_exit_seq run_exit_rep run_exit_blk run_ret_cons run_ret_nil run_skip_rep
attribute [simp] RS.val Env.get Env.put Env.del CV.shal CV.row CV.flat CV.withRow L.own ownR L.unown unownR AV.isV AV.isBox RS.mark RS.set patch hits meets cleanP clean params CV.freeze L.freeze freezeR CV.free L.free freeR freeRR freezeRR freeRR freezeRR
attribute [simp] calmT DOp.dstC VOp.dst AV.calmA Env.noroot lay rootsV rootsM nodup

@[simp] theorem put_mk {e : Env} {d : List Dirt} {t : Tmp} {v : AV} : RS.put ⟨e, d⟩ t v = ⟨e.put t v, if (e.get t).isV = true then (t, [], 0, 0) :: d else d⟩ := rfl
@[simp] theorem get0 {α : Type} (a : α) (l : List α) : (a :: l)[0]? = some a := rfl
@[simp] theorem get1 {α : Type} (a : α) (l : List α) (i : Nat) : (a :: l)[i + 1]? = l[i]? := rfl
theorem put_e {t : Tmp} {v : AV} : (s.put t v).e = s.e.put t v := rfl

/-- cells of a row that may be there -/
def cellsO : Option (List L) → Nat → Nat → Bool → Option CV
  | some row, o, n, true => if o + n ≤ row.length then some (.agg ((row.drop o).take n)) else none
  | some row, o, _, false => (row[o]?).map .leaf
  | none, _, _, _ => none
@[simp] theorem cellsO.c0  : ∀ row o n, cellsO (some row) o n true = (if o + n ≤ row.length then some (.agg ((row.drop o).take n)) else none) := by intro row o n; first | rfl
@[simp] theorem cellsO.c1  : ∀ row o z1, cellsO (some row) o z1 false = ((row[o]?).map .leaf) := by intro row o z1; first | rfl | (cases z1 <;> rfl)
theorem cellsOf_O (row : List L) (o n : Nat) (g : Bool) : cellsOf row o n g = cellsO (some row) o n g := by
  unfold cellsOf cellsO
  cases g
  · simp; cases row[o]? <;> rfl
  · simp
def rowAtK2 : Option (List L) → List (Nat × Nat) → Option (List L)
  | some r, p => rowAt p r
  | none, _ => none
def rowAtK : Option L → Nat → List (Nat × Nat) → Option (List L)
  | some (.sl true _ rows), i, p => rowAtK2 rows[i]? p
  | _, _, _ => none
@[simp] theorem rowAtK.c0  : ∀ z1 rows i p, rowAtK (some (.sl true z1 rows)) i p = (rowAtK2 rows[i]? p) := by intro z1 rows i p; first | rfl | (cases z1 <;> rfl)
@[simp] theorem rowAtK2.c0  : ∀ r p, rowAtK2 (some r) p = (rowAt p r) := by intro r p; first | rfl
@[simp] theorem rowAt_nil (row : List L) : VS.rowAt [] row = some row := rfl
@[simp] theorem rowAt_cons (c i : Nat) (p : List (Nat × Nat)) (row : List L) : VS.rowAt ((c, i) :: p) row = rowAtK row[c]? i p := by
  unfold VS.rowAt rowAtK
  cases hc : row[c]? with
  | none => rfl
  | some l =>
    cases l with
    | sl o sz rows => cases o <;> simp only <;> (unfold rowAtK2; cases hr : rows[i]? <;> rfl)
    | _ => rfl
def setRowK2 : Option (List L) → Bool → Nat → List (List L) → List L → Nat → Nat → List (Nat × Nat) → List L → List L
  | some r, o, sz, rows, row, c, i, p, new => row.set c (.sl o sz (rows.set i (setRow p r new)))
  | none, _, _, _, row, _, _, _, _ => row
def setRowK : Option L → List L → Nat → Nat → List (Nat × Nat) → List L → List L
  | some (.sl o sz rows), row, c, i, p, new => setRowK2 rows[i]? o sz rows row c i p new
  | _, row, _, _, _, _ => row
@[simp] theorem setRowK.c0  : ∀ o sz rows row c i p new, setRowK (some (.sl o sz rows)) row c i p new = (setRowK2 rows[i]? o sz rows row c i p new) := by intro o sz rows row c i p new; first | rfl
@[simp] theorem setRowK2.c0  : ∀ r o sz rows row c i p new, setRowK2 (some r) o sz rows row c i p new = (row.set c (.sl o sz (rows.set i (setRow p r new)))) := by intro r o sz rows row c i p new; first | rfl
@[simp] theorem setRowK2.c1  : ∀ z1 z2 z3 row z4 z5 z6 z7, setRowK2 none z1 z2 z3 row z4 z5 z6 z7 = (row) := by intro z1 z2 z3 row z4 z5 z6 z7; first | rfl | (cases z1 <;> rfl) | (cases z2 <;> rfl) | (cases z3 <;> rfl) | (cases z4 <;> rfl) | (cases z5 <;> rfl) | (cases z6 <;> rfl) | (cases z7 <;> rfl)
@[simp] theorem setRow_nil (row new : List L) : setRow [] row new = new := rfl
@[simp] theorem setRow_cons (c i : Nat) (p : List (Nat × Nat)) (row new : List L) : setRow ((c, i) :: p) row new = setRowK row[c]? row c i p new := by
  unfold setRow setRowK
  cases hc : row[c]? with
  | none => rfl
  | some l =>
    cases l with
    | sl o sz rows => simp only; unfold setRowK2; cases hr : rows[i]? <;> rfl
    | _ => rfl

def rowOfK : AV → Option (List L)
  | .v c => some c.row
  | _ => none
@[simp] theorem rowOfK.c0  : ∀ c, rowOfK (.v c) = (some c.row) := by intro c; first | rfl
@[simp] theorem rowOf_eq (e : Env) (r : Tmp) : rowOf e r = rowOfK (e.get r) := by unfold rowOf rowOfK; rfl
def slotK (p : List (Nat × Nat)) : Option (List L) → Option (List L)
  | some row => VS.rowAt p row
  | none => none
@[simp] theorem slotK.c0 (p : List (Nat × Nat)) : ∀ row, slotK p (some row) = (VS.rowAt p row) := by intro row; first | rfl
@[simp] theorem slotK.c1 (p : List (Nat × Nat)) : slotK p none = (none) := rfl
@[simp] theorem slotAt_eq (e : Env) (r : Tmp) (p : List (Nat × Nat)) : slotAt e r p = slotK p (rowOf e r) := by unfold slotAt slotK; cases rowOf e r <;> rfl
@[simp] theorem look_v (c : CV) : s.look (.v c) = some c := rfl
@[simp] theorem look_ld (r : Tmp) (p : List (Nat × Nat)) (o n : Nat) (g : Bool) : s.look (.ld r p o n g) = if clean s.d r p o n = true then cellsO (slotAt s.e r p) o n g else none := by
  simp only [RS.look]
  split
  · cases slotAt s.e r p with
    | none => rfl
    | some row => exact cellsOf_O ..
  · rfl
@[simp] theorem look_bad : s.look .bad = none := rfl
@[simp] theorem look_un : s.look .un = none := rfl
@[simp] theorem look_tup (cs : List CV) : s.look (.tup cs) = none := rfl
@[simp] theorem look_ptr (r : Tmp) (p : List (Nat × Nat)) (o : Nat) : s.look (.ptr r p o) = none := rfl
@[simp] theorem look_iptr (r : List L) (o : Nat) : s.look (.iptr r o) = none := rfl

def pokeK2 (s : RS) (r : Tmp) (p : List (Nat × Nat)) (o : Nat) (ls : List L) (c : CV) : Option (List L) → Option RS
  | some row => some ⟨s.e.put r (.v (c.withRow (setRow p c.row (patch row o ls)))), s.d⟩
  | none => none
def pokeK (s : RS) (r : Tmp) (p : List (Nat × Nat)) (o : Nat) (ls : List L) : AV → Option RS
  | .v c => pokeK2 s r p o ls c (VS.rowAt p c.row)
  | _ => none
@[simp] theorem pokeK.c0 (s : RS) (r : Tmp) (p : List (Nat × Nat)) (o : Nat) (ls : List L) : ∀ c, pokeK s r p o ls (.v c) = (pokeK2 s r p o ls c (VS.rowAt p c.row)) := by intro c; first | rfl
@[simp] theorem pokeK2.c0 (s : RS) (r : Tmp) (p : List (Nat × Nat)) (o : Nat) (ls : List L) (c : CV) : ∀ row, pokeK2 s r p o ls c (some row) = (some ⟨s.e.put r (.v (c.withRow (setRow p c.row (patch row o ls)))), s.d⟩) := by intro row; first | rfl
@[simp] theorem pokeK2.c1 (s : RS) (r : Tmp) (p : List (Nat × Nat)) (o : Nat) (ls : List L) (c : CV) : pokeK2 s r p o ls c none = (none) := rfl
@[simp] theorem poke_eq (r : Tmp) (p : List (Nat × Nat)) (o : Nat) (ls : List L) : s.poke r p o ls = pokeK s r p o ls (s.e.get r) := by
  unfold RS.poke pokeK
  cases s.e.get r with
  | v c => simp only; unfold pokeK2; cases VS.rowAt p c.row <;> rfl
  | _ => rfl

def takeK3 (c : CV) (r : Tmp) (p : List (Nat × Nat)) (o n : Nat) : Option RS → Option (CV × RS)
  | some s' => some (c, ⟨s'.e, (r, p, o, n) :: s'.d⟩)
  | none => none
def takeK2 (s : RS) (r : Tmp) (p : List (Nat × Nat)) (o n : Nat) : Option CV → Option (CV × RS)
  | some c => if c.shal = true then some (c, s) else takeK3 c r p o n (s.poke r p o (unownR c.row))
  | none => none
def takeK (s : RS) (t : Tmp) : AV → Option (CV × RS)
  | .v (.leaf l) => if (CV.leaf l).shal = true then some (.leaf l, s) else some (.leaf l, s.put t .bad)
  | .v (.agg l) => if (CV.agg l).shal = true then some (.agg l, s) else some (.agg l, s.put t .bad)
  | .v (.box l) => some (.box l, s.put t .bad)
  | .ld r p o n g => takeK2 s r p o n (s.look (.ld r p o n g))
  | _ => none
@[simp] theorem takeK.c0 (s : RS) (t : Tmp) : ∀ l, takeK s t (.v (.leaf l)) = (if (CV.leaf l).shal = true then some (.leaf l, s) else some (.leaf l, s.put t .bad)) := by intro l; first | rfl
@[simp] theorem takeK.c1 (s : RS) (t : Tmp) : ∀ l, takeK s t (.v (.agg l)) = (if (CV.agg l).shal = true then some (.agg l, s) else some (.agg l, s.put t .bad)) := by intro l; first | rfl
@[simp] theorem takeK.c2 (s : RS) (t : Tmp) : ∀ l, takeK s t (.v (.box l)) = (some (.box l, s.put t .bad)) := by intro l; first | rfl
@[simp] theorem takeK.c3 (s : RS) (t : Tmp) : ∀ r p o n g, takeK s t (.ld r p o n g) = (takeK2 s r p o n (s.look (.ld r p o n g))) := by intro r p o n g; first | rfl
@[simp] theorem takeK2.c0 (s : RS) (r : Tmp) (p : List (Nat × Nat)) (o n : Nat) : ∀ c, takeK2 s r p o n (some c) = (if c.shal = true then some (c, s) else takeK3 c r p o n (s.poke r p o (unownR c.row))) := by intro c; first | rfl
@[simp] theorem takeK2.c1 (s : RS) (r : Tmp) (p : List (Nat × Nat)) (o n : Nat) : takeK2 s r p o n none = (none) := rfl
@[simp] theorem takeK3.c0 (c : CV) (r : Tmp) (p : List (Nat × Nat)) (o n : Nat) : ∀ s', takeK3 c r p o n (some s') = (some (c, ⟨s'.e, (r, p, o, n) :: s'.d⟩)) := by intro s'; first | rfl
@[simp] theorem takeK3.c1 (c : CV) (r : Tmp) (p : List (Nat × Nat)) (o n : Nat) : takeK3 c r p o n none = (none) := rfl
@[simp] theorem take_c (c : CV) : s.take (.c c) = some (c, s) := rfl
@[simp] theorem take_t (t : Tmp) : s.take (.t t) = takeK s t (s.e.get t) := by
  cases hav : s.e.get t with
  | v c => cases c <;> simp only [RS.take, hav, takeK] <;> rfl
  | ld r p o n g =>
    simp only [RS.take, hav, takeK]
    cases s.look (.ld r p o n g) with
    | none => rfl
    | some c =>
      simp only [takeK2]
      split
      · rfl
      · unfold takeK3; cases s.poke r p o (unownR c.row) <;> rfl
  | _ => simp only [RS.take, hav, takeK]

def intK : Option CV → Option (IntKind × Int)
  | some (.leaf (.int k n)) => some (k, n)
  | _ => none
@[simp] theorem intK.c0  : ∀ k n, intK (some (.leaf (.int k n))) = (some (k, n)) := by intro k n; first | rfl
@[simp] theorem int_eq (x : X) : s.int x = intK (s.look (s.val x)) := by unfold RS.int intK; rfl
def boundK : Option (IntKind × Int) → Option Nat
  | some (_, n) => if 0 ≤ n then some n.toNat else none
  | none => none
@[simp] theorem boundK.c0  : ∀ z1 n, boundK (some (z1, n)) = (if 0 ≤ n then some n.toNat else none) := by intro z1 n; first | rfl | (cases z1 <;> rfl)
@[simp] theorem boundK.c1  : boundK none = (none) := rfl
@[simp] theorem bound_none (d : Nat) : s.bound d none = some d := rfl
@[simp] theorem bound_some (d : Nat) (x : X) : s.bound d (some x) = boundK (s.int x) := by
  simp only [RS.bound]
  unfold boundK
  cases s.int x with
  | none => rfl
  | some q => rfl

/-- Parts laid one by one. -/
def partsK (o n : Nat) (row : List L) (ps : List (Nat × Nat × X)) : Option (CV × RS) → Option (List L × RS)
  | some (c, s') => if c.flat = true ∧ c.row.length = n ∧ o + n ≤ row.length then s'.parts ps (patch row o c.row) else none
  | none => none
@[simp] theorem partsK.c0 (o n : Nat) (row : List L) (ps : List (Nat × Nat × X)) : ∀ c s', partsK o n row ps (some (c, s')) = (if c.flat = true ∧ c.row.length = n ∧ o + n ≤ row.length then s'.parts ps (patch row o c.row) else none) := by intro c s'; first | rfl
@[simp] theorem partsK.c1 (o n : Nat) (row : List L) (ps : List (Nat × Nat × X)) : partsK o n row ps none = (none) := rfl
@[simp] theorem parts_nil (row : List L) : s.parts [] row = some (row, s) := rfl
@[simp] theorem parts_cons (o n : Nat) (x : X) (ps : List (Nat × Nat × X)) (row : List L) : s.parts ((o, n, x) :: ps) row = partsK o n row ps (s.take x) := by
  simp only [RS.parts]; unfold partsK; cases s.take x <;> rfl
def rowsK (sz i : Nat) (rows : List (List L)) (ps : List (Nat × X)) : Option (CV × RS) → Option (List (List L) × RS)
  | some (c, s') => if c.flat = true ∧ c.row.length = sz ∧ i < rows.length then s'.rows sz ps (rows.set i c.row) else none
  | none => none
@[simp] theorem rowsK.c0 (sz i : Nat) (rows : List (List L)) (ps : List (Nat × X)) : ∀ c s', rowsK sz i rows ps (some (c, s')) = (if c.flat = true ∧ c.row.length = sz ∧ i < rows.length then s'.rows sz ps (rows.set i c.row) else none) := by intro c s'; first | rfl
@[simp] theorem rowsK.c1 (sz i : Nat) (rows : List (List L)) (ps : List (Nat × X)) : rowsK sz i rows ps none = (none) := rfl
@[simp] theorem rows_nil (sz : Nat) (rows : List (List L)) : s.rows sz [] rows = some (rows, s) := rfl
@[simp] theorem rows_cons (sz i : Nat) (x : X) (ps : List (Nat × X)) (rows : List (List L)) : s.rows sz ((i, x) :: ps) rows = rowsK sz i rows ps (s.take x) := by
  simp only [RS.rows]; unfold rowsK; cases s.take x <;> rfl

def placeK (s : RS) (t : Tmp) : AV → Option (Tmp × List (Nat × Nat) × Nat)
  | .v (.box _) => some (t, [], 0)
  | .v (.pbox _ _) => some (t, [], 0)
  | .ptr r p o => if cleanP s.d r p = true then some (r, p, o) else none
  | _ => none
@[simp] theorem placeK.c0 (s : RS) (t : Tmp) : ∀ z1, placeK s t (.v (.box z1)) = (some (t, [], 0)) := by intro z1; first | rfl | (cases z1 <;> rfl)
@[simp] theorem placeK.c1 (s : RS) (t : Tmp) : ∀ z1 z2, placeK s t (.v (.pbox z1 z2)) = (some (t, [], 0)) := by intro z1 z2; first | rfl | (cases z1 <;> rfl) | (cases z2 <;> rfl)
@[simp] theorem placeK.c2 (s : RS) (t : Tmp) : ∀ r p o, placeK s t (.ptr r p o) = (if cleanP s.d r p = true then some (r, p, o) else none) := by intro r p o; first | rfl
@[simp] theorem place_c (c : CV) : s.place (.c c) = none := rfl
@[simp] theorem place_t (t : Tmp) : s.place (.t t) = placeK s t (s.e.get t) := by
  simp only [RS.place]
  cases s.e.get t with
  | v c => cases c <;> rfl
  | _ => rfl

/-- a result laid in a slot -/
def outK (d : Tmp) : Option (CV × RS) → Option RS
  | some (c, s') => some (s'.put d (.v c))
  | none => none
@[simp] theorem outK.c0 (d : Tmp) : ∀ c s', outK d (some (c, s')) = (some (s'.put d (.v c))) := by intro c s'; first | rfl
@[simp] theorem outK.c1 (d : Tmp) : outK d none = (none) := rfl

def mvK (s : RS) (d : Tmp) : X → AV → Option RS
  | .t t, .v (.leaf l) => if (CV.leaf l).shal = true then some (s.put d (.v (.leaf l))) else some (s.put d (.ld t [] 0 1 false))
  | .t t, .v (.agg ls) => if (CV.agg ls).shal = true then some (s.put d (.v (.agg ls))) else some (s.put d (.ld t [] 0 ls.length true))
  | .t t, .v (.box _) => some (s.put d (.ptr t [] 0))
  | .t t, .v (.pbox _ _) => some (s.put d (.ptr t [] 0))
  | .c c, .v _ => some (s.put d (.v c))
  | _, .ld r p o n a => some (s.put d (.ld r p o n a))
  | _, .ptr r p o => some (s.put d (.ptr r p o))
  | _, .iptr row o => some (s.put d (.iptr row o))
  | _, .un => some (s.put d .un)
  | .t t, .tup cs => if d = t then none else some ((s.put t .bad).put d (.tup cs))
  | _, _ => none
@[simp] theorem mvK.c0 (s : RS) (d : Tmp) : ∀ t l, mvK s d (.t t) (.v (.leaf l)) = (if (CV.leaf l).shal = true then some (s.put d (.v (.leaf l))) else some (s.put d (.ld t [] 0 1 false))) := by intro t l; first | rfl
@[simp] theorem mvK.c1 (s : RS) (d : Tmp) : ∀ t ls, mvK s d (.t t) (.v (.agg ls)) = (if (CV.agg ls).shal = true then some (s.put d (.v (.agg ls))) else some (s.put d (.ld t [] 0 ls.length true))) := by intro t ls; first | rfl
@[simp] theorem mvK.c2 (s : RS) (d : Tmp) : ∀ t z1, mvK s d (.t t) (.v (.box z1)) = (some (s.put d (.ptr t [] 0))) := by intro t z1; first | rfl | (cases z1 <;> rfl)
@[simp] theorem mvK.c3 (s : RS) (d : Tmp) : ∀ t z1 z2, mvK s d (.t t) (.v (.pbox z1 z2)) = (some (s.put d (.ptr t [] 0))) := by intro t z1 z2; first | rfl | (cases z1 <;> rfl) | (cases z2 <;> rfl)
@[simp] theorem mvK.c4 (s : RS) (d : Tmp) : ∀ c z1, mvK s d (.c c) (.v z1) = (some (s.put d (.v c))) := by intro c z1; first | rfl | (cases z1 <;> rfl)
@[simp] theorem mvK.c5 (s : RS) (d : Tmp) : ∀ z1 r p o n a, mvK s d z1 (.ld r p o n a) = (some (s.put d (.ld r p o n a))) := by intro z1 r p o n a; first | rfl | (cases z1 <;> rfl)
@[simp] theorem mvK.c6 (s : RS) (d : Tmp) : ∀ z1 r p o, mvK s d z1 (.ptr r p o) = (some (s.put d (.ptr r p o))) := by intro z1 r p o; first | rfl | (cases z1 <;> rfl)
@[simp] theorem mvK.c7 (s : RS) (d : Tmp) : ∀ z1 row o, mvK s d z1 (.iptr row o) = (some (s.put d (.iptr row o))) := by intro z1 row o; first | rfl | (cases z1 <;> rfl)
@[simp] theorem mvK.c8 (s : RS) (d : Tmp) : ∀ z1, mvK s d z1 .un = (some (s.put d .un)) := by intro z1; first | rfl | (cases z1 <;> rfl)
@[simp] theorem mvK.c9 (s : RS) (d : Tmp) : ∀ t cs, mvK s d (.t t) (.tup cs) = (if d = t then none else some ((s.put t .bad).put d (.tup cs))) := by intro t cs; first | rfl
@[simp] theorem vop_mv (d : Tmp) (x : X) : vop G F s (.mv d x) = mvK s d x (s.val x) := by
  simp only [vop]
  cases x with
  | c c => simp only [RS.val]; unfold mvK; simp only; split <;> rfl
  | t t =>
    simp only [RS.val]
    cases hav : s.e.get t with
    | v c => cases c <;> simp [mvK]
    | tup cs => simp [mvK]
    | _ => rfl

def asgK (s : RS) (d : Tmp) (x : X) : AV → Option RS
  | .ptr r p o => some (s.put d (.ptr r p o))
  | .iptr row o => some (s.put d (.iptr row o))
  | .v _ => outK d (s.take x)
  | .ld _ _ _ _ _ => outK d (s.take x)
  | _ => none
@[simp] theorem asgK.c0 (s : RS) (d : Tmp) (x : X) : ∀ r p o, asgK s d x (.ptr r p o) = (some (s.put d (.ptr r p o))) := by intro r p o; first | rfl
@[simp] theorem asgK.c1 (s : RS) (d : Tmp) (x : X) : ∀ row o, asgK s d x (.iptr row o) = (some (s.put d (.iptr row o))) := by intro row o; first | rfl
@[simp] theorem asgK.c2 (s : RS) (d : Tmp) (x : X) : ∀ z1, asgK s d x (.v z1) = (outK d (s.take x)) := by intro z1; first | rfl | (cases z1 <;> rfl)
@[simp] theorem asgK.c3 (s : RS) (d : Tmp) (x : X) : ∀ z1 z2 z3 z4 z5, asgK s d x (.ld z1 z2 z3 z4 z5) = (outK d (s.take x)) := by intro z1 z2 z3 z4 z5; first | rfl | (cases z1 <;> rfl) | (cases z2 <;> rfl) | (cases z3 <;> rfl) | (cases z4 <;> rfl) | (cases z5 <;> rfl)
@[simp] theorem vop_asg (d : Tmp) (x : X) : vop G F s (.asg d x) = asgK s d x (s.val x) := by
  simp only [vop]
  cases hav : s.val x with
  | ptr r p o => rfl
  | iptr row o => rfl
  | v c => simp only [asgK]; unfold outK; cases s.take x <;> rfl
  | ld r p o n g => simp only [asgK]; unfold outK; cases s.take x <;> rfl
  | _ =>
    cases x with
    | c c => simp [RS.val] at hav
    | t t => simp only [RS.val] at hav; simp [asgK, hav, takeK]
@[simp] theorem vop_bad (d : Tmp) : vop G F s (.bad d) = some (s.put d .bad) := rfl
def pickK2 (s : RS) (d : Tmp) : Option CV → Option RS
  | some v => if v.shal = true then some (s.put d (.v v)) else none
  | none => none
def pickK (s : RS) (d : Tmp) (a b : X) : Option CV → Option RS
  | some (.leaf (.bool t)) => if t = true then pickK2 s d (s.look (s.val a)) else pickK2 s d (s.look (s.val b))
  | _ => none
@[simp] theorem pickK.c0 (s : RS) (d : Tmp) (a b : X) : ∀ t, pickK s d a b (some (.leaf (.bool t))) = (if t = true then pickK2 s d (s.look (s.val a)) else pickK2 s d (s.look (s.val b))) := by intro t; first | rfl
@[simp] theorem pickK2.c0 (s : RS) (d : Tmp) : ∀ v, pickK2 s d (some v) = (if v.shal = true then some (s.put d (.v v)) else none) := by intro v; first | rfl
@[simp] theorem pickK2.c1 (s : RS) (d : Tmp) : pickK2 s d none = (none) := rfl
@[simp] theorem vop_pick (d : Tmp) (c a b : X) : vop G F s (.pick d c a b) = pickK s d a b (s.look (s.val c)) := by
  simp only [vop]
  cases hl : s.look (s.val c) with
  | none => rfl
  | some c0 =>
    cases c0 with
    | leaf l =>
      cases l with
      | bool t =>
        cases t with
        | true => simp only [if_true, pickK]; unfold pickK2; cases s.look (s.val a) <;> rfl
        | false => simp only [Bool.false_eq_true, if_false, pickK]; unfold pickK2; cases s.look (s.val b) <;> rfl
      | _ => rfl
    | _ => rfl
@[simp] theorem vop_alloc (d : Tmp) (zs : List L) : vop G F s (.alloc d zs) = some (s.put d (.v (.box zs))) := rfl
def boxK (d : Tmp) : Option (CV × RS) → Option RS
  | some (.leaf l, s') => if noS [l] = true then some (s'.put d (.v (.box [l]))) else none
  | some (.agg ls, s') => if noS ls = true then some (s'.put d (.v (.box ls))) else none
  | _ => none
@[simp] theorem noS_nil : noS [] = true := rfl
@[simp] theorem noS_int (k : IntKind) (n : Int) (ls : List L) : noS (.int k n :: ls) = noS ls := rfl
@[simp] theorem noS_bool (b : Bool) (ls : List L) : noS (.bool b :: ls) = noS ls := rfl
@[simp] theorem noS_str (b : ByteArray) (ls : List L) : noS (.str b :: ls) = noS ls := rfl
@[simp] theorem noS_bad (ls : List L) : noS (.bad :: ls) = noS ls := rfl
@[simp] theorem noS_sl (o : Bool) (n : Nat) (rows : List (List L)) (ls : List L) : noS (.sl o n rows :: ls) = noS ls := rfl
@[simp] theorem noS_fn (f : FuncId) (cs : List Value) (ls : List L) : noS (.fn f cs :: ls) = noS ls := rfl
@[simp] theorem noS_clo (f : FuncId) (cs : List Value) (ls : List L) : noS (.clo f cs :: ls) = noS ls := rfl
@[simp] theorem noS_bts (e : TypeId) (l : List UInt8) (ls : List L) : noS (.bts e l :: ls) = noS ls := rfl
@[simp] theorem noS_self (t : TypeId) (ls : List L) : noS (.self t :: ls) = false := rfl
@[simp] theorem boxK.c0 (d : Tmp) : ∀ l s', boxK d (some (.leaf l, s')) = (if noS [l] = true then some (s'.put d (.v (.box [l]))) else none) := by intro l s'; first | rfl
@[simp] theorem boxK.c1 (d : Tmp) : ∀ ls s', boxK d (some (.agg ls, s')) = (if noS ls = true then some (s'.put d (.v (.box ls))) else none) := by intro ls s'; first | rfl
@[simp] theorem vop_box (d : Tmp) (x : X) : vop G F s (.box d x) = boxK d (s.take x) := by
  simp only [vop]
  split
  · rename_i h1; simp only [h1, boxK]
  · rename_i h1; simp only [h1, boxK]
  · rename_i n1 n2; unfold boxK; split
    · rename_i h1; exact (n1 _ _ h1).elim
    · rename_i h1; exact (n2 _ _ h1).elim
    · rfl
def boxMK (s : RS) (d t : Tmp) : AV → Option RS
  | .v (.agg ls) => if d = t then none else some ((s.put t .bad).put d (.v (.pbox t ls)))
  | _ => none
@[simp] theorem boxMK.c0 (s : RS) (d t : Tmp) : ∀ ls, boxMK s d t (.v (.agg ls)) = (if d = t then none else some ((s.put t .bad).put d (.v (.pbox t ls)))) := by intro ls; first | rfl
@[simp] theorem vop_boxM (d t : Tmp) : vop G F s (.boxM d t) = boxMK s d t (s.e.get t) := by simp only [vop]; unfold boxMK; rfl
def buildK (d : Tmp) : Option (List L × RS) → Option RS
  | some (row, s') => some (s'.put d (.v (.agg row)))
  | none => none
@[simp] theorem buildK.c0 (d : Tmp) : ∀ row s', buildK d (some (row, s')) = (some (s'.put d (.v (.agg row)))) := by intro row s'; first | rfl
@[simp] theorem buildK.c1 (d : Tmp) : buildK d none = (none) := rfl
@[simp] theorem vop_build (d : Tmp) (zs : List L) (ps : List (Nat × Nat × X)) : vop G F s (.build d zs ps) = buildK d (s.parts ps zs) := by simp only [vop]; unfold buildK; cases s.parts ps zs <;> rfl
def mkK (d : Tmp) (sz : Nat) : Option (List (List L) × RS) → Option RS
  | some (rows, s') => some (s'.put d (.v (.leaf (.sl true sz rows))))
  | none => none
@[simp] theorem mkK.c0 (d : Tmp) (sz : Nat) : ∀ rows s', mkK d sz (some (rows, s')) = (some (s'.put d (.v (.leaf (.sl true sz rows))))) := by intro rows s'; first | rfl
@[simp] theorem mkK.c1 (d : Tmp) (sz : Nat) : mkK d sz none = (none) := rfl
@[simp] theorem vop_mk (d : Tmp) (zs : List L) (n : Nat) (ps : List (Nat × X)) : vop G F s (.mk d zs n ps) = mkK d zs.length (s.rows zs.length ps (List.replicate n zs)) := by simp only [vop]; unfold mkK; cases s.rows zs.length ps (List.replicate n zs) <;> rfl
def loadP (s : RS) (d : Tmp) (r : Tmp) (p : List (Nat × Nat)) (o n : Nat) (g : Bool) : Option CV → Option RS
  | some c => if c.shal = true then some (s.put d (.v c)) else some (s.put d (.ld r p o n g))
  | none => none
def loadI (s : RS) (d : Tmp) : Option CV → Option RS
  | some c => if c.shal = true then some (s.put d (.v c)) else none
  | none => none
def loadK (s : RS) (d : Tmp) (x : X) (n : Nat) (g : Bool) : AV → Option RS
  | .iptr row o => loadI s d (cellsO (some row) o n g)
  | .v (.box _) => match x with
    | .t t => loadP s d t [] 0 n g (cellsO (slotAt s.e t []) 0 n g)
    | .c _ => none
  | .v (.pbox _ _) => match x with
    | .t t => loadP s d t [] 0 n g (cellsO (slotAt s.e t []) 0 n g)
    | .c _ => none
  | .ptr r p o => if cleanP s.d r p = true then loadP s d r p o n g (cellsO (slotAt s.e r p) o n g) else none
  | _ => none
@[simp] theorem loadP.c0 (s : RS) (d : Tmp) (r : Tmp) (p : List (Nat × Nat)) (o n : Nat) (g : Bool) : ∀ c, loadP s d r p o n g (some c) = (if c.shal = true then some (s.put d (.v c)) else some (s.put d (.ld r p o n g))) := by intro c; first | rfl
@[simp] theorem loadP.c1 (s : RS) (d : Tmp) (r : Tmp) (p : List (Nat × Nat)) (o n : Nat) (g : Bool) : loadP s d r p o n g none = (none) := rfl
@[simp] theorem loadI.c0 (s : RS) (d : Tmp) : ∀ c, loadI s d (some c) = (if c.shal = true then some (s.put d (.v c)) else none) := by intro c; first | rfl
@[simp] theorem loadI.c1 (s : RS) (d : Tmp) : loadI s d none = (none) := rfl
@[simp] theorem loadK.c0 (s : RS) (d : Tmp) (x : X) (n : Nat) (g : Bool) : ∀ row o, loadK s d x n g (.iptr row o) = (loadI s d (cellsO (some row) o n g)) := by intro row o; first | rfl
@[simp] theorem loadK.c1 (s : RS) (d : Tmp) (x : X) (n : Nat) (g : Bool) : ∀ z1, loadK s d x n g (.v (.box z1)) = (match x with
    | .t t => loadP s d t [] 0 n g (cellsO (slotAt s.e t []) 0 n g)
    | .c _ => none) := by intro z1; first | rfl | (cases z1 <;> rfl)
@[simp] theorem loadK.c2 (s : RS) (d : Tmp) (x : X) (n : Nat) (g : Bool) : ∀ z1 z2, loadK s d x n g (.v (.pbox z1 z2)) = (match x with
    | .t t => loadP s d t [] 0 n g (cellsO (slotAt s.e t []) 0 n g)
    | .c _ => none) := by intro z1 z2; first | rfl | (cases z1 <;> rfl) | (cases z2 <;> rfl)
@[simp] theorem loadK.c3 (s : RS) (d : Tmp) (x : X) (n : Nat) (g : Bool) : ∀ r p o, loadK s d x n g (.ptr r p o) = (if cleanP s.d r p = true then loadP s d r p o n g (cellsO (slotAt s.e r p) o n g) else none) := by intro r p o; first | rfl
theorem load_place (d : Tmp) (n : Nat) (g : Bool) (r : Tmp) (p : List (Nat × Nat)) (o : Nat) : (match slotAt s.e r p with
        | some row => match cellsOf row o n g with
          | some c => if c.shal then some (s.put d (.v c)) else some (s.put d (.ld r p o n g))
          | none => none
        | none => none) = loadP s d r p o n g (cellsO (slotAt s.e r p) o n g) := by
  cases slotAt s.e r p with
  | none => rfl
  | some row =>
    simp only [cellsOf_O]
    unfold loadP
    cases cellsO (some row) o n g <;> rfl
@[simp] theorem vop_load (d : Tmp) (x : X) (n : Nat) (g : Bool) : vop G F s (.load d x n g) = loadK s d x n g (s.val x) := by
  simp only [vop]
  cases x with
  | c c => cases c <;> rfl
  | t t =>
    cases hav : s.e.get t with
    | v c =>
      cases c with
      | box row => simp only [RS.place, RS.val, hav, loadK]; exact load_place ..
      | pbox t0 row => simp only [RS.place, RS.val, hav, loadK]; exact load_place ..
      | _ => simp [RS.place, RS.val, hav, loadK]
    | ptr r p o =>
      simp only [RS.place, RS.val, hav, loadK]
      split
      · rename_i r' p' o' hh
        split at hh
        · rename_i hc
          simp only [Option.some.injEq, Prod.mk.injEq] at hh
          obtain ⟨rfl, rfl, rfl⟩ := hh
          rw [if_pos hc]; exact load_place ..
        · cases hh
      · rename_i hh
        split at hh
        · cases hh
        · rename_i hc; rw [if_neg hc]
    | iptr row o =>
      simp only [RS.place, RS.val, hav, loadK, cellsOf_O]
      unfold loadI
      cases cellsO (some row) o n g <;> rfl
    | _ => simp [RS.place, RS.val, hav, loadK]
def storeK3 (r : Tmp) (p : List (Nat × Nat)) (o n : Nat) : Option RS → Option RS
  | some s => some ⟨s.e, (r, p, o, n) :: s.d⟩
  | none => none
def storeK2 (s : RS) (c : CV) (n : Nat) (r : Tmp) (p : List (Nat × Nat)) (o : Nat) : Option (List L) → Option RS
  | some row => if o + n ≤ row.length ∧ (p = [] → (s.e.get r).isBox = true) then storeK3 r p o n (s.poke r p o c.row) else none
  | none => none
def storeK1 (s : RS) (c : CV) (n : Nat) : Option (Tmp × List (Nat × Nat) × Nat) → Option RS
  | some (r, p, o) => storeK2 s c n r p o (slotAt s.e r p)
  | none => none
def storeK (a : X) (n : Nat) : Option (CV × RS) → Option RS
  | some (c, s') => if c.flat = false ∨ noS c.row = false ∨ c.row.length ≠ n then none else storeK1 s' c n (s'.place a)
  | none => none
@[simp] theorem storeK.c0 (a : X) (n : Nat) : ∀ c s', storeK a n (some (c, s')) = (if c.flat = false ∨ noS c.row = false ∨ c.row.length ≠ n then none else storeK1 s' c n (s'.place a)) := by intro c s'; first | rfl
@[simp] theorem storeK.c1 (a : X) (n : Nat) : storeK a n none = (none) := rfl
@[simp] theorem storeK1.c0 (s : RS) (c : CV) (n : Nat) : ∀ r p o, storeK1 s c n (some (r, p, o)) = (storeK2 s c n r p o (slotAt s.e r p)) := by intro r p o; first | rfl
@[simp] theorem storeK1.c1 (s : RS) (c : CV) (n : Nat) : storeK1 s c n none = (none) := rfl
@[simp] theorem storeK2.c0 (s : RS) (c : CV) (n : Nat) (r : Tmp) (p : List (Nat × Nat)) (o : Nat) : ∀ row, storeK2 s c n r p o (some row) = (if o + n ≤ row.length ∧ (p = [] → (s.e.get r).isBox = true) then storeK3 r p o n (s.poke r p o c.row) else none) := by intro row; first | rfl
@[simp] theorem storeK2.c1 (s : RS) (c : CV) (n : Nat) (r : Tmp) (p : List (Nat × Nat)) (o : Nat) : storeK2 s c n r p o none = (none) := rfl
@[simp] theorem storeK3.c0 (r : Tmp) (p : List (Nat × Nat)) (o n : Nat) : ∀ s, storeK3 r p o n (some s) = (some ⟨s.e, (r, p, o, n) :: s.d⟩) := by intro s; first | rfl
@[simp] theorem storeK3.c1 (r : Tmp) (p : List (Nat × Nat)) (o n : Nat) : storeK3 r p o n none = (none) := rfl
@[simp] theorem vop_store (a x : X) (n : Nat) : vop G F s (.store a x n) = storeK a n (s.take x) := by
  simp only [vop]
  unfold storeK
  cases s.take x with
  | none => rfl
  | some q =>
    obtain ⟨c, s'⟩ := q
    simp only
    split
    · rfl
    · unfold storeK1
      cases s'.place a with
      | none => rfl
      | some q =>
        obtain ⟨r, p, o⟩ := q
        simp only
        unfold storeK2
        cases slotAt s'.e r p with
        | none => rfl
        | some row =>
          simp only
          split
          · unfold storeK3; cases s'.poke r p o c.row <;> rfl
          · rfl
def nilK (s : RS) (d : Tmp) (off : Nat) : X → AV → Option RS
  | .t t, .v (.box _) => some (s.put d (.ptr t [] off))
  | .t t, .v (.pbox _ _) => some (s.put d (.ptr t [] off))
  | _, .ptr r p o => if cleanP s.d r p = true then some (s.put d (.ptr r p (o + off))) else none
  | _, .iptr row o => some (s.put d (.iptr row (o + off)))
  | _, _ => none
@[simp] theorem nilK.c0 (s : RS) (d : Tmp) (off : Nat) : ∀ t z1, nilK s d off (.t t) (.v (.box z1)) = (some (s.put d (.ptr t [] off))) := by intro t z1; first | rfl | (cases z1 <;> rfl)
@[simp] theorem nilK.c1 (s : RS) (d : Tmp) (off : Nat) : ∀ t z1 z2, nilK s d off (.t t) (.v (.pbox z1 z2)) = (some (s.put d (.ptr t [] off))) := by intro t z1 z2; first | rfl | (cases z1 <;> rfl) | (cases z2 <;> rfl)
@[simp] theorem nilK.c2 (s : RS) (d : Tmp) (off : Nat) : ∀ z1 r p o, nilK s d off z1 (.ptr r p o) = (if cleanP s.d r p = true then some (s.put d (.ptr r p (o + off))) else none) := by intro z1 r p o; first | rfl | (cases z1 <;> rfl)
@[simp] theorem nilK.c3 (s : RS) (d : Tmp) (off : Nat) : ∀ z1 row o, nilK s d off z1 (.iptr row o) = (some (s.put d (.iptr row (o + off)))) := by intro z1 row o; first | rfl | (cases z1 <;> rfl)
def nilF (s : RS) (d : Tmp) : X → AV → Option RS
  | .t t, .v (.leaf (.fn f vs)) => some (s.put d (.v (.leaf (.fn f vs))))
  | .t t, .v (.box _) => some (s.put d (.ptr t [] 0))
  | .t t, .v (.pbox _ _) => some (s.put d (.ptr t [] 0))
  | _, .ptr r p o => if cleanP s.d r p = true then some (s.put d (.ptr r p o)) else none
  | _, .iptr row o => some (s.put d (.iptr row o))
  | _, _ => none
@[simp] theorem nilF.c0 (s : RS) (d : Tmp) : ∀ t f vs, nilF s d (.t t) (.v (.leaf (.fn f vs))) = (some (s.put d (.v (.leaf (.fn f vs))))) := by intro t f vs; first | rfl
@[simp] theorem nilF.c1 (s : RS) (d : Tmp) : ∀ t z1, nilF s d (.t t) (.v (.box z1)) = (some (s.put d (.ptr t [] 0))) := by intro t z1; first | rfl | (cases z1 <;> rfl)
@[simp] theorem nilF.c2 (s : RS) (d : Tmp) : ∀ t z1 z2, nilF s d (.t t) (.v (.pbox z1 z2)) = (some (s.put d (.ptr t [] 0))) := by intro t z1 z2; first | rfl | (cases z1 <;> rfl) | (cases z2 <;> rfl)
@[simp] theorem nilF.c3 (s : RS) (d : Tmp) : ∀ z1 r p o, nilF s d z1 (.ptr r p o) = (if cleanP s.d r p = true then some (s.put d (.ptr r p o)) else none) := by intro z1 r p o; first | rfl | (cases z1 <;> rfl)
@[simp] theorem nilF.c4 (s : RS) (d : Tmp) : ∀ z1 row o, nilF s d z1 (.iptr row o) = (some (s.put d (.iptr row o))) := by intro z1 row o; first | rfl | (cases z1 <;> rfl)
@[simp] theorem vop_nil (d : Tmp) (x : X) : vop G F s (.nil d x) = nilF s d x (s.val x) := by
  simp only [vop]
  cases x with
  | c c =>
    simp only [RS.val]
    cases c with
    | leaf l => cases l <;> rfl
    | _ => rfl
  | t t =>
    simp only [RS.val]
    cases s.e.get t with
    | v c =>
      cases c with
      | leaf l => cases l <;> rfl
      | _ => rfl
    | _ => rfl
@[simp] theorem vop_fld (d : Tmp) (x : X) (off : Nat) : vop G F s (.fld d x off) = nilK s d off x (s.val x) := by
  simp only [vop]
  cases x with
  | c c => simp only [RS.val]; cases c <;> rfl
  | t t =>
    simp only [RS.val]
    cases s.e.get t with
    | v c => cases c <;> rfl
    | _ => rfl
@[simp] theorem vb_add (k : IntKind) (a b : Int) : vbin .add (.int k a) (.int k b) = some (.int k (k.wrap (a + b))) := by simp [vbin]
@[simp] theorem vb_sub (k : IntKind) (a b : Int) : vbin .sub (.int k a) (.int k b) = some (.int k (k.wrap (a - b))) := by simp [vbin]
@[simp] theorem vb_mul (k : IntKind) (a b : Int) : vbin .mul (.int k a) (.int k b) = some (.int k (k.wrap (a * b))) := by simp [vbin]
theorem int_beq (a b : Int) : (a == b) = decide (a = b) := by by_cases h : a = b <;> simp [h]
theorem int_bne (a b : Int) : (a != b) = decide (¬ a = b) := by by_cases h : a = b <;> simp [h]
@[simp] theorem vb_eql (k : IntKind) (a b : Int) : vbin .eql (.int k a) (.int k b) = some (.bool (decide (a = b))) := by simp [vbin, int_beq]
@[simp] theorem vb_neq (k : IntKind) (a b : Int) : vbin .neq (.int k a) (.int k b) = some (.bool (decide (¬ a = b))) := by simp only [vbin, int_bne, if_true]
@[simp] theorem vb_lss (k : IntKind) (a b : Int) : vbin .lss (.int k a) (.int k b) = some (.bool (a < b)) := by simp [vbin]
@[simp] theorem vb_leq (k : IntKind) (a b : Int) : vbin .leq (.int k a) (.int k b) = some (.bool (a ≤ b)) := by simp [vbin]
@[simp] theorem vb_gtr (k : IntKind) (a b : Int) : vbin .gtr (.int k a) (.int k b) = some (.bool (a > b)) := by simp [vbin]
@[simp] theorem vb_geq (k : IntKind) (a b : Int) : vbin .geq (.int k a) (.int k b) = some (.bool (a ≥ b)) := by simp [vbin]
@[simp] theorem vb_and (k : IntKind) (a b : Int) : vbin .and (.int k a) (.int k b) = some (.int k (k.wrap (BitVec.ofInt k.bits a &&& BitVec.ofInt k.bits b).toNat)) := by simp [vbin]
@[simp] theorem vb_or (k : IntKind) (a b : Int) : vbin .or (.int k a) (.int k b) = some (.int k (k.wrap (BitVec.ofInt k.bits a ||| BitVec.ofInt k.bits b).toNat)) := by simp [vbin]
@[simp] theorem vb_xor (k : IntKind) (a b : Int) : vbin .xor (.int k a) (.int k b) = some (.int k (k.wrap (BitVec.ofInt k.bits a ^^^ BitVec.ofInt k.bits b).toNat)) := by simp [vbin]
@[simp] theorem vb_quo (k : IntKind) (a b : Int) : vbin .quo (.int k a) (.int k b) = if b = 0 then none else some (.int k (k.wrap (a.tdiv b))) := by simp [vbin]
@[simp] theorem vb_rem (k : IntKind) (a b : Int) : vbin .rem (.int k a) (.int k b) = if b = 0 then none else some (.int k (a.tmod b)) := by simp [vbin]
@[simp] theorem vb_shl (k k' : IntKind) (a b : Int) : vbin .shl (.int k a) (.int k' b) = if b < 0 then none else some (.int k (k.wrap (a * 2 ^ (Nat.min b.toNat k.bits)))) := by simp [vbin]
@[simp] theorem vb_shr (k k' : IntKind) (a b : Int) : vbin .shr (.int k a) (.int k' b) = if b < 0 then none else some (.int k (a.fdiv (2 ^ (Nat.min b.toNat k.bits)))) := by simp [vbin]
@[simp] theorem vb_adds (a b : ByteArray) : vbin .add (.str a) (.str b) = if ((a.size + b.size : Nat) : Int) ≤ 9223372036854775807 then some (.str (a ++ b)) else none := by simp [vbin]
theorem toList_injE {a b : ByteArray} : a.toList = b.toList ↔ a = b := by
  rw [ByteArray.toList_eq, ByteArray.toList_eq]
  exact ⟨fun h => ByteArray.ext (Array.toList_inj.mp h), fun h => h ▸ rfl⟩
theorem toList_beqE (a b : ByteArray) : (a.toList == b.toList) = decide (a = b) := by
  rw [Bool.eq_iff_iff]
  simp only [beq_iff_eq, decide_eq_true_eq, toList_injE]
@[simp] theorem vb_eqls (a b : ByteArray) : vbin .eql (.str a) (.str b) = some (.bool (decide (a = b))) := by simp only [vbin, toList_beqE]
@[simp] theorem vb_neqs (a b : ByteArray) : vbin .neq (.str a) (.str b) = some (.bool (!decide (a = b))) := by simp only [vbin, toList_beqE]
@[simp] theorem vb_lsss (a b : ByteArray) : vbin .lss (.str a) (.str b) = some (.bool (Op.bytesLess a.toList b.toList)) := by simp only [vbin]
@[simp] theorem vb_leqs (a b : ByteArray) : vbin .leq (.str a) (.str b) = some (.bool (Op.bytesLess a.toList b.toList || decide (a = b))) := by simp only [vbin, toList_beqE]
@[simp] theorem vb_gtrs (a b : ByteArray) : vbin .gtr (.str a) (.str b) = some (.bool (!(Op.bytesLess a.toList b.toList || decide (a = b)))) := by simp only [vbin, toList_beqE]
@[simp] theorem vb_geqs (a b : ByteArray) : vbin .geq (.str a) (.str b) = some (.bool (!Op.bytesLess a.toList b.toList)) := by simp only [vbin]
def leafK (s : RS) (d : Tmp) : Option L → Option RS
  | some r => some (s.put d (.v (.leaf r)))
  | none => none
def binK (s : RS) (d : Tmp) (op : BinOp) : Option CV → Option CV → Option RS
  | some (.leaf a), some (.leaf b) => leafK s d (vbin op a b)
  | _, _ => none
@[simp] theorem leafK.c0 (s : RS) (d : Tmp) : ∀ r, leafK s d (some r) = (some (s.put d (.v (.leaf r)))) := by intro r; first | rfl
@[simp] theorem leafK.c1 (s : RS) (d : Tmp) : leafK s d none = (none) := rfl
@[simp] theorem binK.c0 (s : RS) (d : Tmp) (op : BinOp) : ∀ a b, binK s d op (some (.leaf a)) (some (.leaf b)) = (leafK s d (vbin op a b)) := by intro a b; first | rfl
@[simp] theorem vop_bin (d : Tmp) (op : BinOp) (x y : X) : vop G F s (.bin d op x y) = binK s d op (s.look (s.val x)) (s.look (s.val y)) := by
  simp only [vop]
  split
  · rename_i a b h1 h2; simp only [h1, h2, binK]; unfold leafK; cases vbin op a b <;> rfl
  · rename_i hne; unfold binK; split
    · rename_i a b h1 h2; exact (hne _ _ h1 h2).elim
    · rfl
def eqsK2 (s : RS) (d : Tmp) (neg : Bool) : Option Bool → Option RS
  | some r => some (s.put d (.v (.leaf (.bool (if neg then !r else r)))))
  | none => none
def eqsK (s : RS) (d : Tmp) (neg : Bool) (es : List EK) : Option CV → Option CV → Option RS
  | some (.agg a), some (.agg b) => eqsK2 s d neg (eqLs es a b)
  | _, _ => none
@[simp] theorem eqsK.c0 (s : RS) (d : Tmp) (neg : Bool) (es : List EK) : ∀ a b, eqsK s d neg es (some (.agg a)) (some (.agg b)) = (eqsK2 s d neg (eqLs es a b)) := by intro a b; first | rfl
@[simp] theorem eqsK2.c0 (s : RS) (d : Tmp) (neg : Bool) : ∀ r, eqsK2 s d neg (some r) = (some (s.put d (.v (.leaf (.bool (if neg then !r else r)))))) := by intro r; first | rfl
@[simp] theorem eqsK2.c1 (s : RS) (d : Tmp) (neg : Bool) : eqsK2 s d neg none = (none) := rfl
@[simp] theorem eqLs_nil : eqLs [] [] [] = some true := rfl
@[simp] theorem eqLs_int' (es : List EK) (k : IntKind) (a b : Int) (xs ys : List L) : eqLs (.int :: es) (.int k a :: xs) (.int k b :: ys) = (eqLs es xs ys).map fun r => decide (a = b) && r := by simp [eqLs, int_beq]
@[simp] theorem eqLs_str' (es : List EK) (a b : ByteArray) (xs ys : List L) : eqLs (.str :: es) (.str a :: xs) (.str b :: ys) = (eqLs es xs ys).map fun r => decide (a = b) && r := by simp only [eqLs, toList_beqE]
@[simp] theorem eqLs_bool' (es : List EK) (a b : Bool) (xs ys : List L) : eqLs (.bool :: es) (.bool a :: xs) (.bool b :: ys) = (eqLs es xs ys).map fun r => (a == b) && r := by simp only [eqLs]
@[simp] theorem vop_eqs (d : Tmp) (neg : Bool) (es : List EK) (x y : X) : vop G F s (.eqs d neg es x y) = eqsK s d neg es (s.look (s.val x)) (s.look (s.val y)) := by
  simp only [vop]
  split
  · rename_i a b h1 h2; simp only [h1, h2, eqsK]; unfold eqsK2; cases eqLs es a b <;> rfl
  · rename_i hne; unfold eqsK; split
    · rename_i a b h1 h2; exact (hne _ _ h1 h2).elim
    · rfl
def eqbK (s : RS) (d : Tmp) (neg : Bool) : Option CV → Option CV → Option RS
  | some (.leaf (.bool a)), some (.leaf (.bool b)) => some (s.put d (.v (.leaf (.bool (if neg then !(a == b) else (a == b))))))
  | _, _ => none
@[simp] theorem eqbK.c0 (s : RS) (d : Tmp) (neg : Bool) : ∀ a b, eqbK s d neg (some (.leaf (.bool a))) (some (.leaf (.bool b))) = (some (s.put d (.v (.leaf (.bool (if neg then !(a == b) else (a == b))))))) := by intro a b; first | rfl
@[simp] theorem vop_eqb (d : Tmp) (neg : Bool) (x y : X) : vop G F s (.eqb d neg x y) = eqbK s d neg (s.look (s.val x)) (s.look (s.val y)) := by
  simp only [vop]
  split
  · rename_i a b h1 h2; simp only [h1, h2, eqbK]
  · rename_i hne; unfold eqbK; split
    · rename_i a b h1 h2; exact (hne _ _ h1 h2).elim
    · rfl
def unK (s : RS) (d : Tmp) : UnOp → Option CV → Option RS
  | .neg, some (.leaf (.int k n)) => some (s.put d (.v (.leaf (.int k (k.wrap (0 - n))))))
  | .not, some (.leaf (.bool b)) => some (s.put d (.v (.leaf (.bool (!b)))))
  | _, _ => none
@[simp] theorem unK.c0 (s : RS) (d : Tmp) : ∀ k n, unK s d .neg (some (.leaf (.int k n))) = (some (s.put d (.v (.leaf (.int k (k.wrap (0 - n))))))) := by intro k n; first | rfl
@[simp] theorem unK.c1 (s : RS) (d : Tmp) : ∀ b, unK s d .not (some (.leaf (.bool b))) = (some (s.put d (.v (.leaf (.bool (!b)))))) := by intro b; first | rfl
@[simp] theorem vop_un (d : Tmp) (op : UnOp) (x : X) : vop G F s (.un d op x) = unK s d op (s.look (s.val x)) := by
  simp only [vop]
  cases s.look (s.val x) with
  | none => cases op <;> rfl
  | some c =>
    cases c with
    | leaf l => cases l <;> cases op <;> rfl
    | _ => cases op <;> rfl
def convK (s : RS) (d : Tmp) (k : IntKind) : Option (IntKind × Int) → Option RS
  | some (_, n) => some (s.put d (.v (.leaf (.int k (k.wrap n)))))
  | none => none
@[simp] theorem convK.c0 (s : RS) (d : Tmp) (k : IntKind) : ∀ z1 n, convK s d k (some (z1, n)) = (some (s.put d (.v (.leaf (.int k (k.wrap n)))))) := by intro z1 n; first | rfl | (cases z1 <;> rfl)
@[simp] theorem convK.c1 (s : RS) (d : Tmp) (k : IntKind) : convK s d k none = (none) := rfl
@[simp] theorem vop_conv (d : Tmp) (k : IntKind) (x : X) : vop G F s (.conv d k x) = convK s d k (s.int x) := by
  simp only [vop]; unfold convK; cases s.int x <;> rfl
def bytesK2 (s : RS) (d : Tmp) : Option (List UInt8) → Option RS
  | some l => some (s.put d (.v (.leaf (.str ⟨l.toArray⟩))))
  | none => none
def bytesK (s : RS) (d : Tmp) : Option CV → Option RS
  | some (.leaf (.sl _ 1 rows)) => bytesK2 s d (bytesOf rows)
  | _ => none
@[simp] theorem bytesK.c0 (s : RS) (d : Tmp) : ∀ z1 rows, bytesK s d (some (.leaf (.sl z1 1 rows))) = (bytesK2 s d (bytesOf rows)) := by intro z1 rows; first | rfl | (cases z1 <;> rfl)
@[simp] theorem bytesK2.c0 (s : RS) (d : Tmp) : ∀ l, bytesK2 s d (some l) = (some (s.put d (.v (.leaf (.str ⟨l.toArray⟩))))) := by intro l; first | rfl
@[simp] theorem bytesK2.c1 (s : RS) (d : Tmp) : bytesK2 s d none = (none) := rfl
@[simp] theorem vop_bytes (d : Tmp) (x : X) : vop G F s (.bytes d x) = bytesK s d (s.look (s.val x)) := by
  simp only [vop]
  split
  · rename_i o rows h1; simp only [h1, bytesK]; unfold bytesK2; cases bytesOf rows <;> rfl
  · rename_i hne; unfold bytesK; split
    · rename_i o rows h1; exact (hne _ _ h1).elim
    · rfl
def makeK (s : RS) (d : Tmp) (zs : List L) (bytes : Nat) : Option (IntKind × Int) → Option (IntKind × Int) → Option RS
  | some (_, n), some (_, m) => if 0 ≤ n ∧ n ≤ m ∧ (bytes : Int) * m ≤ 281474976710656 ∧ m ≤ 9223372036854775807 then some (s.put d (.v (.leaf (.sl true zs.length (List.replicate n.toNat zs))))) else none
  | _, _ => none
@[simp] theorem makeK.c0 (s : RS) (d : Tmp) (zs : List L) (bytes : Nat) : ∀ z1 n z2 m, makeK s d zs bytes (some (z1, n)) (some (z2, m)) = (if 0 ≤ n ∧ n ≤ m ∧ (bytes : Int) * m ≤ 281474976710656 ∧ m ≤ 9223372036854775807 then some (s.put d (.v (.leaf (.sl true zs.length (List.replicate n.toNat zs))))) else none) := by intro z1 n z2 m; first | rfl | (cases z1 <;> rfl) | (cases z2 <;> rfl)
@[simp] theorem vop_make (d : Tmp) (zs : List L) (bytes : Nat) (l c : X) : vop G F s (.make d zs bytes l c) = makeK s d zs bytes (s.int l) (s.int c) := by
  simp only [vop]; unfold makeK; cases s.int l <;> cases s.int c <;> rfl
def subStrK2 (s : RS) (d : Tmp) (a : ByteArray) : Option Nat → Option Nat → Option RS
  | some l, some h => if l ≤ h ∧ h ≤ a.size then some (s.put d (.v (.leaf (.str (a.extract l h))))) else none
  | _, _ => none
def subStrK (s : RS) (d : Tmp) (lo hi : Option X) : Option CV → Option RS
  | some (.leaf (.str a)) => subStrK2 s d a (s.bound 0 lo) (s.bound a.size hi)
  | _ => none
@[simp] theorem subStrK.c0 (s : RS) (d : Tmp) (lo hi : Option X) : ∀ a, subStrK s d lo hi (some (.leaf (.str a))) = (subStrK2 s d a (s.bound 0 lo) (s.bound a.size hi)) := by intro a; first | rfl
@[simp] theorem subStrK2.c0 (s : RS) (d : Tmp) (a : ByteArray) : ∀ l h, subStrK2 s d a (some l) (some h) = (if l ≤ h ∧ h ≤ a.size then some (s.put d (.v (.leaf (.str (a.extract l h))))) else none) := by intro l h; first | rfl
@[simp] theorem vop_subStr (d : Tmp) (x : X) (lo hi : Option X) : vop G F s (.subStr d x lo hi) = subStrK s d lo hi (s.look (s.val x)) := by
  simp only [vop]
  split
  · rename_i a h1; simp only [h1, subStrK]; unfold subStrK2; cases s.bound 0 lo <;> cases s.bound a.size hi <;> rfl
  · rename_i hne; unfold subStrK; split
    · rename_i a h1; exact (hne _ h1).elim
    · rfl
def subSlK3 (d : Tmp) (sz l h : Nat) (rows : List (List L)) (r : Tmp) (p : List (Nat × Nat)) (c : Nat) : Option RS → Option RS
  | some s' => some (RS.put ⟨s'.e, (r, p, c, 1) :: s'.d⟩ d (.v (.leaf (.sl false sz (((freezeRR rows).take h).drop l)))))
  | none => none
def subSlK2 (s : RS) (d : Tmp) (sz l h : Nat) (rows : List (List L)) : X → AV → Option RS
  | .t t, .v (.leaf _) => subSlK3 d sz l h rows t [] 0 (s.poke t [] 0 [.sl false sz (freezeRR rows)])
  | .t _, .ld r p c _ _ => subSlK3 d sz l h rows r p c (s.poke r p c [.sl false sz (freezeRR rows)])
  | _, _ => none
def subSlK1 (s : RS) (d : Tmp) (x : X) (sz0 : Nat) (o : Bool) (sz : Nat) (rows : List (List L)) : Option Nat → Option Nat → Option RS
  | some l, some h => if sz = sz0 ∧ l ≤ h ∧ h ≤ rows.length then (if o = true then subSlK2 s d sz l h rows x (s.val x) else some (s.put d (.v (.leaf (.sl false sz ((rows.take h).drop l)))))) else none
  | _, _ => none
def subSlK (s : RS) (d : Tmp) (x : X) (lo hi : Option X) (sz0 : Nat) : Option CV → Option RS
  | some (.leaf (.sl o sz rows)) => subSlK1 s d x sz0 o sz rows (s.bound 0 lo) (s.bound rows.length hi)
  | _ => none
@[simp] theorem subSlK.c0 (s : RS) (d : Tmp) (x : X) (lo hi : Option X) (sz0 : Nat) : ∀ o sz rows, subSlK s d x lo hi sz0 (some (.leaf (.sl o sz rows))) = (subSlK1 s d x sz0 o sz rows (s.bound 0 lo) (s.bound rows.length hi)) := by intro o sz rows; first | rfl
@[simp] theorem subSlK1.c0 (s : RS) (d : Tmp) (x : X) (sz0 : Nat) (o : Bool) (sz : Nat) (rows : List (List L)) : ∀ l h, subSlK1 s d x sz0 o sz rows (some l) (some h) = (if sz = sz0 ∧ l ≤ h ∧ h ≤ rows.length then (if o = true then subSlK2 s d sz l h rows x (s.val x) else some (s.put d (.v (.leaf (.sl false sz ((rows.take h).drop l)))))) else none) := by intro l h; first | rfl
@[simp] theorem subSlK2.c0 (s : RS) (d : Tmp) (sz l h : Nat) (rows : List (List L)) : ∀ t z1, subSlK2 s d sz l h rows (.t t) (.v (.leaf z1)) = (subSlK3 d sz l h rows t [] 0 (s.poke t [] 0 [.sl false sz (freezeRR rows)])) := by intro t z1; first | rfl | (cases z1 <;> rfl)
@[simp] theorem subSlK2.c1 (s : RS) (d : Tmp) (sz l h : Nat) (rows : List (List L)) : ∀ z1 z2 z3 r p c, subSlK2 s d sz l h rows (.t z1) (.ld r p c z2 z3) = (subSlK3 d sz l h rows r p c (s.poke r p c [.sl false sz (freezeRR rows)])) := by intro z1 z2 z3 r p c; first | rfl | (cases z1 <;> rfl) | (cases z2 <;> rfl) | (cases z3 <;> rfl)
@[simp] theorem subSlK3.c0 (d : Tmp) (sz l h : Nat) (rows : List (List L)) (r : Tmp) (p : List (Nat × Nat)) (c : Nat) : ∀ s', subSlK3 d sz l h rows r p c (some s') = (some (RS.put ⟨s'.e, (r, p, c, 1) :: s'.d⟩ d (.v (.leaf (.sl false sz (((freezeRR rows).take h).drop l)))))) := by intro s'; first | rfl
@[simp] theorem subSlK3.c1 (d : Tmp) (sz l h : Nat) (rows : List (List L)) (r : Tmp) (p : List (Nat × Nat)) (c : Nat) : subSlK3 d sz l h rows r p c none = (none) := rfl
@[simp] theorem vop_subSl (d : Tmp) (x : X) (lo hi : Option X) (sz0 : Nat) : vop G F s (.subSl d x lo hi sz0) = subSlK s d x lo hi sz0 (s.look (s.val x)) := by
  simp only [vop]
  split
  · rename_i o sz rows h1
    simp only [h1, subSlK]
    unfold subSlK1
    cases s.bound 0 lo with
    | none => rfl
    | some l =>
      cases s.bound rows.length hi with
      | none => rfl
      | some h =>
        simp only
        split
        · cases o with
          | false => rfl
          | true =>
            simp only [if_true]
            cases x with
            | c c => rfl
            | t t =>
              simp only [RS.val]
              cases s.e.get t with
              | v c =>
                cases c with
                | leaf l0 => simp only [subSlK2]; unfold subSlK3; cases s.poke t [] 0 [.sl false sz (freezeRR rows)] <;> rfl
                | _ => rfl
              | ld r p c n g => simp only [subSlK2]; unfold subSlK3; cases s.poke r p c [.sl false sz (freezeRR rows)] <;> rfl
              | _ => rfl
        · rfl
  · rename_i hne; unfold subSlK; split
    · rename_i o sz rows h1; exact (hne _ _ _ h1).elim
    · rfl
def idxK3 (s : RS) (d : Tmp) (n : Nat) : X → AV → Option RS
  | .t t, .v _ => some (s.put d (.ptr t [(0, n)] 0))
  | .t _, .ld r p o _ _ => some (s.put d (.ptr r (p ++ [(o, n)]) 0))
  | _, _ => none
def idxK2 (s : RS) (d : Tmp) (x : X) (own : Bool) (n : Nat) : Option (List L) → Option RS
  | some row => if own = true then idxK3 s d n x (s.val x) else some (s.put d (.iptr row 0))
  | none => none
def idxK1 (s : RS) (d : Tmp) (x : X) (sz0 : Nat) (n : Int) : Option CV → Option RS
  | some (.leaf (.sl own sz rows)) => if 0 ≤ n ∧ sz = sz0 then idxK2 s d x own n.toNat rows[n.toNat]? else none
  | _ => none
def idxK (s : RS) (d : Tmp) (x : X) (sz0 : Nat) : Option (IntKind × Int) → Option RS
  | some (_, n) => idxK1 s d x sz0 n (s.look (s.val x))
  | none => none
@[simp] theorem idxK.c0 (s : RS) (d : Tmp) (x : X) (sz0 : Nat) : ∀ z1 n, idxK s d x sz0 (some (z1, n)) = (idxK1 s d x sz0 n (s.look (s.val x))) := by intro z1 n; first | rfl | (cases z1 <;> rfl)
@[simp] theorem idxK.c1 (s : RS) (d : Tmp) (x : X) (sz0 : Nat) : idxK s d x sz0 none = (none) := rfl
@[simp] theorem idxK1.c0 (s : RS) (d : Tmp) (x : X) (sz0 : Nat) (n : Int) : ∀ own sz rows, idxK1 s d x sz0 n (some (.leaf (.sl own sz rows))) = (if 0 ≤ n ∧ sz = sz0 then idxK2 s d x own n.toNat rows[n.toNat]? else none) := by intro own sz rows; first | rfl
@[simp] theorem idxK2.c0 (s : RS) (d : Tmp) (x : X) (own : Bool) (n : Nat) : ∀ row, idxK2 s d x own n (some row) = (if own = true then idxK3 s d n x (s.val x) else some (s.put d (.iptr row 0))) := by intro row; first | rfl
@[simp] theorem idxK2.c1 (s : RS) (d : Tmp) (x : X) (own : Bool) (n : Nat) : idxK2 s d x own n none = (none) := rfl
@[simp] theorem idxK3.c0 (s : RS) (d : Tmp) (n : Nat) : ∀ t z1, idxK3 s d n (.t t) (.v z1) = (some (s.put d (.ptr t [(0, n)] 0))) := by intro t z1; first | rfl | (cases z1 <;> rfl)
@[simp] theorem idxK3.c1 (s : RS) (d : Tmp) (n : Nat) : ∀ z1 z2 z3 r p o, idxK3 s d n (.t z1) (.ld r p o z2 z3) = (some (s.put d (.ptr r (p ++ [(o, n)]) 0))) := by intro z1 z2 z3 r p o; first | rfl | (cases z1 <;> rfl) | (cases z2 <;> rfl) | (cases z3 <;> rfl)
@[simp] theorem vop_idx (d : Tmp) (x i : X) (sz0 : Nat) : vop G F s (.idx d x i sz0) = idxK s d x sz0 (s.int i) := by
  simp only [vop]
  cases s.int i with
  | none => rfl
  | some q =>
    obtain ⟨k, n⟩ := q
    simp only [idxK]
    split
    · rename_i own sz rows h1
      simp only [h1, idxK1]
      split
      · cases rows[n.toNat]? with
        | none => rfl
        | some row =>
          cases own with
          | false => rfl
          | true =>
            simp only [if_true, idxK2]
            cases x with
            | c c => rfl
            | t t => simp only [RS.val]; unfold idxK3; cases s.e.get t <;> rfl
      · rfl
    · rename_i hne; unfold idxK1; split
      · rename_i own sz rows h1; exact (hne _ _ _ h1).elim
      · rfl
def byteK2 (s : RS) (d : Tmp) : Option UInt8 → Option RS
  | some b => some (s.put d (.v (.leaf (.int .u8 b.toNat))))
  | none => none
def byteK (s : RS) (d : Tmp) : Option (IntKind × Int) → Option CV → Option RS
  | some (_, n), some (.leaf (.str a)) => if 0 ≤ n then byteK2 s d a.data[n.toNat]? else none
  | _, _ => none
@[simp] theorem byteK.c0 (s : RS) (d : Tmp) : ∀ z1 n a, byteK s d (some (z1, n)) (some (.leaf (.str a))) = (if 0 ≤ n then byteK2 s d a.data[n.toNat]? else none) := by intro z1 n a; first | rfl | (cases z1 <;> rfl)
@[simp] theorem byteK2.c0 (s : RS) (d : Tmp) : ∀ b, byteK2 s d (some b) = (some (s.put d (.v (.leaf (.int .u8 b.toNat))))) := by intro b; first | rfl
@[simp] theorem byteK2.c1 (s : RS) (d : Tmp) : byteK2 s d none = (none) := rfl
@[simp] theorem vop_byte (d : Tmp) (x i : X) : vop G F s (.byte d x i) = byteK s d (s.int i) (s.look (s.val x)) := by
  simp only [vop]
  split
  · rename_i k n a h1 h2
    simp only [h1, h2, byteK]
    split
    · unfold byteK2; cases a.data[n.toNat]? <;> rfl
    · rfl
  · rename_i hne; unfold byteK; split
    · rename_i k n a h1 h2; exact (hne _ _ _ h1 h2).elim
    · rfl
def lenK (s : RS) (d : Tmp) (str : Bool) : Option CV → Option RS
  | some (.leaf (.sl _ _ rows)) => if str = true then none else some (s.put d (.v (.leaf (.int .i64 rows.length))))
  | some (.leaf (.str a)) => if str = true then some (s.put d (.v (.leaf (.int .i64 a.size)))) else none
  | _ => none
@[simp] theorem lenK.c0 (s : RS) (d : Tmp) (str : Bool) : ∀ z1 z2 rows, lenK s d str (some (.leaf (.sl z1 z2 rows))) = (if str = true then none else some (s.put d (.v (.leaf (.int .i64 rows.length))))) := by intro z1 z2 rows; first | rfl | (cases z1 <;> rfl) | (cases z2 <;> rfl)
@[simp] theorem lenK.c1 (s : RS) (d : Tmp) (str : Bool) : ∀ a, lenK s d str (some (.leaf (.str a))) = (if str = true then some (s.put d (.v (.leaf (.int .i64 a.size)))) else none) := by intro a; first | rfl
@[simp] theorem vop_len (d : Tmp) (x : X) (str : Bool) : vop G F s (.len d x str) = lenK s d str (s.look (s.val x)) := by
  simp only [vop]
  split
  · rename_i h1; simp only [h1, lenK]
  · rename_i h1; simp only [h1, lenK]
  · rename_i hne1 hne2; unfold lenK; split
    · rename_i o sz rows h1; exact (hne1 _ _ _ h1).elim
    · rename_i a h1; exact (hne2 _ h1).elim
    · rfl
def appK3 (d : Tmp) (str : Bool) (sz bytes sz' : Nat) (rows : List (List L)) : Option (CV × RS) → Option RS
  | some (.leaf (.sl _ sz2 rows2), s2) => if str = false ∧ sz' = sz ∧ sz2 = sz ∧ (rows.length + rows2.length) * bytes ≤ 140737488355328 then some (s2.put d (.v (.leaf (.sl true sz (rows ++ rows2))))) else none
  | _ => none
def appK2 (s1 : RS) (d : Tmp) (y : X) (str : Bool) (sz bytes sz' : Nat) (rows : List (List L)) : Option CV → Option RS
  | some (.leaf (.str a)) => if str = true ∧ sz' = sz ∧ sz = 1 ∧ (rows.length + a.size) * bytes ≤ 140737488355328 then some (s1.put d (.v (.leaf (.sl true sz (rows ++ strRows a))))) else none
  | some (.leaf (.sl false sz2 rows2)) => if str = false ∧ sz' = sz ∧ sz2 = sz ∧ (rows.length + rows2.length) * bytes ≤ 140737488355328 then some (s1.put d (.v (.leaf (.sl true sz (rows ++ rows2))))) else none
  | some (.leaf (.sl true _ _)) => appK3 d str sz bytes sz' rows (s1.take y)
  | _ => none
def appK (d : Tmp) (y : X) (str : Bool) (sz bytes : Nat) : Option (CV × RS) → Option RS
  | some (.leaf (.sl true sz' rows), s1) => appK2 s1 d y str sz bytes sz' rows (s1.look (s1.val y))
  | _ => none
@[simp] theorem appK.c0 (d : Tmp) (y : X) (str : Bool) (sz bytes : Nat) : ∀ sz' rows s1, appK d y str sz bytes (some (.leaf (.sl true sz' rows), s1)) = (appK2 s1 d y str sz bytes sz' rows (s1.look (s1.val y))) := by intro sz' rows s1; first | rfl
@[simp] theorem appK2.c0 (s1 : RS) (d : Tmp) (y : X) (str : Bool) (sz bytes sz' : Nat) (rows : List (List L)) : ∀ a, appK2 s1 d y str sz bytes sz' rows (some (.leaf (.str a))) = (if str = true ∧ sz' = sz ∧ sz = 1 ∧ (rows.length + a.size) * bytes ≤ 140737488355328 then some (s1.put d (.v (.leaf (.sl true sz (rows ++ strRows a))))) else none) := by intro a; first | rfl
@[simp] theorem appK2.c1 (s1 : RS) (d : Tmp) (y : X) (str : Bool) (sz bytes sz' : Nat) (rows : List (List L)) : ∀ sz2 rows2, appK2 s1 d y str sz bytes sz' rows (some (.leaf (.sl false sz2 rows2))) = (if str = false ∧ sz' = sz ∧ sz2 = sz ∧ (rows.length + rows2.length) * bytes ≤ 140737488355328 then some (s1.put d (.v (.leaf (.sl true sz (rows ++ rows2))))) else none) := by intro sz2 rows2; first | rfl
@[simp] theorem appK2.c2 (s1 : RS) (d : Tmp) (y : X) (str : Bool) (sz bytes sz' : Nat) (rows : List (List L)) : ∀ z1 z2, appK2 s1 d y str sz bytes sz' rows (some (.leaf (.sl true z1 z2))) = (appK3 d str sz bytes sz' rows (s1.take y)) := by intro z1 z2; first | rfl | (cases z1 <;> rfl) | (cases z2 <;> rfl)
@[simp] theorem appK3.c0 (d : Tmp) (str : Bool) (sz bytes sz' : Nat) (rows : List (List L)) : ∀ z1 sz2 rows2 s2, appK3 d str sz bytes sz' rows (some (.leaf (.sl z1 sz2 rows2), s2)) = (if str = false ∧ sz' = sz ∧ sz2 = sz ∧ (rows.length + rows2.length) * bytes ≤ 140737488355328 then some (s2.put d (.v (.leaf (.sl true sz (rows ++ rows2))))) else none) := by intro z1 sz2 rows2 s2; first | rfl | (cases z1 <;> rfl)
@[simp] theorem vop_app (d : Tmp) (x y : X) (sz bytes : Nat) (str : Bool) : vop G F s (.app d x y sz bytes str) = appK d y str sz bytes (s.take x) := by
  simp only [vop]
  split
  · rename_i sz' rows s1 h1
    simp only [h1, appK]
    split
    · rename_i a h2; simp only [h2, appK2]
    · rename_i sz2 rows2 h2; simp only [h2, appK2]
    · rename_i sz2 rows2 h2
      simp only [h2, appK2]
      split
      · rename_i o sz3 rows3 s2 h3; simp only [h3, appK3]
      · rename_i hne; unfold appK3; split
        · rename_i o sz3 rows3 s2 h3; exact (hne _ _ _ _ h3).elim
        · rfl
    · rename_i n1 n2 n3; unfold appK2; split
      · rename_i a h2; exact (n1 _ h2).elim
      · rename_i sz2 rows2 h2; exact (n2 _ _ h2).elim
      · rename_i sz2 rows2 h2; exact (n3 _ _ h2).elim
      · rfl
  · rename_i hne; unfold appK; split
    · rename_i sz' rows s1 h1; exact (hne _ _ _ h1).elim
    · rfl
def minK (s : RS) (d : Tmp) : Option (IntKind × Int) → Option (IntKind × Int) → Option RS
  | some (k, a), some (_, b) => some (s.put d (.v (.leaf (.int k (if b < a then b else a)))))
  | _, _ => none
@[simp] theorem minK.c0 (s : RS) (d : Tmp) : ∀ k a z1 b, minK s d (some (k, a)) (some (z1, b)) = (some (s.put d (.v (.leaf (.int k (if b < a then b else a)))))) := by intro k a z1 b; first | rfl | (cases z1 <;> rfl)
@[simp] theorem vop_min (d : Tmp) (x y : X) : vop G F s (.min d x y) = minK s d (s.int x) (s.int y) := by
  simp only [vop]
  split
  · rename_i h1 h2; simp only [h1, h2, minK]
  · rename_i hne; unfold minK; split
    · rename_i k a k2 b h1 h2; exact (hne _ _ _ _ h1 h2).elim
    · rfl
def maxK (s : RS) (d : Tmp) : Option (IntKind × Int) → Option (IntKind × Int) → Option RS
  | some (k, a), some (_, b) => some (s.put d (.v (.leaf (.int k (if a < b then b else a)))))
  | _, _ => none
@[simp] theorem maxK.c0 (s : RS) (d : Tmp) : ∀ k a z1 b, maxK s d (some (k, a)) (some (z1, b)) = (some (s.put d (.v (.leaf (.int k (if a < b then b else a)))))) := by intro k a z1 b; first | rfl | (cases z1 <;> rfl)
@[simp] theorem vop_max (d : Tmp) (x y : X) : vop G F s (.max d x y) = maxK s d (s.int x) (s.int y) := by
  simp only [vop]
  split
  · rename_i h1 h2; simp only [h1, h2, maxK]
  · rename_i hne; unfold maxK; split
    · rename_i k a k2 b h1 h2; exact (hne _ _ _ _ h1 h2).elim
    · rfl
def extK2 (s : RS) (d t : Tmp) (cs : List CV) (i : Nat) : Option CV → Option RS
  | some c => if c.shal = true then some (s.put d (.v c)) else some ((s.put t (.tup (cs.set i .gone))).put d (.v c))
  | none => none
def extK (s : RS) (d t : Tmp) (i : Nat) : AV → Option RS
  | .tup cs => extK2 s d t cs i cs[i]?
  | _ => none
@[simp] theorem extK.c0 (s : RS) (d t : Tmp) (i : Nat) : ∀ cs, extK s d t i (.tup cs) = (extK2 s d t cs i cs[i]?) := by intro cs; first | rfl
@[simp] theorem extK2.c0 (s : RS) (d t : Tmp) (cs : List CV) (i : Nat) : ∀ c, extK2 s d t cs i (some c) = (if c.shal = true then some (s.put d (.v c)) else some ((s.put t (.tup (cs.set i .gone))).put d (.v c))) := by intro c; first | rfl
@[simp] theorem extK2.c1 (s : RS) (d t : Tmp) (cs : List CV) (i : Nat) : extK2 s d t cs i none = (none) := rfl
@[simp] theorem vop_ext (d t : Tmp) (i : Nat) : vop G F s (.ext d (.t t) i) = extK s d t i (s.e.get t) := by
  simp only [vop]
  unfold extK
  cases s.e.get t with
  | tup cs => simp only; unfold extK2; cases cs[i]? <;> rfl
  | _ => rfl

/- calls -/
def argVK2 : Option CV → AV → Tmp → Option Arg
  | some c, .v _, t => if c.flat = true then (if c.shal = true then some (.v c.freeze none) else some (.v c.freeze (some t))) else none
  | some c, .ld r _ _ _ _, _ => if c.flat = true then (if c.shal = true then some (.v c.freeze none) else some (.v c.freeze (some r))) else none
  | some c, _, _ => if c.flat = true ∧ c.shal = true then some (.v c.freeze none) else none
  | none, _, _ => none
@[simp] theorem argVK2.c0  : ∀ c z1 t, argVK2 (some c) (.v z1) t = (if c.flat = true then (if c.shal = true then some (.v c.freeze none) else some (.v c.freeze (some t))) else none) := by intro c z1 t; first | rfl | (cases z1 <;> rfl)
@[simp] theorem argVK2.c1  : ∀ c z1 z2 z3 z4 r z5, argVK2 (some c) (.ld r z1 z2 z3 z4) z5 = (if c.flat = true then (if c.shal = true then some (.v c.freeze none) else some (.v c.freeze (some r))) else none) := by intro c z1 z2 z3 z4 r z5; first | rfl | (cases z1 <;> rfl) | (cases z2 <;> rfl) | (cases z3 <;> rfl) | (cases z4 <;> rfl) | (cases z5 <;> rfl)
@[simp] theorem argV_c (c : CV) : s.argV (.c c) = if c.flat = true then some (.v c.freeze none) else none := rfl
@[simp] theorem argV_t (t : Tmp) : s.argV (.t t) = argVK2 (s.look (s.e.get t)) (s.e.get t) t := by
  simp only [RS.argV]
  cases hl : s.look (s.e.get t) with
  | none => unfold argVK2; rfl
  | some c =>
    simp only
    unfold argVK2
    cases s.e.get t with
    | v c0 => rfl
    | ld r p o n g => rfl
    | _ => simp only; cases c.flat <;> cases c.shal <;> rfl
def argMB (r : Tmp) : AV → Option Arg
  | .v (.box row) => some (.m (.box row) r [] 0)
  | _ => none
def argML (r : Tmp) (p : List (Nat × Nat)) (o : Nat) : Option CV → Option Arg
  | some c => some (.m c r p o)
  | none => none
@[simp] theorem argMB.c0 (r : Tmp) : ∀ row, argMB r (.v (.box row)) = (some (.m (.box row) r [] 0)) := by intro row; first | rfl
@[simp] theorem argML.c0 (r : Tmp) (p : List (Nat × Nat)) (o : Nat) : ∀ c, argML r p o (some c) = (some (.m c r p o)) := by intro c; first | rfl
@[simp] theorem argML.c1 (r : Tmp) (p : List (Nat × Nat)) (o : Nat) : argML r p o none = (none) := rfl
def argMK (s : RS) (t : Tmp) : AV → Option Arg
  | .v (.box row) => some (.m (.box row) t [] 0)
  | .v (.leaf l) => if (CV.leaf l).shal = true then s.argV (.t t) else some (.m (.leaf l) t [] 0)
  | .v (.agg ls) => if (CV.agg ls).shal = true then s.argV (.t t) else some (.m (.agg ls) t [] 0)
  | .ptr r [] 0 => if cleanP s.d r [] = true then argMB r (s.e.get r) else none
  | .ld r p o n g => if shalO (s.look (.ld r p o n g)) = true then s.argV (.t t) else argML r p o (s.look (.ld r p o n g))
  | _ => none
attribute [simp] shalO
@[simp] theorem argMK.c0 (s : RS) (t : Tmp) : ∀ row, argMK s t (.v (.box row)) = (some (.m (.box row) t [] 0)) := by intro row; first | rfl
@[simp] theorem argMK.c1 (s : RS) (t : Tmp) : ∀ l, argMK s t (.v (.leaf l)) = (if (CV.leaf l).shal = true then s.argV (.t t) else some (.m (.leaf l) t [] 0)) := by intro l; first | rfl
@[simp] theorem argMK.c2 (s : RS) (t : Tmp) : ∀ ls, argMK s t (.v (.agg ls)) = (if (CV.agg ls).shal = true then s.argV (.t t) else some (.m (.agg ls) t [] 0)) := by intro ls; first | rfl
@[simp] theorem argMK.c3 (s : RS) (t : Tmp) : ∀ r, argMK s t (.ptr r [] 0) = (if cleanP s.d r [] = true then argMB r (s.e.get r) else none) := by intro r; first | rfl
@[simp] theorem argMK.c4 (s : RS) (t : Tmp) : ∀ r p o n g, argMK s t (.ld r p o n g) = (if shalO (s.look (.ld r p o n g)) = true then s.argV (.t t) else argML r p o (s.look (.ld r p o n g))) := by intro r p o n g; first | rfl
theorem argM_t (t : Tmp) : s.argM (.t t) = argMK s t (s.e.get t) := by
  simp only [RS.argM]
  cases hav : s.e.get t with
  | v c => cases c <;> simp [shalO, argMK, RS.argV, hav]
  | ptr r p o =>
    cases p with
    | cons q p => simp [shalO, argMK]
    | nil =>
      cases o with
      | succ o => simp [shalO, argMK]
      | zero =>
        rw [if_neg (show ¬ shalO (s.look (.ptr r [] 0)) = true by simp [shalO])]
        simp only [argMK]
        split
        · unfold argMB
          cases s.e.get r with
          | v c => cases c <;> rfl
          | _ => rfl
        · rfl
  | ld r p o n g =>
    simp only [argMK]
    split
    · rfl
    · unfold argML; cases s.look (.ld r p o n g) <;> rfl
  | _ => simp [shalO, argMK]
attribute [simp] argM_t
@[simp] theorem argM_c (c : CV) : s.argM (.c c) = none := rfl
def seenK : Option Arg → Option (List Arg) → Option (List Arg)
  | some a, some as => some (a :: as)
  | _, _ => none
@[simp] theorem seenK.c0  : ∀ a as, seenK (some a) (some as) = (some (a :: as)) := by intro a as; first | rfl
@[simp] theorem seen_nil : s.seen [] [] = some [] := rfl
@[simp] theorem seen_V (ms : List Mode) (x : X) (xs : List X) : s.seen (.V :: ms) (x :: xs) = seenK (s.argV x) (s.seen ms xs) := by
  simp only [RS.seen]; unfold seenK; cases s.argV x <;> cases s.seen ms xs <;> rfl
@[simp] theorem seen_M (ms : List Mode) (x : X) (xs : List X) : s.seen (.M :: ms) (x :: xs) = seenK (s.argM x) (s.seen ms xs) := by
  simp only [RS.seen]; unfold seenK; cases s.argM x <;> cases s.seen ms xs <;> rfl
@[simp] theorem seen_O (ms : List Mode) (x : X) (xs : List X) : s.seen (.O :: ms) (x :: xs) = seenK (some .o) (s.seen ms xs) := by
  simp only [RS.seen]; unfold seenK; cases s.seen ms xs <;> rfl
@[simp] theorem hide_mk (e : Env) (d : List Dirt) (rs : List Tmp) : RS.hide ⟨e, d⟩ rs = ⟨e.del rs, rs.map (fun r => (r, [], 0, 0)) ++ d⟩ := rfl
@[simp] theorem del_nil (e : Env) : e.del [] = e := by
  induction e with
  | nil => rfl
  | cons q e ih => obtain ⟨k, v⟩ := q; simp [Env.del, ih]
def givenC (c : CV) : Option (List CV × RS) → Option (List CV × RS)
  | some (cs, s') => some (c :: cs, s')
  | none => none
def givenO (as : List Arg) (xs : List X) : Option (CV × RS) → Option (List CV × RS)
  | some (c, s1) => if c.flat = true then givenC c (s1.given as xs) else none
  | none => none
@[simp] theorem givenC.c0 (c : CV) : ∀ cs s', givenC c (some (cs, s')) = (some (c :: cs, s')) := by intro cs s'; first | rfl
@[simp] theorem givenC.c1 (c : CV) : givenC c none = (none) := rfl
@[simp] theorem givenO.c0 (as : List Arg) (xs : List X) : ∀ c s1, givenO as xs (some (c, s1)) = (if c.flat = true then givenC c (s1.given as xs) else none) := by intro c s1; first | rfl
@[simp] theorem givenO.c1 (as : List Arg) (xs : List X) : givenO as xs none = (none) := rfl
@[simp] theorem given_nil : s.given [] [] = some ([], s) := rfl
@[simp] theorem given_v (c : CV) (r : Option Tmp) (as : List Arg) (x : X) (xs : List X) : s.given (.v c r :: as) (x :: xs) = givenC c (s.given as xs) := by
  simp only [RS.given]; unfold givenC; cases s.given as xs <;> rfl
@[simp] theorem given_m (c : CV) (r : Tmp) (p : List (Nat × Nat)) (o : Nat) (as : List Arg) (x : X) (xs : List X) : s.given (.m c r p o :: as) (x :: xs) = givenC c (s.given as xs) := by
  simp only [RS.given]; unfold givenC; cases s.given as xs <;> rfl
@[simp] theorem given_o (as : List Arg) (x : X) (xs : List X) : s.given (.o :: as) (x :: xs) = givenO as xs (s.take x) := by
  simp only [RS.given]
  unfold givenO
  cases s.take x with
  | none => rfl
  | some q =>
    obtain ⟨c, s1⟩ := q
    simp only
    split
    · unfold givenC; cases s1.given as xs <;> rfl
    · rfl
def lentK : CV → CV → Option (CV × Nat)
  | .box row, .box row' => if row'.length = row.length then some (.box row', row.length + 1) else none
  | _, _ => none
@[simp] theorem lentK.c0  : ∀ row row', lentK (.box row) (.box row') = (if row'.length = row.length then some (.box row', row.length + 1) else none) := by intro row row'; first | rfl
theorem lent_eq (cr : CV) (p : List (Nat × Nat)) (o : Nat) (c c' : CV) : lent cr p o c c' = lentK c c' := by unfold lent lentK; rfl
def backM2 (s0 : RS) (s : RS) (r : Tmp) (as : List Arg) (cs : List CV) : Option (CV × Nat) → Option RS
  | some (cr', n) => s0.back ⟨s.e.put r (.v cr'), (r, [], 0, n) :: s.d⟩ as cs
  | none => none
def backM (s0 : RS) (s : RS) (r : Tmp) (c c' : CV) (as : List Arg) (cs : List CV) : AV → Option RS
  | .v _ => backM2 s0 s r as cs (lentK c c')
  | _ => none
@[simp] theorem backM.c0 (s0 : RS) (s : RS) (r : Tmp) (c c' : CV) (as : List Arg) (cs : List CV) : ∀ z1, backM s0 s r c c' as cs (.v z1) = (backM2 s0 s r as cs (lentK c c')) := by intro z1; first | rfl | (cases z1 <;> rfl)
@[simp] theorem backM2.c0 (s0 : RS) (s : RS) (r : Tmp) (as : List Arg) (cs : List CV) : ∀ cr' n, backM2 s0 s r as cs (some (cr', n)) = (s0.back ⟨s.e.put r (.v cr'), (r, [], 0, n) :: s.d⟩ as cs) := by intro cr' n; first | rfl
@[simp] theorem backM2.c1 (s0 : RS) (s : RS) (r : Tmp) (as : List Arg) (cs : List CV) : backM2 s0 s r as cs none = (none) := rfl
variable {s0 : RS}
@[simp] theorem back_nil : s0.back s [] [] = some s := rfl
@[simp] theorem back_vn (c c' : CV) (as : List Arg) (cs : List CV) : s0.back s (.v c none :: as) (c' :: cs) = s0.back s as cs := rfl
@[simp] theorem back_o (c' : CV) (as : List Arg) (cs : List CV) : s0.back s (.o :: as) (c' :: cs) = s0.back s as cs := rfl
@[simp] theorem back_v (c c' : CV) (r : Tmp) (as : List Arg) (cs : List CV) : s0.back s (.v c (some r) :: as) (c' :: cs) = s0.back ⟨s.e.put r (s0.e.get r), s.d⟩ as cs := rfl
@[simp] theorem back_m (c c' : CV) (r : Tmp) (p : List (Nat × Nat)) (o : Nat) (as : List Arg) (cs : List CV) : s0.back s (.m c r p o :: as) (c' :: cs) = backM s0 s r c c' as cs (s0.e.get r) := by
  simp only [RS.back]
  unfold backM
  cases s0.e.get r with
  | v cr => simp only [lent_eq]; unfold backM2; cases lentK c c' <;> rfl
  | _ => rfl
def coreK3 (res outs : List CV) (as : List Arg) : Option RS → Option (List CV × List CV × List Arg × RS)
  | some s2 => some (res, outs, as, s2)
  | none => none
def coreK2 (s : RS) (s1 : RS) (as : List Arg) : Option (List CV × List CV) → Option (List CV × List CV × List Arg × RS)
  | some (res, outs) => coreK3 res outs as (s.back ⟨s1.e, s1.d.take (s1.d.length - ((rootsM as).length + (rootsV as).length + s.d.length)) ++ s.d⟩ as outs)
  | none => none
def coreK1 (s : RS) (F : Fns) (f : FuncId) (as : List Arg) : Option (List CV × RS) → Option (List CV × List CV × List Arg × RS)
  | some (cs, s1) => coreK2 s s1 as (F f cs)
  | none => none
def apart (vs : List Tmp) : List Tmp → Bool
  | [] => true
  | t :: ts => !vs.contains t && apart vs ts
@[simp] theorem apart.c0 (vs : List Tmp) : apart vs [] = (true) := rfl
@[simp] theorem apart.c1 (vs : List Tmp) : ∀ t ts, apart vs (t :: ts) = (!vs.contains t && apart vs ts) := by intro t ts; first | rfl
theorem apart_eq (vs : List Tmp) : ∀ ts : List Tmp, (ts.all fun r => !vs.contains r) = apart vs ts
  | [] => rfl
  | t :: ts => by simp only [List.all_cons, apart, apart_eq vs ts]
def coreK (s : RS) (F : Fns) (f : FuncId) (own : Bool) (xs : List X) : Option (List Arg) → Option (List CV × List CV × List Arg × RS)
  | some as => if nodup (rootsM as) = true ∧ apart (rootsV as) (rootsM as) = true ∧ (own = true ∨ rootsV as = []) then coreK1 s F f as ((s.hide (rootsM as ++ rootsV as)).given as xs) else none
  | none => none
@[simp] theorem coreK.c0 (s : RS) (F : Fns) (f : FuncId) (own : Bool) (xs : List X) : ∀ as, coreK s F f own xs (some as) = (if nodup (rootsM as) = true ∧ apart (rootsV as) (rootsM as) = true ∧ (own = true ∨ rootsV as = []) then coreK1 s F f as ((s.hide (rootsM as ++ rootsV as)).given as xs) else none) := by intro as; first | rfl
@[simp] theorem coreK.c1 (s : RS) (F : Fns) (f : FuncId) (own : Bool) (xs : List X) : coreK s F f own xs none = (none) := rfl
@[simp] theorem coreK1.c0 (s : RS) (F : Fns) (f : FuncId) (as : List Arg) : ∀ cs s1, coreK1 s F f as (some (cs, s1)) = (coreK2 s s1 as (F f cs)) := by intro cs s1; first | rfl
@[simp] theorem coreK1.c1 (s : RS) (F : Fns) (f : FuncId) (as : List Arg) : coreK1 s F f as none = (none) := rfl
@[simp] theorem coreK2.c0 (s : RS) (s1 : RS) (as : List Arg) : ∀ res outs, coreK2 s s1 as (some (res, outs)) = (coreK3 res outs as (s.back ⟨s1.e, s1.d.take (s1.d.length - ((rootsM as).length + (rootsV as).length + s.d.length)) ++ s.d⟩ as outs)) := by intro res outs; first | rfl
@[simp] theorem coreK2.c1 (s : RS) (s1 : RS) (as : List Arg) : coreK2 s s1 as none = (none) := rfl
@[simp] theorem coreK3.c0 (res outs : List CV) (as : List Arg) : ∀ s2, coreK3 res outs as (some s2) = (some (res, outs, as, s2)) := by intro s2; first | rfl
@[simp] theorem coreK3.c1 (res outs : List CV) (as : List Arg) : coreK3 res outs as none = (none) := rfl
theorem core_eq (f : FuncId) (own : Bool) (ms : List Mode) (xs : List X) : s.core F f own ms xs = coreK s F f own xs (s.seen ms xs) := by
  unfold RS.core coreK
  cases s.seen ms xs with
  | none => rfl
  | some as =>
    simp only [apart_eq]
    split
    · unfold coreK1
      cases (s.hide (rootsM as ++ rootsV as)).given as xs with
      | none => rfl
      | some q =>
        obtain ⟨cs, s1⟩ := q
        simp only
        unfold coreK2
        cases F f cs with
        | none => rfl
        | some q =>
          obtain ⟨res, outs⟩ := q
          simp only
          unfold coreK3
          cases s.back ⟨s1.e, s1.d.take (s1.d.length - ((rootsM as).length + (rootsV as).length + s.d.length)) ++ s.d⟩ as outs <;> rfl
    · rfl
attribute [simp] core_eq
def lendK2 (s : RS) (ms : List Mode) (xs : List X) (j : Nat) (t : Tmp) : Option CV → Option (Nat × Tmp)
  | some c => if c.flat = true ∧ c.shal = false then some (j, t) else s.lendAt ms xs (j + 1)
  | none => s.lendAt ms xs (j + 1)
@[simp] theorem lendK2.c0 (s : RS) (ms : List Mode) (xs : List X) (j : Nat) (t : Tmp) : ∀ c, lendK2 s ms xs j t (some c) = (if c.flat = true ∧ c.shal = false then some (j, t) else s.lendAt ms xs (j + 1)) := by intro c; first | rfl
@[simp] theorem lendK2.c1 (s : RS) (ms : List Mode) (xs : List X) (j : Nat) (t : Tmp) : lendK2 s ms xs j t none = (s.lendAt ms xs (j + 1)) := rfl
@[simp] theorem lend_nil (xs : List X) (j : Nat) : s.lendAt [] xs j = none := by unfold RS.lendAt; rfl
@[simp] theorem lend_nil2 (ms : List Mode) (j : Nat) : s.lendAt ms [] j = none := by cases ms with
  | nil => simp only [RS.lendAt]
  | cons m ms => cases m <;> simp only [RS.lendAt]
@[simp] theorem lend_V (ms : List Mode) (x : X) (xs : List X) (j : Nat) : s.lendAt (.V :: ms) (x :: xs) j = s.lendAt ms xs (j + 1) := by simp only [RS.lendAt]
@[simp] theorem lend_O (ms : List Mode) (x : X) (xs : List X) (j : Nat) : s.lendAt (.O :: ms) (x :: xs) j = s.lendAt ms xs (j + 1) := by simp only [RS.lendAt]
@[simp] theorem lend_Mc (ms : List Mode) (c : CV) (xs : List X) (j : Nat) : s.lendAt (.M :: ms) (.c c :: xs) j = s.lendAt ms xs (j + 1) := by simp only [RS.lendAt]
@[simp] theorem lend_Mt (ms : List Mode) (t : Tmp) (xs : List X) (j : Nat) : s.lendAt (.M :: ms) (.t t :: xs) j = lendK2 s ms xs j t (s.look (s.e.get t)) := by
  simp only [RS.lendAt]; unfold lendK2; cases s.look (s.e.get t) <;> rfl
def relayK2 (s : RS) (r : Tmp) (p : List (Nat × Nat)) (o n : Nat) : Option RS → Option RS
  | some s' => some ⟨s'.e, (r, p, o, n) :: s'.d⟩
  | none => none
def relayK (s : RS) (ms : List Tmp) (c : CV) (r : Tmp) (p : List (Nat × Nat)) (o n : Nat) : Option (List L) → Option (List L) → Option (List L) → Option RS
  | some row, some r0, some r2 => if c.flat = true ∧ c.row.length = n ∧ o + n ≤ row.length ∧ ms.contains r = false ∧ pathSz p r0 = pathSz p r2 ∧ noS c.row = true then relayK2 s r p o n (s.poke r p o c.row) else none
  | _, _, _ => none
@[simp] theorem relayK.c0 (s : RS) (ms : List Tmp) (c : CV) (r : Tmp) (p : List (Nat × Nat)) (o n : Nat) : ∀ row r0 r2, relayK s ms c r p o n (some row) (some r0) (some r2) = (if c.flat = true ∧ c.row.length = n ∧ o + n ≤ row.length ∧ ms.contains r = false ∧ pathSz p r0 = pathSz p r2 ∧ noS c.row = true then relayK2 s r p o n (s.poke r p o c.row) else none) := by intro row r0 r2; first | rfl
@[simp] theorem relayK2.c0 (s : RS) (r : Tmp) (p : List (Nat × Nat)) (o n : Nat) : ∀ s', relayK2 s r p o n (some s') = (some ⟨s'.e, (r, p, o, n) :: s'.d⟩) := by intro s'; first | rfl
@[simp] theorem relayK2.c1 (s : RS) (r : Tmp) (p : List (Nat × Nat)) (o n : Nat) : relayK2 s r p o n none = (none) := rfl
@[simp] theorem relay_v (ms : List Tmp) (t : Tmp) (c c0 : CV) : s0.relay s ms t c (.v c0) = if c.flat = true then some (s.put t (.v c)) else none := rfl
@[simp] theorem relay_ld (ms : List Tmp) (t : Tmp) (c : CV) (r : Tmp) (p : List (Nat × Nat)) (o n : Nat) (g : Bool) : s0.relay s ms t c (.ld r p o n g) = relayK s ms c r p o n (slotAt s.e r p) (rowOf s0.e r) (rowOf s.e r) := by
  simp only [RS.relay]
  unfold relayK
  cases slotAt s.e r p with
  | none => rfl
  | some row =>
    cases rowOf s0.e r with
    | none => rfl
    | some r0 =>
      cases rowOf s.e r with
      | none => rfl
      | some r2 =>
        simp only
        split
        · unfold relayK2; cases s.poke r p o c.row <;> rfl
        · rfl
def pathSzK2 (sz : Nat) (p : List (Nat × Nat)) : Option (List L) → List Nat
  | some r => sz :: pathSz p r
  | none => []
def pathSzK (i : Nat) (p : List (Nat × Nat)) : Option L → List Nat
  | some (.sl _ sz rows) => pathSzK2 sz p rows[i]?
  | _ => []
@[simp] theorem pathSzK.c0 (i : Nat) (p : List (Nat × Nat)) : ∀ z1 sz rows, pathSzK i p (some (.sl z1 sz rows)) = (pathSzK2 sz p rows[i]?) := by intro z1 sz rows; first | rfl | (cases z1 <;> rfl)
@[simp] theorem pathSzK2.c0 (sz : Nat) (p : List (Nat × Nat)) : ∀ r, pathSzK2 sz p (some r) = (sz :: pathSz p r) := by intro r; first | rfl
@[simp] theorem pathSzK2.c1 (sz : Nat) (p : List (Nat × Nat)) : pathSzK2 sz p none = ([]) := rfl
@[simp] theorem pathSz_nil (row : List L) : pathSz [] row = [] := rfl
@[simp] theorem pathSz_cons (c i : Nat) (p : List (Nat × Nat)) (row : List L) : pathSz ((c, i) :: p) row = pathSzK i p row[c]? := by
  simp only [pathSz]
  split
  · rename_i o sz rows h1; simp only [h1, pathSzK]; unfold pathSzK2; cases rows[i]? <;> rfl
  · rename_i hne; unfold pathSzK; split
    · rename_i o sz rows h1; exact (hne _ _ _ h1).elim
    · rfl
@[simp] theorem frz_v (c : CV) : frz (.v c) = if c.flat = true then .v c.freeze else .bad := rfl
@[simp] theorem fz1_t (s : RS) (c : CV) (r t : Tmp) : fz1 s (.v c (some r)) (.t t) = (s.put r (frz (s.e.get r))).put t (.v c) := rfl
@[simp] theorem fz1_c (s : RS) (c c' : CV) (r : Tmp) : fz1 s (.v c (some r)) (.c c') = s := rfl
@[simp] theorem fz1_n (s : RS) (c : CV) (x : X) : fz1 s (.v c none) x = s := rfl
@[simp] theorem fz1_m (s : RS) (c : CV) (r : Tmp) (p : List (Nat × Nat)) (o : Nat) (x : X) : fz1 s (.m c r p o) x = s := rfl
@[simp] theorem fz1_o (s : RS) (x : X) : fz1 s .o x = s := rfl
@[simp] theorem fzA_cons (s : RS) (a : Arg) (as : List Arg) (x : X) (xs : List X) : s.fzA (a :: as) (x :: xs) = (fz1 s a x).fzA as xs := rfl
@[simp] theorem fzA_nil (s : RS) (xs : List X) : s.fzA [] xs = s := rfl
@[simp] theorem fzO_some (s : RS) (xs : List X) (as : List Arg) : s.fzO xs (some as) = s.fzA as xs := rfl
@[simp] theorem fzV_own (s : RS) (ms : List Mode) (xs : List X) : s.fzV true ms xs = s := rfl
@[simp] theorem fzV_not (s : RS) (ms : List Mode) (xs : List X) : s.fzV false ms xs = s.fzO xs (s.seen ms xs) := rfl
def callK1 : Option (List CV × List CV × List Arg × RS) → Option (List CV × RS)
  | some (res, _, _, s2) => some (res, s2)
  | none => none
def callK5 (res : List CV) : Option RS → Option (List CV × RS)
  | some s3 => some (res, s3)
  | none => none
def callK4 (s s2 : RS) (res : List CV) (as : List Arg) (t : Tmp) : Option CV → Option (List CV × RS)
  | some c => callK5 res (s.relay s2 (rootsM as) t c (s.e.get t))
  | none => none
def callK3 (s : RS) (j : Nat) (t : Tmp) : Option (List CV × List CV × List Arg × RS) → Option (List CV × RS)
  | some (res, outs, as, s2) => callK4 s s2 res as t outs[j]?
  | none => none
def callK2 (s : RS) (F : Fns) (f : FuncId) (g : Sig) (xs : List X) : Option (Nat × Tmp) → Option (List CV × RS)
  | none => callK1 ((s.fzV g.own g.modes xs).core F f g.own g.modes xs)
  | some (j, t) => callK3 s j t (s.core F f g.own (g.modes.set j .O) xs)
def callK (s : RS) (F : Fns) (f : FuncId) (xs : List X) : Option Sig → Option (List CV × RS)
  | some g => callK2 s F f g xs (s.lendAt g.modes xs 0)
  | none => none
def callR (d : Tmp) : Option (List CV × RS) → Option RS
  | some ([c], s2) => some (s2.put d (.v c))
  | some ([], s2) => some (s2.put d (.tup []))
  | some (c1 :: c2 :: cs, s2) => some (s2.put d (.tup (c1 :: c2 :: cs)))
  | none => none
@[simp] theorem callK.c0 (s : RS) (F : Fns) (f : FuncId) (xs : List X) : ∀ g, callK s F f xs (some g) = (callK2 s F f g xs (s.lendAt g.modes xs 0)) := by intro g; first | rfl
@[simp] theorem callK.c1 (s : RS) (F : Fns) (f : FuncId) (xs : List X) : callK s F f xs none = (none) := rfl
@[simp] theorem callK1.c0  : ∀ z1 z2 res s2, callK1 (some (res, z1, z2, s2)) = (some (res, s2)) := by intro z1 z2 res s2; first | rfl | (cases z1 <;> rfl) | (cases z2 <;> rfl)
@[simp] theorem callK1.c1  : callK1 none = (none) := rfl
@[simp] theorem callK2.c0 (s : RS) (F : Fns) (f : FuncId) (g : Sig) (xs : List X) : callK2 s F f g xs none = (callK1 ((s.fzV g.own g.modes xs).core F f g.own g.modes xs)) := rfl
@[simp] theorem callK2.c1 (s : RS) (F : Fns) (f : FuncId) (g : Sig) (xs : List X) : ∀ j t, callK2 s F f g xs (some (j, t)) = (callK3 s j t (s.core F f g.own (g.modes.set j .O) xs)) := by intro j t; first | rfl
@[simp] theorem callK3.c0 (s : RS) (j : Nat) (t : Tmp) : ∀ res outs as s2, callK3 s j t (some (res, outs, as, s2)) = (callK4 s s2 res as t outs[j]?) := by intro res outs as s2; first | rfl
@[simp] theorem callK3.c1 (s : RS) (j : Nat) (t : Tmp) : callK3 s j t none = (none) := rfl
@[simp] theorem callK4.c0 (s s2 : RS) (res : List CV) (as : List Arg) (t : Tmp) : ∀ c, callK4 s s2 res as t (some c) = (callK5 res (s.relay s2 (rootsM as) t c (s.e.get t))) := by intro c; first | rfl
@[simp] theorem callK4.c1 (s s2 : RS) (res : List CV) (as : List Arg) (t : Tmp) : callK4 s s2 res as t none = (none) := rfl
@[simp] theorem callK5.c0 (res : List CV) : ∀ s3, callK5 res (some s3) = (some (res, s3)) := by intro s3; first | rfl
@[simp] theorem callK5.c1 (res : List CV) : callK5 res none = (none) := rfl
@[simp] theorem callR.c0 (d : Tmp) : ∀ c s2, callR d (some ([c], s2)) = (some (s2.put d (.v c))) := by intro c s2; first | rfl
@[simp] theorem callR.c1 (d : Tmp) : ∀ s2, callR d (some ([], s2)) = (some (s2.put d (.tup []))) := by intro s2; first | rfl
@[simp] theorem callR.c2 (d : Tmp) : ∀ c1 c2 cs s2, callR d (some (c1 :: c2 :: cs, s2)) = (some (s2.put d (.tup (c1 :: c2 :: cs)))) := by intro c1 c2 cs s2; first | rfl
@[simp] theorem callR.c3 (d : Tmp) : callR d none = (none) := rfl
theorem call_eq (f : FuncId) (xs : List X) : s.call G F f xs = callK s F f xs (G f) := by
    unfold RS.call callK
    cases G f with
    | none => rfl
    | some g =>
      simp only
      unfold callK2
      cases s.lendAt g.modes xs 0 with
      | none => simp only; unfold callK1; cases (s.fzV g.own g.modes xs).core F f g.own g.modes xs <;> rfl
      | some q =>
        obtain ⟨j, t⟩ := q
        simp only
        unfold callK3
        cases s.core F f g.own (g.modes.set j .O) xs with
        | none => rfl
        | some q =>
          obtain ⟨res, outs, as, s2⟩ := q
          simp only
          unfold callK4
          cases outs[j]? with
          | none => rfl
          | some c => simp only; unfold callK5; cases s.relay s2 (rootsM as) t c (s.e.get t) <;> rfl
@[simp] theorem vop_call (d : Tmp) (f : FuncId) (xs : List X) : vop G F s (.call d f xs) = callR d (callK s F f xs (G f)) := by
  simp only [vop, call_eq]
  unfold callR
  cases callK s F f xs (G f) with
  | none => rfl
  | some q =>
    obtain ⟨res, s2⟩ := q
    match res with
    | [] => rfl
    | [c] => rfl
    | _ :: _ :: _ => rfl

@[simp] theorem vop_stop (d : Option Tmp) : vop G F s (.stop d) = none := rfl
def cut0K (s : RS) (d : Tmp) (sz : Nat) : Option CV → Option RS
  | some (.leaf (.sl _ sz' _)) => if sz' = sz then some (s.put d (.v (.leaf (.sl true sz [])))) else none
  | _ => none
@[simp] theorem cut0K.c0 (s : RS) (d : Tmp) (sz : Nat) : ∀ z1 z2 sz', cut0K s d sz (some (.leaf (.sl z1 sz' z2))) = (if sz' = sz then some (s.put d (.v (.leaf (.sl true sz [])))) else none) := by intro z1 z2 sz'; first | rfl | (cases z1 <;> rfl) | (cases z2 <;> rfl)
@[simp] theorem vop_cut0 (d : Tmp) (x : X) (sz : Nat) : vop G F s (.cut0 d x sz) = cut0K s d sz (s.look (s.val x)) := by
  simp only [vop]
  cases s.look (s.val x) with
  | none => rfl
  | some c =>
    cases c with
    | leaf l => cases l <;> rfl
    | _ => rfl
/- functions made on the spot -/
def capK2 (v : Value) : Option (List Value) → Option (List Value)
  | some vs => some (v :: vs)
  | none => none
def capK (r : Option (List Value)) : Option CV → Option (List Value)
  | some (.leaf (.int k n)) => capK2 (.int k n) r
  | some (.leaf (.bool b)) => capK2 (.bool b) r
  | some (.leaf (.str a)) => capK2 (.string a) r
  | _ => none
@[simp] theorem capK2.c0 (v : Value) : ∀ vs, capK2 v (some vs) = (some (v :: vs)) := by intro vs; first | rfl
@[simp] theorem capK2.c1 (v : Value) : capK2 v none = (none) := rfl
@[simp] theorem capK.c0 (r : Option (List Value)) : ∀ k n, capK r (some (.leaf (.int k n))) = (capK2 (.int k n) r) := by intro k n; first | rfl
@[simp] theorem capK.c1 (r : Option (List Value)) : ∀ b, capK r (some (.leaf (.bool b))) = (capK2 (.bool b) r) := by intro b; first | rfl
@[simp] theorem capK.c2 (r : Option (List Value)) : ∀ a, capK r (some (.leaf (.str a))) = (capK2 (.string a) r) := by intro a; first | rfl
@[simp] theorem caps_nil : s.caps [] = some [] := rfl
@[simp] theorem caps_cons (x : X) (xs : List X) : s.caps (x :: xs) = capK (s.caps xs) (s.look (s.val x)) := by
  simp only [RS.caps]
  unfold capK
  cases s.look (s.val x) with
  | none => rfl
  | some c =>
    cases c with
    | leaf l => cases l <;> simp only [L.scalar] <;> first | rfl | (unfold capK2; cases s.caps xs <;> rfl)
    | _ => rfl
@[simp] theorem capK_box (r : Option (List Value)) (row : List L) : capK r (some (.box row)) = none := rfl
@[simp] theorem scalars_nil : scalars [] = some [] := rfl
@[simp] theorem scalars_int (k : IntKind) (n : Int) (ls : List L) : scalars (.int k n :: ls) = capK2 (.int k n) (scalars ls) := by simp only [scalars, L.scalar]; unfold capK2; cases scalars ls <;> rfl
@[simp] theorem scalars_bool (b : Bool) (ls : List L) : scalars (.bool b :: ls) = capK2 (.bool b) (scalars ls) := by simp only [scalars, L.scalar]; unfold capK2; cases scalars ls <;> rfl
@[simp] theorem scalars_str (a : ByteArray) (ls : List L) : scalars (.str a :: ls) = capK2 (.string a) (scalars ls) := by simp only [scalars, L.scalar]; unfold capK2; cases scalars ls <;> rfl
def mkf3 (s : RS) (d : Tmp) (f : FuncId) : Option (List Value) → Option RS
  | some vals => some (s.put d (.v (.leaf (.clo f vals))))
  | none => none
def mkf2 (d : Tmp) (f : FuncId) : Option (CV × RS) → Option RS
  | some (.box row, s') => mkf3 s' d f (scalars row)
  | _ => none
def mkf1 (s : RS) (d : Tmp) (f : FuncId) : List X → Option RS
  | [x] => mkf2 d f (s.take x)
  | _ => none
def mkfK (s : RS) (d : Tmp) (f : FuncId) (xs : List X) : Option (List Value) → Option RS
  | some vs => some (s.put d (.v (.leaf (.fn f vs))))
  | none => mkf1 s d f xs
@[simp] theorem mkfK.c0 (s : RS) (d : Tmp) (f : FuncId) (xs : List X) : ∀ vs, mkfK s d f xs (some vs) = (some (s.put d (.v (.leaf (.fn f vs))))) := by intro vs; first | rfl
@[simp] theorem mkfK.c1 (s : RS) (d : Tmp) (f : FuncId) (xs : List X) : mkfK s d f xs none = (mkf1 s d f xs) := rfl
@[simp] theorem mkf1.c0 (s : RS) (d : Tmp) (f : FuncId) : ∀ x, mkf1 s d f [x] = (mkf2 d f (s.take x)) := by intro x; first | rfl
@[simp] theorem mkf2.c0 (d : Tmp) (f : FuncId) : ∀ row s', mkf2 d f (some (.box row, s')) = (mkf3 s' d f (scalars row)) := by intro row s'; first | rfl
@[simp] theorem mkf3.c0 (s : RS) (d : Tmp) (f : FuncId) : ∀ vals, mkf3 s d f (some vals) = (some (s.put d (.v (.leaf (.clo f vals))))) := by intro vals; first | rfl
@[simp] theorem mkf3.c1 (s : RS) (d : Tmp) (f : FuncId) : mkf3 s d f none = (none) := rfl
@[simp] theorem vop_mkf (d : Tmp) (f : FuncId) (xs : List X) : vop G F s (.mkf d f xs) = mkfK s d f xs (s.caps xs) := by
  simp only [vop]
  unfold mkfK
  cases s.caps xs with
  | some vs => rfl
  | none =>
    simp only
    unfold mkf1
    split
    · rename_i x
      simp only
      unfold mkf2
      split
      · rename_i row s' h1
        rw [h1]
        simp only
        unfold mkf3
        cases scalars row <;> rfl
      · rename_i hne
        split
        · rename_i row s' h1; exact (hne row s' h1).elim
        · rfl
    · rename_i hne
      split
      · rename_i x; exact (hne x rfl).elim
      · rfl
def cloOfK (s : RS) (t : Tmp) : AV → Option Tmp
  | .v _ => some t
  | .ld r [] 0 1 false => if clean s.d r [] 0 1 = true then some r else none
  | _ => none
@[simp] theorem cloOfK.c0 (s : RS) (t : Tmp) : ∀ z1, cloOfK s t (.v z1) = (some t) := by intro z1; first | rfl | (cases z1 <;> rfl)
@[simp] theorem cloOfK.c1 (s : RS) (t : Tmp) : ∀ r, cloOfK s t (.ld r [] 0 1 false) = (if clean s.d r [] 0 1 = true then some r else none) := by intro r; first | rfl
@[simp] theorem cloOf_t (t : Tmp) : s.cloOf (.t t) = cloOfK s t (s.e.get t) := by
  simp only [RS.cloOf]; unfold cloOfK; rfl
@[simp] theorem isT_t (r t : Tmp) : X.isT r (.t t) = (t == r) := rfl
@[simp] theorem isT_c (r : Tmp) (c : CV) : X.isT r (.c c) = false := rfl
@[simp] theorem capL_int (k : IntKind) (n : Int) : capL (.int k n) = .int k n := rfl
@[simp] theorem capL_bool (b : Bool) : capL (.bool b) = .bool b := rfl
@[simp] theorem capL_str (a : ByteArray) : capL (.string a) = .str a := rfl
def callD5 (d : Tmp) (f : FuncId) (r : Tmp) (res : List CV) (s2 : RS) : Option (List Value) → Option RS
  | some vals => callR d (some (res, s2.put r (.v (.leaf (.clo f vals)))))
  | none => none
def callD4 (d : Tmp) (f : FuncId) (r : Tmp) (res : List CV) (s2 : RS) : AV → Option RS
  | .v (.box row) => callD5 d f r res s2 (scalars row)
  | _ => none
def callD3 (d : Tmp) (f : FuncId) (r : Tmp) : Option (List CV × RS) → Option RS
  | some (res, s2) => callD4 d f r res s2 (s2.e.get r)
  | none => none
def callD2 (G : Sigs) (F : Fns) (s : RS) (d : Tmp) (xs : List X) (r : Tmp) : AV → Option RS
  | .v (.leaf (.clo f vals)) => if r ≠ d ∧ (xs.all fun y => !y.isT r) = true then callD3 d f r (callK (s.put r (.v (.box (vals.map capL)))) F f (xs ++ [X.t r]) (G f)) else none
  | _ => none
def callD1 (G : Sigs) (F : Fns) (s : RS) (d : Tmp) (xs : List X) : Option Tmp → Option RS
  | some r => callD2 G F s d xs r (s.e.get r)
  | none => none
def callDK (G : Sigs) (F : Fns) (s : RS) (d : Tmp) (xs : List X) (c : Option Tmp) : Option CV → Option RS
  | some (.leaf (.fn f vs)) => callR d (callK s F f (xs ++ vs.map fun v => X.c (.leaf (capL v))) (G f))
  | some (.leaf (.clo _ _)) => callD1 G F s d xs c
  | _ => none
@[simp] theorem callDK.c0 (G : Sigs) (F : Fns) (s : RS) (d : Tmp) (xs : List X) (c : Option Tmp) : ∀ f vs, callDK G F s d xs c (some (.leaf (.fn f vs))) = (callR d (callK s F f (xs ++ vs.map fun v => X.c (.leaf (capL v))) (G f))) := by intro f vs; first | rfl
@[simp] theorem callDK.c1 (G : Sigs) (F : Fns) (s : RS) (d : Tmp) (xs : List X) (c : Option Tmp) : ∀ z1 z2, callDK G F s d xs c (some (.leaf (.clo z1 z2))) = (callD1 G F s d xs c) := by intro z1 z2; first | rfl | (cases z1 <;> rfl) | (cases z2 <;> rfl)
@[simp] theorem callD1.c0 (G : Sigs) (F : Fns) (s : RS) (d : Tmp) (xs : List X) : ∀ r, callD1 G F s d xs (some r) = (callD2 G F s d xs r (s.e.get r)) := by intro r; first | rfl
@[simp] theorem callD1.c1 (G : Sigs) (F : Fns) (s : RS) (d : Tmp) (xs : List X) : callD1 G F s d xs none = (none) := rfl
@[simp] theorem callD2.c0 (G : Sigs) (F : Fns) (s : RS) (d : Tmp) (xs : List X) (r : Tmp) : ∀ f vals, callD2 G F s d xs r (.v (.leaf (.clo f vals))) = (if r ≠ d ∧ (xs.all fun y => !y.isT r) = true then callD3 d f r (callK (s.put r (.v (.box (vals.map capL)))) F f (xs ++ [X.t r]) (G f)) else none) := by intro f vals; first | rfl
@[simp] theorem callD3.c0 (d : Tmp) (f : FuncId) (r : Tmp) : ∀ res s2, callD3 d f r (some (res, s2)) = (callD4 d f r res s2 (s2.e.get r)) := by intro res s2; first | rfl
@[simp] theorem callD3.c1 (d : Tmp) (f : FuncId) (r : Tmp) : callD3 d f r none = (none) := rfl
@[simp] theorem callD4.c0 (d : Tmp) (f : FuncId) (r : Tmp) (res : List CV) (s2 : RS) : ∀ row, callD4 d f r res s2 (.v (.box row)) = (callD5 d f r res s2 (scalars row)) := by intro row; first | rfl
@[simp] theorem callD5.c0 (d : Tmp) (f : FuncId) (r : Tmp) (res : List CV) (s2 : RS) : ∀ vals, callD5 d f r res s2 (some vals) = (callR d (some (res, s2.put r (.v (.leaf (.clo f vals)))))) := by intro vals; first | rfl
@[simp] theorem callD5.c1 (d : Tmp) (f : FuncId) (r : Tmp) (res : List CV) (s2 : RS) : callD5 d f r res s2 none = (none) := rfl
@[simp] theorem vop_callD (d : Tmp) (x : X) (xs : List X) : vop G F s (.callD d x xs) = callDK G F s d xs (s.cloOf x) (s.look (s.val x)) := by
  have h : ∀ f vs, s.look (s.val x) = some (.leaf (.fn f vs)) → vop G F s (.callD d x xs) = vop G F s (.call d f (xs ++ vs.map fun v => X.c (.leaf (capL v)))) := by
    intro f vs hl
    simp only [vop, hl]
  unfold callDK
  split
  · rename_i f vs hl
    rw [h f vs hl, vop_call]
  · rename_i f0 vals0 hl
    simp only [vop, hl]
    unfold callD1
    cases s.cloOf x with
    | none => rfl
    | some r =>
      simp only
      unfold callD2
      cases hg : s.e.get r with
      | v c =>
        cases c with
        | leaf l =>
          cases l with
          | clo f vals =>
            simp only [call_eq]
            split
            · unfold callD3
              cases callK (s.put r (.v (.box (vals.map capL)))) F f (xs ++ [X.t r]) (G f) with
              | none => rfl
              | some q =>
                obtain ⟨res, s2⟩ := q
                simp only
                unfold callD4
                cases s2.e.get r with
                | v c2 =>
                  cases c2 with
                  | box row =>
                    simp only
                    unfold callD5
                    cases scalars row with
                    | none => rfl
                    | some vals2 =>
                      match res with
                      | [] => rfl
                      | [c] => rfl
                      | _ :: _ :: _ => rfl
                  | _ => rfl
                | _ => rfl
            · rfl
          | _ => rfl
        | _ => rfl
      | _ => rfl
  · rename_i hne
    simp only [vop]

/- regions -/
def skipK (s : RS) : Option Tmp → Option RS
  | some d => some (s.put d .un)
  | none => some s
/-- A guarded operation, where the guard is not known yet. -/
def gopB (G : Sigs) (F : Fns) (s : RS) (o : VOp) : Bool → Option RS
  | true => vop G F s o
  | false => skipK s o.dst
@[simp] theorem gopB_true (o : VOp) : gopB G F s o true = vop G F s o := rfl
@[simp] theorem gopB_false (o : VOp) : gopB G F s o false = skipK s o.dst := rfl
@[simp] theorem gopB_pos (o : VOp) (p : Prop) [Decidable p] (h : p) : gopB G F s o (decide p) = vop G F s o := by rw [decide_eq_true h]; rfl
@[simp] theorem gopB_neg (o : VOp) (p : Prop) [Decidable p] (h : ¬ p) : gopB G F s o (decide p) = skipK s o.dst := by rw [decide_eq_false h]; rfl
@[simp] theorem gopB_npos (o : VOp) (p : Prop) [Decidable p] (h : ¬ p) : gopB G F s o (!decide p) = vop G F s o := by rw [decide_eq_false h]; rfl
@[simp] theorem gopB_nneg (o : VOp) (p : Prop) [Decidable p] (h : p) : gopB G F s o (!decide p) = skipK s o.dst := by rw [decide_eq_true h]; rfl
def gopK (G : Sigs) (F : Fns) (s : RS) (want : Bool) (o : VOp) : AV → Option RS
  | .v (.leaf (.bool b)) => gopB G F s o (b == want)
  | .un => skipK s o.dst
  | _ => none
@[simp] theorem skipK.c0 (s : RS) : ∀ d, skipK s (some d) = (some (s.put d .un)) := by intro d; first | rfl
@[simp] theorem skipK.c1 (s : RS) : skipK s none = (some s) := rfl
@[simp] theorem gopK.c0 (G : Sigs) (F : Fns) (s : RS) (want : Bool) (o : VOp) : ∀ b, gopK G F s want o (.v (.leaf (.bool b))) = (gopB G F s o (b == want)) := by intro b; first | rfl
@[simp] theorem gopK.c1 (G : Sigs) (F : Fns) (s : RS) (want : Bool) (o : VOp) : gopK G F s want o .un = (skipK s o.dst) := rfl
@[simp] theorem gop_none (o : VOp) : gop G F s ⟨none, o⟩ = vop G F s o := rfl
@[simp] theorem gop_some (t : Tmp) (want : Bool) (o : VOp) : gop G F s ⟨some (t, want), o⟩ = gopK G F s want o (s.e.get t) := by
  simp only [gop]
  cases s.e.get t with
  | v c =>
    cases c with
    | leaf l =>
      cases l with
      | bool b => cases b <;> cases want <;> rfl
      | _ => rfl
    | _ => rfl
  | _ => rfl
def gopsK (G : Sigs) (F : Fns) (os : List GOp) : Option RS → Option RS
  | some s => gops G F os s
  | none => none
@[simp] theorem gopsK.c0 (G : Sigs) (F : Fns) (os : List GOp) : ∀ s, gopsK G F os (some s) = (gops G F os s) := by intro s; first | rfl
@[simp] theorem gopsK.c1 (G : Sigs) (F : Fns) (os : List GOp) : gopsK G F os none = (none) := rfl
@[simp] theorem gops_nil : gops G F [] s = some s := rfl
@[simp] theorem gops_cons (o : GOp) (os : List GOp) : gops G F (o :: os) s = gopsK G F os (gop G F s o) := by
  simp only [gops]; unfold gopsK; cases gop G F s o <;> rfl
@[simp] theorem gopsK_ite (os : List GOp) (c : Prop) [Decidable c] (a b : Option RS) : gopsK G F os (if c then a else b) = if c then gopsK G F os a else gopsK G F os b := by split <;> rfl

def Env.cut (d : List Dirt) (live : List Tmp) : Env → Env
  | [] => []
  | (k, .ptr r p o) :: e => if live.contains k = true then (k, (if cleanP d r p = true ∧ live.contains r = true then .ptr r p o else .bad)) :: Env.cut d live e else Env.cut d live e
  | (k, .ld r p o n g) :: e => if live.contains k = true then (k, (if clean d r p o n = true ∧ live.contains r = true then .ld r p o n g else .bad)) :: Env.cut d live e else Env.cut d live e
  | (k, v) :: e => if live.contains k = true then (k, v) :: Env.cut d live e else Env.cut d live e
attribute [simp] Env.cut
theorem keepV_cut (d : List Dirt) (live : List Tmp) : ∀ e : Env, Env.keepV d live e = Env.cut d live e
  | [] => rfl
  | (k, v) :: e => by
    simp only [Env.keepV, keepV_cut d live e]
    cases v <;> rfl
def finK2 (live ts : List Tmp) (t : Tmp) : Option (CV × RS) → Option RS
  | some (c, s') => (s'.put t (.v c)).fin live ts
  | none => none
def finK3 (s : RS) (live ts : List Tmp) (t r : Tmp) : AV → Option RS
  | .v (.box row) => ((s.put r .bad).put t (.v (.box row))).fin live ts
  | _ => none
def finK (s : RS) (live ts : List Tmp) (t : Tmp) : AV → Option RS
  | .ld r p o n g => if live.contains r = false then finK2 live ts t (takeK s t (.ld r p o n g)) else s.fin live ts
  | .ptr r [] 0 => if live.contains r = false ∧ cleanP s.d r [] = true ∧ r ≠ t then finK3 s live ts t r (s.e.get r) else s.fin live ts
  | .ptr _ [] (_ + 1) => s.fin live ts
  | .ptr _ (_ :: _) _ => s.fin live ts
  | .v _ => s.fin live ts
  | .bad => s.fin live ts
  | .un => s.fin live ts
  | .tup _ => s.fin live ts
  | .iptr _ _ => s.fin live ts
@[simp] theorem finK.c0 (s : RS) (live ts : List Tmp) (t : Tmp) : ∀ r p o n g, finK s live ts t (.ld r p o n g) = (if live.contains r = false then finK2 live ts t (takeK s t (.ld r p o n g)) else s.fin live ts) := by intro r p o n g; first | rfl
@[simp] theorem finK.c1 (s : RS) (live ts : List Tmp) (t : Tmp) : ∀ r, finK s live ts t (.ptr r [] 0) = (if live.contains r = false ∧ cleanP s.d r [] = true ∧ r ≠ t then finK3 s live ts t r (s.e.get r) else s.fin live ts) := by intro r; first | rfl
@[simp] theorem finK.c2 (s : RS) (live ts : List Tmp) (t : Tmp) : ∀ z1 z2, finK s live ts t (.ptr z1 [] (z2 + 1)) = (s.fin live ts) := by intro z1 z2; first | rfl | (cases z1 <;> rfl) | (cases z2 <;> rfl)
@[simp] theorem finK.c3 (s : RS) (live ts : List Tmp) (t : Tmp) : ∀ z1 z2 z3 z4, finK s live ts t (.ptr z1 (z2 :: z3) z4) = (s.fin live ts) := by intro z1 z2 z3 z4; first | rfl | (cases z1 <;> rfl) | (cases z2 <;> rfl) | (cases z3 <;> rfl) | (cases z4 <;> rfl)
@[simp] theorem finK.c4 (s : RS) (live ts : List Tmp) (t : Tmp) : ∀ z1, finK s live ts t (.v z1) = (s.fin live ts) := by intro z1; first | rfl | (cases z1 <;> rfl)
@[simp] theorem finK.c5 (s : RS) (live ts : List Tmp) (t : Tmp) : finK s live ts t .bad = (s.fin live ts) := rfl
@[simp] theorem finK.c6 (s : RS) (live ts : List Tmp) (t : Tmp) : finK s live ts t .un = (s.fin live ts) := rfl
@[simp] theorem finK.c7 (s : RS) (live ts : List Tmp) (t : Tmp) : ∀ z1, finK s live ts t (.tup z1) = (s.fin live ts) := by intro z1; first | rfl | (cases z1 <;> rfl)
@[simp] theorem finK.c8 (s : RS) (live ts : List Tmp) (t : Tmp) : ∀ z1 z2, finK s live ts t (.iptr z1 z2) = (s.fin live ts) := by intro z1 z2; first | rfl | (cases z1 <;> rfl) | (cases z2 <;> rfl)
@[simp] theorem finK2.c0 (live ts : List Tmp) (t : Tmp) : ∀ c s', finK2 live ts t (some (c, s')) = ((s'.put t (.v c)).fin live ts) := by intro c s'; first | rfl
@[simp] theorem finK2.c1 (live ts : List Tmp) (t : Tmp) : finK2 live ts t none = (none) := rfl
@[simp] theorem finK3.c0 (s : RS) (live ts : List Tmp) (t r : Tmp) : ∀ row, finK3 s live ts t r (.v (.box row)) = (((s.put r .bad).put t (.v (.box row))).fin live ts) := by intro row; first | rfl
@[simp] theorem fin_nil (live : List Tmp) : s.fin live [] = some ⟨Env.cut s.d live s.e, []⟩ := by simp only [RS.fin, keepV_cut]
@[simp] theorem fin_cons (live : List Tmp) (t : Tmp) (ts : List Tmp) : s.fin live (t :: ts) = finK s live ts t (s.e.get t) := by
  simp only [RS.fin]
  cases hav : s.e.get t with
  | ld r p o n g =>
    simp only [finK, take_t, hav]
    split
    · unfold finK2; cases takeK s t (.ld r p o n g) <;> rfl
    · rfl
  | ptr r p o =>
    cases p with
    | cons q p => simp [finK]
    | nil =>
      cases o with
      | succ o => simp [finK]
      | zero =>
        simp only [finK]
        split
        · unfold finK3
          cases s.e.get r with
          | v c => cases c <;> rfl
          | _ => rfl
        · rfl
  | _ => rfl
/-- behind a region -/
def RunF (G : Sigs) (F : Fns) (ks : List Fr) (Q : VX → Env → Prop) : Option RS → Prop
  | some s => Run G F .skip s.e ks Q
  | none => False
@[simp] theorem RunF.c0 (G : Sigs) (F : Fns) (ks : List Fr) (Q : VX → Env → Prop) : ∀ s, RunF G F ks Q (some s) = (Run G F .skip s.e ks Q) := by intro s; first | rfl
@[simp] theorem RunF.c1 (G : Sigs) (F : Fns) (ks : List Fr) (Q : VX → Env → Prop) : RunF G F ks Q none = (False) := rfl
@[simp] theorem runR_some (live : List Tmp) : RunR G F live ks Q (some s) = RunF G F ks Q (s.fin live live) := by
  simp only [RunR]; unfold RunF; cases s.fin live live <;> rfl
@[simp] theorem runR_none (live : List Tmp) : RunR G F live ks Q none = False := rfl
/-- A branch, where what it asks is not known yet. -/
def RunD (G : Sigs) (F : Fns) (a b : VC) (e : Env) (ks : List Fr) (Q : VX → Env → Prop) : Bool → Prop
  | true => Run G F a e ks Q
  | false => Run G F b e ks Q
@[simp] theorem runD_true (a b : VC) (e : Env) : RunD G F a b e ks Q true = Run G F a e ks Q := rfl
@[simp] theorem runD_false (a b : VC) (e : Env) : RunD G F a b e ks Q false = Run G F b e ks Q := rfl
@[simp] theorem runD_pos (a b : VC) (e : Env) (p : Prop) [Decidable p] (h : p) : RunD G F a b e ks Q (decide p) = Run G F a e ks Q := by rw [decide_eq_true h]; rfl
@[simp] theorem runD_neg (a b : VC) (e : Env) (p : Prop) [Decidable p] (h : ¬ p) : RunD G F a b e ks Q (decide p) = Run G F b e ks Q := by rw [decide_eq_false h]; rfl
@[simp] theorem runD_not (a b : VC) (e : Env) (t : Bool) : RunD G F a b e ks Q (!t) = RunD G F b a e ks Q t := by cases t <;> rfl
def RunC (G : Sigs) (F : Fns) (a b : VC) (e : Env) (ks : List Fr) (Q : VX → Env → Prop) : Option CV → Prop
  | some (.leaf (.bool t)) => RunD G F a b e ks Q t
  | _ => False
@[simp] theorem runC_bool (a b : VC) (e : Env) (t : Bool) : RunC G F a b e ks Q (some (.leaf (.bool t))) = RunD G F a b e ks Q t := rfl
@[simp] theorem run_cond' (x : X) (a b : VC) (e : Env) : Run G F (.cond x a b) e ks Q = RunC G F a b e ks Q ((RS.mk e []).look ((RS.mk e []).val x)) := by
  rw [run_cond]
  generalize (RS.mk e []).look ((RS.mk e []).val x) = c
  cases c with
  | none => rfl
  | some c =>
    cases c with
    | leaf l =>
      cases l with
      | bool t => cases t <;> simp [RunB, RunC, RunD]
      | _ => rfl
    | _ => rfl
attribute [simp] run_region run_draw

/- drawn regions -/
theorem stage_nil {S T : RS} {k : Nat} : stage G F S T k [] = True := rfl
theorem stage_cons {S T : RS} {k : Nat} {g : Option (Tmp × Bool)} {o : VOp} {lo hi : Nat} {b : Bool} {qs : List DOp} : stage G F S T k (⟨⟨g, o⟩, b, lo, hi⟩ :: qs) = ((b = true → lo ≤ k → k ≤ hi → match o.dst with
      | some d => T.e.get d = S.e.get d ∧ gop G F T ⟨g, o⟩ = some (T.put d (S.e.get d))
      | none => False) ∧ stage G F S T k qs) := rfl
def stageK (G : Sigs) (F : Fns) (S T : RS) (o : GOp) : Option Tmp → Prop
  | some d => T.e.get d = S.e.get d ∧ gop G F T o = some (T.put d (S.e.get d))
  | none => False
attribute [simp] stage_nil
@[simp] theorem stageK.c0 (G : Sigs) (F : Fns) (S T : RS) (o : GOp) : ∀ d, stageK G F S T o (some d) = (T.e.get d = S.e.get d ∧ gop G F T o = some (T.put d (S.e.get d))) := by intro d; first | rfl
@[simp] theorem stageK.c1 (G : Sigs) (F : Fns) (S T : RS) (o : GOp) : stageK G F S T o none = (False) := rfl
theorem stage_yes {S T : RS} {k : Nat} {q : DOp} {qs : List DOp} (h : q.calm = true ∧ q.lo ≤ k ∧ k ≤ q.hi) : stage G F S T k (q :: qs) = (stageK G F S T q.o q.o.o.dst ∧ stage G F S T k qs) := by
  simp only [stage]
  refine propext ⟨fun ⟨a, b⟩ => ⟨?_, b⟩, fun ⟨a, b⟩ => ⟨fun _ _ _ => ?_, b⟩⟩
  · have := a h.1 h.2.1 h.2.2
    unfold stageK
    exact this
  · unfold stageK at a; exact a
theorem stage_no {S T : RS} {k : Nat} {q : DOp} {qs : List DOp} (h : ¬ (q.calm = true ∧ q.lo ≤ k ∧ k ≤ q.hi)) : stage G F S T k (q :: qs) = stage G F S T k qs := by
  simp only [stage]
  exact propext ⟨fun ⟨_, b⟩ => b, fun b => ⟨fun h1 h2 h3 => absurd ⟨h1, h2, h3⟩ h, b⟩⟩
@[simp] theorem stage_cons' {S T : RS} {k : Nat} {q : DOp} {qs : List DOp} : stage G F S T k (q :: qs) = if q.calm = true ∧ q.lo ≤ k ∧ k ≤ q.hi then stageK G F S T q.o q.o.o.dst ∧ stage G F S T k qs else stage G F S T k qs := by
  by_cases h : q.calm = true ∧ q.lo ≤ k ∧ k ≤ q.hi
  · rw [if_pos h]; exact stage_yes h
  · rw [if_neg h]; exact stage_no h
open Classical in
noncomputable def runLK (G : Sigs) (F : Fns) (S : RS) (all : List DOp) (qs : List DOp) (k : Nat) : Option RS → Option RS
  | some T => runL G F S all qs k T
  | none => none
@[simp] theorem runLK.c0 (G : Sigs) (F : Fns) (S : RS) (all : List DOp) (qs : List DOp) (k : Nat) : ∀ T, runLK G F S all qs k (some T) = (runL G F S all qs k T) := by intro T; first | rfl
@[simp] theorem runLK.c1 (G : Sigs) (F : Fns) (S : RS) (all : List DOp) (qs : List DOp) (k : Nat) : runLK G F S all qs k none = (none) := rfl
open Classical in
@[simp] theorem runL_nil {S T : RS} {all : List DOp} {k : Nat} : runL G F S all [] k T = if stage G F S T k all then some T else none := by simp only [runL]
open Classical in
@[simp] theorem runL_cons {S T : RS} {all : List DOp} {k : Nat} {q : DOp} {qs : List DOp} : runL G F S all (q :: qs) k T = if q.calm = true then runL G F S all qs k T else if stage G F S T k all then runLK G F S all qs (k + 1) (gop G F T q.o) else none := by
  simp only [runL]
  split
  · rfl
  · split
    · unfold runLK; cases gop G F T q.o <;> rfl
    · rfl
def calmAll (S : RS) (cs : List Tmp) : List Tmp → Bool
  | [] => true
  | t :: ts => (S.e.get t).calmA cs && calmAll S cs ts
@[simp] theorem calmAll.c0 (S : RS) (cs : List Tmp) : calmAll S cs [] = (true) := rfl
@[simp] theorem calmAll.c1 (S : RS) (cs : List Tmp) : ∀ t ts, calmAll S cs (t :: ts) = ((S.e.get t).calmA cs && calmAll S cs ts) := by intro t ts; first | rfl
theorem calmAll_eq (S : RS) (cs : List Tmp) : ∀ ts : List Tmp, (ts.all fun t => (S.e.get t).calmA cs) = calmAll S cs ts
  | [] => rfl
  | t :: ts => by simp only [List.all_cons, calmAll, calmAll_eq S cs ts]
noncomputable def drawK (G : Sigs) (F : Fns) (qs : List DOp) (s : RS) : Option RS → Option RS
  | some S => if calmAll S (calmT qs) (calmT qs) = true ∧ s.e.noroot (calmT qs) = true then runL G F S qs qs 0 (lay S (calmT qs) s) else none
  | none => none
@[simp] theorem drawK.c0 (G : Sigs) (F : Fns) (qs : List DOp) (s : RS) : ∀ S, drawK G F qs s (some S) = (if calmAll S (calmT qs) (calmT qs) = true ∧ s.e.noroot (calmT qs) = true then runL G F S qs qs 0 (lay S (calmT qs) s) else none) := by intro S; first | rfl
@[simp] theorem drawK.c1 (G : Sigs) (F : Fns) (qs : List DOp) (s : RS) : drawK G F qs s none = (none) := rfl
@[simp] theorem draw_eq {qs : List DOp} : draw G F qs s = drawK G F qs s (gops G F (qs.map (·.o)) s) := by
  simp only [draw, calmAll_eq]; unfold drawK; cases gops G F (qs.map (·.o)) s <;> rfl

/- a function's end -/
def resK (s : RS) (rs : List RX) (c : CV) : Option (List CV × RS) → Option (List CV × RS)
  | some (cs, s'') => some (c :: cs, s'')
  | none => none
def resT (rs : List RX) : Option (CV × RS) → Option (List CV × RS)
  | some (c, s') => resK s' rs c (s'.results rs)
  | none => none
def resC (s : RS) (t n : Nat) (g : Bool) (rs : List RX) : AV → Option (List CV × RS)
  | .v (.box row) => if row.length = n then (match cellsO (some row) 0 n g with | some c => resK s rs c ((s.put t .bad).results rs) | none => none) else none
  | _ => none
@[simp] theorem resK.c0 (s : RS) (rs : List RX) (c : CV) : ∀ cs s'', resK s rs c (some (cs, s'')) = (some (c :: cs, s'')) := by intro cs s''; first | rfl
@[simp] theorem resK.c1 (s : RS) (rs : List RX) (c : CV) : resK s rs c none = (none) := rfl
@[simp] theorem resT.c0 (rs : List RX) : ∀ c s', resT rs (some (c, s')) = (resK s' rs c (s'.results rs)) := by intro c s'; first | rfl
@[simp] theorem resT.c1 (rs : List RX) : resT rs none = (none) := rfl
@[simp] theorem resC.c0 (s : RS) (t n : Nat) (g : Bool) (rs : List RX) : ∀ row, resC s t n g rs (.v (.box row)) = (if row.length = n then (match cellsO (some row) 0 n g with | some c => resK s rs c ((s.put t .bad).results rs) | none => none) else none) := by intro row; first | rfl
@[simp] theorem results_nil : s.results [] = some ([], s) := rfl
@[simp] theorem results_tmp (t : Tmp) (rs : List RX) : s.results (.tmp t :: rs) = resT rs (s.take (.t t)) := by
  simp only [RS.results]
  unfold resT
  cases s.take (.t t) with
  | none => rfl
  | some q => obtain ⟨c, s'⟩ := q; simp only; unfold resK; cases s'.results rs <;> rfl
@[simp] theorem results_cell (t : Tmp) (n : Nat) (g : Bool) (rs : List RX) : s.results (.cell t n g :: rs) = resC s t n g rs (s.e.get t) := by
  simp only [RS.results]
  unfold resC
  cases s.e.get t with
  | v c =>
    cases c with
    | box row =>
      simp only [cellsOf_O]
      split
      · cases cellsO (some row) 0 n g with
        | none => rfl
        | some c => simp only; unfold resK; cases (s.put t .bad).results rs <;> rfl
      · rfl
    | _ => rfl
  | _ => rfl
def outMK (e : Env) (i : Nat) : AV → Option CV
  | .v (.leaf l) => some (.leaf l)
  | .v (.agg ls) => some (.agg ls)
  | .v (.box row) => some (.box row)
  | .bad => (e.boxOf i e).map .agg
  | _ => none
def outsK (c : CV) : Option (List CV) → Option (List CV)
  | some cs => some (c :: cs)
  | none => none
def outsK1 (r : Option (List CV)) : Option CV → Option (List CV)
  | some c => outsK c r
  | none => none
@[simp] theorem outMK.c0 (e : Env) (i : Nat) : ∀ l, outMK e i (.v (.leaf l)) = (some (.leaf l)) := by intro l; first | rfl
@[simp] theorem outMK.c1 (e : Env) (i : Nat) : ∀ ls, outMK e i (.v (.agg ls)) = (some (.agg ls)) := by intro ls; first | rfl
@[simp] theorem outMK.c2 (e : Env) (i : Nat) : ∀ row, outMK e i (.v (.box row)) = (some (.box row)) := by intro row; first | rfl
@[simp] theorem outMK.c3 (e : Env) (i : Nat) : outMK e i .bad = ((e.boxOf i e).map .agg) := rfl
@[simp] theorem outsK.c0 (c : CV) : ∀ cs, outsK c (some cs) = (some (c :: cs)) := by intro cs; first | rfl
@[simp] theorem outsK.c1 (c : CV) : outsK c none = (none) := rfl
@[simp] theorem outsK1.c0 (r : Option (List CV)) : ∀ c, outsK1 r (some c) = (outsK c r) := by intro c; first | rfl
@[simp] theorem outsK1.c1 (r : Option (List CV)) : outsK1 r none = (none) := rfl
@[simp] theorem out_M (e : Env) (i : Nat) : out e i .M = outMK e i (e.get i) := by
  simp only [out]
  unfold outMK
  cases e.get i with
  | v c => cases c <;> rfl
  | bad => simp only; cases e.boxOf i e <;> rfl
  | _ => rfl
@[simp] theorem out_V (e : Env) (i : Nat) : out e i .V = some .gone := rfl
@[simp] theorem out_O (e : Env) (i : Nat) : out e i .O = some .gone := rfl
@[simp] theorem outs_nil (e : Env) (i : Nat) : outs e i [] = some [] := rfl
@[simp] theorem outs_cons (e : Env) (i : Nat) (m : Mode) (ms : List Mode) : outs e i (m :: ms) = outsK1 (outs e (i + 1) ms) (out e i m) := by
  simp only [outs]
  unfold outsK1
  cases out e i m with
  | none => rfl
  | some c => simp only; unfold outsK; cases outs e (i + 1) ms <;> rfl
def boxOfK (E : Env) (i : Tmp) (e : Env) : AV → Option (List L)
  | .v (.pbox t row) => if t = i then some row else Env.boxOf E i e
  | .v (.leaf _) => Env.boxOf E i e
  | .v (.agg _) => Env.boxOf E i e
  | .v (.box _) => Env.boxOf E i e
  | .v .gone => Env.boxOf E i e
  | .bad => Env.boxOf E i e
  | .un => Env.boxOf E i e
  | .tup _ => Env.boxOf E i e
  | .ptr _ _ _ => Env.boxOf E i e
  | .iptr _ _ => Env.boxOf E i e
  | .ld _ _ _ _ _ => Env.boxOf E i e
@[simp] theorem boxOfK.c0 (E : Env) (i : Tmp) (e : Env) : ∀ t row, boxOfK E i e (.v (.pbox t row)) = (if t = i then some row else Env.boxOf E i e) := by intro t row; first | rfl
@[simp] theorem boxOfK.c1 (E : Env) (i : Tmp) (e : Env) : ∀ z1, boxOfK E i e (.v (.leaf z1)) = (Env.boxOf E i e) := by intro z1; first | rfl | (cases z1 <;> rfl)
@[simp] theorem boxOfK.c2 (E : Env) (i : Tmp) (e : Env) : ∀ z1, boxOfK E i e (.v (.agg z1)) = (Env.boxOf E i e) := by intro z1; first | rfl | (cases z1 <;> rfl)
@[simp] theorem boxOfK.c3 (E : Env) (i : Tmp) (e : Env) : ∀ z1, boxOfK E i e (.v (.box z1)) = (Env.boxOf E i e) := by intro z1; first | rfl | (cases z1 <;> rfl)
@[simp] theorem boxOfK.c4 (E : Env) (i : Tmp) (e : Env) : boxOfK E i e (.v .gone) = (Env.boxOf E i e) := rfl
@[simp] theorem boxOfK.c5 (E : Env) (i : Tmp) (e : Env) : boxOfK E i e .bad = (Env.boxOf E i e) := rfl
@[simp] theorem boxOfK.c6 (E : Env) (i : Tmp) (e : Env) : boxOfK E i e .un = (Env.boxOf E i e) := rfl
@[simp] theorem boxOfK.c7 (E : Env) (i : Tmp) (e : Env) : ∀ z1, boxOfK E i e (.tup z1) = (Env.boxOf E i e) := by intro z1; first | rfl | (cases z1 <;> rfl)
@[simp] theorem boxOfK.c8 (E : Env) (i : Tmp) (e : Env) : ∀ z1 z2 z3, boxOfK E i e (.ptr z1 z2 z3) = (Env.boxOf E i e) := by intro z1 z2 z3; first | rfl | (cases z1 <;> rfl) | (cases z2 <;> rfl) | (cases z3 <;> rfl)
@[simp] theorem boxOfK.c9 (E : Env) (i : Tmp) (e : Env) : ∀ z1 z2, boxOfK E i e (.iptr z1 z2) = (Env.boxOf E i e) := by intro z1 z2; first | rfl | (cases z1 <;> rfl) | (cases z2 <;> rfl)
@[simp] theorem boxOfK.c10 (E : Env) (i : Tmp) (e : Env) : ∀ z1 z2 z3 z4 z5, boxOfK E i e (.ld z1 z2 z3 z4 z5) = (Env.boxOf E i e) := by intro z1 z2 z3 z4 z5; first | rfl | (cases z1 <;> rfl) | (cases z2 <;> rfl) | (cases z3 <;> rfl) | (cases z4 <;> rfl) | (cases z5 <;> rfl)
@[simp] theorem boxOf_nil (E : Env) (i : Tmp) : Env.boxOf E i [] = none := rfl
@[simp] theorem boxOf_cons (E : Env) (i k : Tmp) (v : AV) (e : Env) : Env.boxOf E i ((k, v) :: e) = boxOfK E i e (E.get k) := by
  simp only [Env.boxOf]
  cases E.get k with
  | v c => cases c <;> rfl
  | _ => rfl
def fnEndK2 (own : Bool) (cs : List CV) : Option (List CV) → Option (List CV × List CV)
  | some os => if own = false ∨ (cs.all CV.free = true ∧ os.all CV.free = true) then some (cs, os) else none
  | none => none
def fnEndK (own : Bool) (ms : List Mode) : Option (List CV × RS) → Option (List CV × List CV)
  | some (cs, s) => fnEndK2 own cs (outs s.e 0 ms)
  | none => none
@[simp] theorem fnEndK.c0 (own : Bool) (ms : List Mode) : ∀ cs s, fnEndK own ms (some (cs, s)) = (fnEndK2 own cs (outs s.e 0 ms)) := by intro cs s; first | rfl
@[simp] theorem fnEndK.c1 (own : Bool) (ms : List Mode) : fnEndK own ms none = (none) := rfl
@[simp] theorem fnEndK2.c0 (own : Bool) (cs : List CV) : ∀ os, fnEndK2 own cs (some os) = (if own = false ∨ (cs.all CV.free = true ∧ os.all CV.free = true) then some (cs, os) else none) := by intro os; first | rfl
@[simp] theorem fnEndK2.c1 (own : Bool) (cs : List CV) : fnEndK2 own cs none = (none) := rfl
@[simp] theorem fnEnd_eq (own : Bool) (ms : List Mode) (rs : List RX) (e : Env) : fnEnd own ms rs e = fnEndK own ms ((RS.mk e []).results rs) := by
  unfold fnEnd fnEndK
  cases (RS.mk e []).results rs with
  | none => rfl
  | some q =>
    obtain ⟨cs, s⟩ := q
    simp only
    unfold fnEndK2
    cases outs s.e 0 ms <;> rfl
@[simp] theorem QF_ret (own : Bool) (ms : List Mode) (rs : List RX) (r : List CV × List CV) (e : Env) : QF own ms rs r .ret e = (fnEnd own ms rs e = some r) := rfl
@[simp] theorem QF_normal (own : Bool) (ms : List Mode) (rs : List RX) (r : List CV × List CV) (e : Env) : QF own ms rs r .normal e = (fnEnd own ms rs e = some r) := rfl
/-- what a result must be -/
def QEK (X : List CV → List CV → Prop) : Option (List CV × List CV) → Prop
  | some (cs, os) => X cs os
  | none => False
@[simp] theorem QEK.c0 (X : List CV → List CV → Prop) : ∀ cs os, QEK X (some (cs, os)) = (X cs os) := by intro cs os; first | rfl
@[simp] theorem QEK.c1 (X : List CV → List CV → Prop) : QEK X none = (False) := rfl
theorem QE_eq (X : List CV → List CV → Prop) (o : Option (List CV × List CV)) : (∃ cs os, o = some (cs, os) ∧ X cs os) = QEK X o := by
  refine propext ⟨fun ⟨cs, os, h, hx⟩ => by subst h; exact hx, fun h => ?_⟩
  cases o with
  | none => exact h.elim
  | some q => exact ⟨q.1, q.2, rfl, h⟩
@[simp] theorem QE_ret (own : Bool) (ms : List Mode) (rs : List RX) (X : List CV → List CV → Prop) (e : Env) : QE own ms rs X .ret e = QEK X (fnEnd own ms rs e) := QE_eq ..
@[simp] theorem QE_normal (own : Bool) (ms : List Mode) (rs : List RX) (X : List CV → List CV → Prop) (e : Env) : QE own ms rs X .normal e = QEK X (fnEnd own ms rs e) := QE_eq ..

end Go.VS
