/- The model's code turned into the evaluator's: operand by operand, operation by operation. -/
import Derived.Test.YtdoelepflcaijaaEngStep
import Derived.Laws.StructEq
namespace Go.VS
open Go Go.RowKit
set_option linter.unusedSimpArgs false
set_option linter.unusedVariables false

/-- The kinds of cells that a value of a type has, one by one. -/
def leavesOf (P : Program) : Nat → TypeId → Option (List TypeId)
  | 0, _ => none
  | d + 1, t =>
    match P.underlying t with
    | some (.struct fs) => fs.toList.foldrM (fun f acc => (leavesOf P d f.type).map (· ++ acc)) []
    | some (.array n e) => (leavesOf P d e).map fun l => (List.replicate n l).flatten
    | some _ => some [t]
    | none => none
def sizeB (P : Program) (t : TypeId) : Option Nat := (P.info? t).map (·.size)
def aggB (P : Program) (t : TypeId) : Option Bool := (P.underlying t).map fun | .struct _ => true | .array _ _ => true | _ => false
/-- A constant cell as a leaf, where its type is known. -/
def constL (P : Program) (t : TypeId) : Value → L
  | .int k n => .int k n
  | .bool b => .bool b
  | .string s => .str s
  | .slice none 0 0 => match P.underlying t with
    | some (.slice e) => match sizeB P e with
      | some n => .sl true n []
      | none => .bad
    | _ => .bad
  | _ => .bad
def constR (P : Program) : List TypeId → List Value → List L
  | t :: ts, v :: vs => constL P t v :: constR P ts vs
  | [], v :: vs => constL P 0 v :: constR P [] vs
  | _, [] => []
/-- A type's zero cells as leaves. -/
def zeroRow (P : Program) (t : TypeId) : Option (List L) :=
  match P.info? t, leavesOf P 12 t with
  | some i, some ts => match i.zero with
    | some z => if z.cells.all Value.oneCell' ∧ z.cells.size = i.size then some (constR P ts z.cells.toList) else none
    | none => none
  | _, _ => none
def compX (P : Program) (t : TypeId) : Operand → Option X
  | .tmp t => some (.t t)
  | .const (.agg cs) => match leavesOf P 12 t with
    | some ts => if cs.all Value.oneCell' then some (.c (.agg (constR P ts cs.toList))) else none
    | none => none
  | .const v => if v.oneCell' then some (.c (.leaf (constL P t v))) else none
  | _ => none

theorem constL_rep (P : Program) (t : TypeId) (v : Value) (w : World) (I S : Nat → Prop) : RepL w I (constL P t v) v S := by
  unfold constL
  repeat' split
  all_goals first | exact .bad .. | exact .int .. | exact .bool .. | exact .str .. | exact .nil _ _ _ _ _ (fun _ => ⟨rfl, rfl⟩)
theorem constR_get (P : Program) : ∀ (ts : List TypeId) (vs : List Value) (j : Nat) (l : L), (constR P ts vs)[j]? = some l → ∃ v t, vs[j]? = some v ∧ l = constL P t v
  | ts, [], j, l, h => by cases ts <;> simp [constR] at h
  | [], v :: vs, 0, l, h => by simp [constR] at h; exact ⟨v, 0, rfl, h.symm⟩
  | t :: ts, v :: vs, 0, l, h => by simp [constR] at h; exact ⟨v, t, rfl, h.symm⟩
  | [], v :: vs, j + 1, l, h => by simp [constR] at h; simpa using constR_get P [] vs j l h
  | t :: ts, v :: vs, j + 1, l, h => by simp [constR] at h; simpa using constR_get P ts vs j l h
theorem constR_length (P : Program) : ∀ (ts : List TypeId) (vs : List Value), (constR P ts vs).length = vs.length
  | ts, [] => by cases ts <;> rfl
  | [], v :: vs => by simp [constR, constR_length P [] vs]
  | t :: ts, v :: vs => by simp [constR, constR_length P ts vs]
theorem constR_rep (P : Program) (ts : List TypeId) (cs : Array Value) (hc : cs.all Value.oneCell' = true) (w : World) (I S : Nat → Prop) : RepRow w I (constR P ts cs.toList) (fun j => cs[j]?) S := by
  refine ⟨fun _ _ => False, fun _ _ h => h.elim, fun _ _ _ h => h.elim, fun j l hl => ?_⟩
  obtain ⟨v, t, h1, rfl⟩ := constR_get P ts _ j l hl
  rw [Array.getElem?_toList] at h1
  refine ⟨v, h1, ?_, constL_rep ..⟩
  rw [Array.all_eq_true] at hc
  obtain ⟨hj, rfl⟩ := Array.getElem?_eq_some_iff.1 h1
  exact hc j hj

theorem compX_val {P : Program} {t : TypeId} {o : Operand} {x : X} (h : compX P t o = some x) (a : Act) : XV a.tmps x (a.eval o) := by
  unfold compX at h
  split at h
  · obtain rfl := (Option.some.inj h).symm; rfl
  · split at h
    · split at h
      · rename_i hc
        obtain rfl := (Option.some.inj h).symm
        exact fun arg w I => ⟨_, rfl, by rw [constR_length, Array.length_toList], constR_rep _ _ _ hc _ _ _⟩
      · cases h
    · cases h
  · split at h
    · rename_i hc
      obtain rfl := (Option.some.inj h).symm
      exact fun arg w I => ⟨hc, constL_rep ..⟩
    · cases h
  · cases h

/-- The slot of a guard. -/
def guardOf (ops : Array Oper) (o : Oper) : Option (Option (Tmp × Bool)) :=
  match o.guard with
  | none => some none
  | some (j, want) => match (ops[j]?).bind (·.dst) with
    | some t => some (some (t, want))
    | none => none

/-- A struct whose fields are numbers, texts and bools, one cell each, in their order; that may be compared. -/
def flatFs (P : Program) : Nat → List Field → Option (List EK)
  | _, [] => some []
  | i, f :: fs => if f.offset = i ∧ f.name ≠ "_" then
      match P.underlying f.type, flatFs P (i + 1) fs with
      | some (.int _), some es => some (.int :: es)
      | some .string, some es => some (.str :: es)
      | some .bool, some es => some (.bool :: es)
      | _, _ => none
    else none
def flatB (P : Program) (t : TypeId) (fs : Array Field) : Option (List EK) := if P.stoodInHeld t = false ∧ P.eqGuardType P.depth t = false then flatFs P 0 fs.toList else none
def compPart (P : Program) (fs : Array Field) (q : Nat × Operand) : Option (Nat × Nat × X) :=
  match fs[q.1]? with
  | some f => match sizeB P f.type, compX P f.type q.2 with
    | some n, some x => some (f.offset, n, x)
    | _, _ => none
  | none => none
def compElem (P : Program) (e : TypeId) (q : Nat × Operand) : Option (Nat × X) := (compX P e q.2).map fun x => (q.1, x)

/-- One operation turned. 'pm': the parameters that lie in a box of their own as they came in. -/
def compOp (P : Program) (pm : Tmp → Bool) (o : Oper) : Option VOp :=
  match o.dst, o.op with
  | some d, .move x => (compX P o.type x).map (.mv d)
  | some d, .assign x => match x with
    | .const (.pointer none) => some (.bad d)
    | x => (compX P o.type x).map (.asg d)
  | some d, .pick c a b => match compX P 0 c, compX P o.type a, compX P o.type b with
    | some c, some a, some b => some (.pick d c a b)
    | _, _, _ => none
  | some d, .alloc e => (zeroRow P e).map (.alloc d)
  | some d, .box e x => match compX P e x with
    | some (.t t) => if pm t then some (.boxM d t) else some (.box d (.t t))
    | some x => some (.box d x)
    | none => none
  | some d, .build t parts => match P.underlying t, zeroRow P t with
    | some (.struct fs), some zs => if fs.all fun f => (sizeB P f.type).isSome then (parts.toList.mapM (compPart P fs)).map (.build d zs) else none
    | _, _ => none
  | some d, .buildSlice t n parts => match P.underlying t with
    | some (.slice e) => match sizeB P e, zeroRow P e with
      | some sz, some zs => if zs.length = sz ∧ 0 < sz ∧ n * sz ≤ 2 ^ 24 ∧ n ≤ maxLen then (parts.toList.mapM (compElem P e)).map (.mk d zs n) else none
      | _, _ => none
    | _ => none
  | some d, .load t x => match compX P 0 x, sizeB P t, aggB P t with
    | some x, some n, some g => if g = true ∨ n = 1 then some (.load d x n g) else none
    | _, _, _ => none
  | none, .store t a x => match compX P 0 a, compX P t x, sizeB P t with
    | some a, some x, some n => some (.store a x n)
    | _, _, _ => none
  | some d, .nilCheck x => (compX P 0 x).map (.nil d)
  | some d, .binOp op t x y _ => match compX P t x, compX P t y, P.underlying t with
    | some x, some y, some (.struct fs) => match flatB P t fs with
        | some es => if op = .eql then some (.eqs d false es x y) else if op = .neq then some (.eqs d true es x y) else none
        | none => none
    | some x, some y, some .bool => if op = .eql then some (.eqb d false x y) else if op = .neq then some (.eqb d true x y) else none
    | some x, some y, some _ => some (.bin d op x y)
    | _, _, _ => none
  | some d, .unOp op _ x => (compX P 0 x).map (.un d op)
  | some d, .convert src dst x => match P.underlying src, P.underlying dst, compX P src x with
    | some (.int _), some (.int k), some x => some (.conv d k x)
    | some (.slice e), some .string, some x => match P.underlying e with
      | some (.int .u8) => some (.bytes d x)
      | _ => none
    | _, _, _ => none
  | some d, .makeSlice t l c => match P.underlying t with
    | some (.slice e) => match P.info? e, zeroRow P e, compX P 0 l, compX P 0 c with
      | some i, some zs, some l, some c => if zs.length = i.size ∧ 0 < i.size then some (.make d zs i.bytes l c) else none
      | _, _, _, _ => none
    | _ => none
  | some d, .slice t x lo hi none => match P.underlying t, compX P t x, lo.mapM (compX P 0), hi.mapM (compX P 0) with
    | some .string, some x, some lo, some hi => some (.subStr d x lo hi)
    | some (.slice e), some x, some lo, some hi => match sizeB P e with
      | some n => some (.subSl d x lo hi n)
      | none => none
    | _, _, _, _ => none
  | some d, .fieldAddr t x f => match P.underlying t with
    | some (.struct fs) => match fs[f]? with
      | some fd => match sizeB P fd.type, compX P 0 x with
        | some (_ + 1), some x => some (.fld d x fd.offset)
        | _, _ => none
      | none => none
    | _ => none
  | some d, .indexAddr t x i => match P.underlying t with
    | some (.slice e) => match sizeB P e, compX P t x, compX P 0 i with
      | some sz, some x, some i => some (.idx d x i sz)
      | _, _, _ => none
    | _ => none
  | some d, .index t x i => match P.underlying t, compX P t x, compX P 0 i with
    | some .string, some x, some i => some (.byte d x i)
    | _, _, _ => none
  | some d, .extract x i => match compX P 0 x with
    | some x => some (.ext d x i)
    | none => none
  | some d, .call c => match c.callee with
    | .builtin .len => match c.args.toList, c.argTypes.toList with
      | [x], [t] => match P.underlying t, compX P t x with
        | some .string, some x => some (.len d x true)
        | some (.slice _), some x => some (.len d x false)
        | _, _ => none
      | _, _ => none
    | .builtin .min => match c.args.toList with
      | [x, y] => match compX P 0 x, compX P 0 y with
        | some x, some y => some (.min d x y)
        | _, _ => none
      | _ => none
    | .builtin .append => match c.args.toList, c.argTypes.toList with
      | [x, y], [t, u] => match P.underlying t, P.underlying u with
        | some (.slice e), some uu => match P.info? e, compX P t x, compX P t y with
          | some i, some x, some y =>
            if i.zero.isSome ∧ (i.zero.map (·.cells.size)) = some i.size ∧ 0 < i.size ∧ 0 < i.bytes ∧ (match uu with | .slice e' => e' == e && u == t | .string => true | _ => false) = true then some (.app d x y i.size i.bytes (match uu with | .string => true | _ => false)) else none
          | _, _, _ => none
        | _, _ => none
      | _, _ => none
    | .value (.func f) => match P.funcs[f]? with
      | some fn => if fn.body.isSome ∧ fn.name ≠ "runtime.NumGoroutine" ∧ fn.params.size = c.args.size then
          ((fn.params.toList.zip c.args.toList).mapM (fun q => compX P q.1 q.2)).map (.call d f)
        else none
      | none => none
    | _ => none
  | _, _ => none

end Go.VS
