/- The model's code turned into the evaluator's: operand by operand, operation by operation. -/
import Derived.Test.YtjcjodcpiickaaaGreatDoorEngM1
import Derived.Laws.StructEq
import Derived.Great.BuildSlice
import Derived.Laws.MakeOwn
import Derived.Laws.BytesString
namespace Go.VS
open Go Go.RowKit
set_option linter.unusedSimpArgs false
set_option linter.unusedVariables false

/-- The kinds of cells that a value of a type has, one by one. -/
def leavesOf (P : Program) : Nat → TypeId → Option (List TypeId)
 | 0, _ => none
 | d + 1, t =>
  match P.underlying t with
  | some (.struct fs) => fs.toList.foldrM (fun f acc => (leavesOf P d f.type).map (· ++ acc)) []
  | some (.array n e) => (leavesOf P d e).map fun l => (List.replicate n l).flatten
  | some _ => some [t]
  | none => none
def sizeB (P : Program) (t : TypeId) : Option Nat := (P.info? t).map (·.size)
def aggB (P : Program) (t : TypeId) : Option Bool := (P.underlying t).map fun | .struct _ => true | .array _ _ => true | _ => false
/-- A constant cell as a leaf, where its type is known. -/
def constL (P : Program) (t : TypeId) : Value → L
 | .int k n => .int k n
 | .bool b => .bool b
 | .string s => .str s
 | .slice none 0 0 => match P.underlying t with
  | some (.slice e) => match sizeB P e with
   | some n => .sl true n []
   | none => .bad
  | _ => .bad
 | _ => .bad
def constR (P : Program) : List TypeId → List Value → List L
 | t :: ts, v :: vs => constL P t v :: constR P ts vs
 | [], v :: vs => constL P 0 v :: constR P [] vs
 | _, [] => []
/-- A type's zero cells as leaves. -/
def zeroRow (P : Program) (t : TypeId) : Option (List L) :=
 match P.info? t, leavesOf P 12 t with
 | some i, some ts => match i.zero with
  | some z => if z.cells.all Value.oneCell' ∧ z.cells.size = i.size then some (constR P ts z.cells.toList) else none
  | none => none
 | _, _ => none
/-- .. in a new box: what is no pointer yet. -/
def ptrB : Value → Bool
 | .pointer none => true
 | _ => false
def constS (P : Program) (q : Bool) (b t : TypeId) : Value → L
 | .pointer none => .self b
 | .slice none 0 0 => match q, P.underlying t with
  | true, some (.slice e) => .bts e []
  | _, _ => constL P t (.slice none 0 0)
 | v => constL P t v
def constSR (P : Program) (q : Bool) (b : TypeId) : List TypeId → List Value → List L
 | t :: ts, v :: vs => constS P q b t v :: constSR P q b ts vs
 | [], v :: vs => constS P q b 0 v :: constSR P q b [] vs
 | _, [] => []
def selfRow (P : Program) (t : TypeId) : Option (List L) :=
 match P.info? t, leavesOf P 12 t with
 | some i, some ts => match i.zero with
  | some z => if z.cells.all Value.oneCell' ∧ z.cells.size = i.size then some (constSR P (z.cells.any ptrB) t ts z.cells.toList) else none
  | none => none
 | _, _ => none
def compX (P : Program) (t : TypeId) : Operand → Option X
 | .tmp t => some (.t t)
 | .const (.agg cs) => match leavesOf P 12 t with
  | some ts => if cs.all Value.oneCell' then some (.c (.agg (constR P ts cs.toList))) else none
  | none => none
 | .const v => if v.oneCell' then some (.c (.leaf (constL P t v))) else none
 | .func f => some (.c (.leaf (.fn f [])))
 | _ => none

theorem constL_rep (P : Program) (t : TypeId) (v : Value) (w : World) (I S : Nat → Prop) : RepL w I (constL P t v) v S := by
 unfold constL
 repeat' split
 all_goals first | exact .bad .. | exact .int .. | exact .bool .. | exact .str .. | exact .nil _ _ _ _ _ (fun _ => rfl)
theorem constR_get (P : Program) : ∀ (ts : List TypeId) (vs : List Value) (j : Nat) (l : L), (constR P ts vs)[j]? = some l → ∃ v t, vs[j]? = some v ∧ l = constL P t v
 | ts, [], j, l, h => by cases ts <;> simp [constR] at h
 | [], v :: vs, 0, l, h => by simp [constR] at h; exact ⟨v, 0, rfl, h.symm⟩
 | t :: ts, v :: vs, 0, l, h => by simp [constR] at h; exact ⟨v, t, rfl, h.symm⟩
 | [], v :: vs, j + 1, l, h => by simp [constR] at h; simpa using constR_get P [] vs j l h
 | t :: ts, v :: vs, j + 1, l, h => by simp [constR] at h; simpa using constR_get P ts vs j l h
theorem constR_length (P : Program) : ∀ (ts : List TypeId) (vs : List Value), (constR P ts vs).length = vs.length
 | ts, [] => by cases ts <;> rfl
 | [], v :: vs => by simp [constR, constR_length P [] vs]
 | t :: ts, v :: vs => by simp [constR, constR_length P ts vs]
theorem constR_rep (P : Program) (ts : List TypeId) (cs : Array Value) (hc : cs.all Value.oneCell' = true) (w : World) (I S : Nat → Prop) : RepRow w I (constR P ts cs.toList) (fun j => cs[j]?) S := by
 refine ⟨fun _ _ => False, fun _ _ h => h.elim, fun _ _ _ h => h.elim, fun j l hl => ?_⟩
 obtain ⟨v, t, h1, rfl⟩ := constR_get P ts _ j l hl
 rw [Array.getElem?_toList] at h1
 refine ⟨v, h1, ?_, constL_rep ..⟩
 rw [Array.all_eq_true] at hc
 obtain ⟨hj, rfl⟩ := Array.getElem?_eq_some_iff.1 h1
 exact hc j hj

theorem constS_rep (P : Program) (q : Bool) (b t : TypeId) (v : Value) (w : World) (I S : Nat → Prop) : RepL w I (constS P q b t v) v S := by
 unfold constS
 split
 ·exact .self ..
 ·split
  ·exact .bts _ _ _ _ ⟨rfl, .inl ⟨rfl, rfl⟩⟩ fun g hg => by cases hg
  ·exact constL_rep ..
 ·exact constL_rep ..
theorem constL_self {P : Program} {t t0 : TypeId} {v : Value} (h : constL P t v = .self t0) : False := by
 unfold constL at h
 repeat' split at h
 all_goals cases h
theorem constS_self {P : Program} {q : Bool} {b t t0 : TypeId} {v : Value} (h : constS P q b t v = .self t0) : b = t0 ∧ v = .pointer none := by
 unfold constS at h
 split at h
 ·injection h with h; exact ⟨h, rfl⟩
 ·split at h
  ·cases h
  ·exact (constL_self h).elim
 ·exact (constL_self h).elim
theorem constSR_get (P : Program) (q : Bool) (b : TypeId) : ∀ (ts : List TypeId) (vs : List Value) (j : Nat) (l : L), (constSR P q b ts vs)[j]? = some l → ∃ v t, vs[j]? = some v ∧ l = constS P q b t v
 | ts, [], j, l, h => by cases ts <;> simp [constSR] at h
 | [], v :: vs, 0, l, h => by simp [constSR] at h; exact ⟨v, 0, rfl, h.symm⟩
 | t :: ts, v :: vs, 0, l, h => by simp [constSR] at h; exact ⟨v, t, rfl, h.symm⟩
 | [], v :: vs, j + 1, l, h => by simp [constSR] at h; simpa using constSR_get P q b [] vs j l h
 | t :: ts, v :: vs, j + 1, l, h => by simp [constSR] at h; simpa using constSR_get P q b ts vs j l h
theorem constSR_length (P : Program) (q : Bool) (b : TypeId) : ∀ (ts : List TypeId) (vs : List Value), (constSR P q b ts vs).length = vs.length
 | ts, [] => by cases ts <;> rfl
 | [], v :: vs => by simp [constSR, constSR_length P q b [] vs]
 | t :: ts, v :: vs => by simp [constSR, constSR_length P q b ts vs]
theorem selfRow_spec {P : Program} {t : TypeId} {zs : List L} (h : selfRow P t = some zs) : ∃ i z, P.info? t = some i ∧ i.zero = some z ∧ zs.length = i.size ∧ z.cells.size = i.size ∧ (∀ (w : World) (I S : Nat → Prop), RepRow w I zs (fun j => z.cells[j]?) S) ∧ ∀ b, SelfOk zs z.cells b t := by
 unfold selfRow at h
 split at h
 ·rename_i i ts hi hts
  split at h
  ·rename_i z hz
   split at h
   ·rename_i hc
    obtain rfl := (Option.some.inj h).symm
    refine ⟨i, z, hi, hz, by rw [constSR_length, Array.length_toList]; exact hc.2, hc.2, fun w I S => ⟨fun _ _ => False, fun _ _ h => h.elim, fun _ _ _ h => h.elim, fun j l hl => ?_⟩, fun b j t0 hj => ?_⟩
    ·obtain ⟨v, t', h1, rfl⟩ := constSR_get P _ _ ts _ j l hl
     rw [Array.getElem?_toList] at h1
     refine ⟨v, h1, ?_, constS_rep ..⟩
     have := hc.1
     rw [Array.all_eq_true] at this
     obtain ⟨hj, rfl⟩ := Array.getElem?_eq_some_iff.1 h1
     exact this j hj
    ·obtain ⟨v, t', h1, h2⟩ := constSR_get P _ _ ts _ j _ hj
     rw [Array.getElem?_toList] at h1
     obtain ⟨q1, q2⟩ := constS_self h2.symm
     rw [h1, q2]
     exact ⟨q1, .inl rfl⟩
   ·cases h
  ·cases h
 ·cases h
theorem compX_val {P : Program} {t : TypeId} {o : Operand} {x : X} (h : compX P t o = some x) (a : Act) : XV a.tmps x (a.eval o) := by
 unfold compX at h
 split at h
 ·obtain rfl := (Option.some.inj h).symm; rfl
 ·split at h
  ·split at h
   ·rename_i hc
    obtain rfl := (Option.some.inj h).symm
    exact fun arg w I => ⟨_, rfl, by rw [constR_length, Array.length_toList], constR_rep _ _ _ hc _ _ _⟩
   ·cases h
  ·cases h
 ·split at h
  ·rename_i hc
   obtain rfl := (Option.some.inj h).symm
   exact fun arg w I => ⟨hc, constL_rep ..⟩
  ·cases h
 ·obtain rfl := (Option.some.inj h).symm
  exact fun arg w I => ⟨rfl, .fn _ [] _ (fun v h => by cases h)⟩
 ·cases h

/-- The slot of a guard. -/
def guardOf (ops : Array Oper) (o : Oper) : Option (Option (Tmp × Bool)) :=
 match o.guard with
 | none => some none
 | some (j, want) => match (ops[j]?).bind (·.dst) with
  | some t => some (some (t, want))
  | none => none

/-- A struct whose fields are numbers, texts and bools, one cell each, in their order; that may be compared. -/
def flatFs (P : Program) : Nat → List Field → Option (List EK)
 | _, [] => some []
 | i, f :: fs => if f.offset = i ∧ f.name ≠ "_" then
   match P.underlying f.type, flatFs P (i + 1) fs with
   | some (.int _), some es => some (.int :: es)
   | some .string, some es => some (.str :: es)
   | some .bool, some es => some (.bool :: es)
   | _, _ => none
  else none
def flatB (P : Program) (t : TypeId) (fs : Array Field) : Option (List EK) := if P.stoodInHeld t = false ∧ P.eqGuardType P.depth t = false then flatFs P 0 fs.toList else none
def compPart (P : Program) (fs : Array Field) (q : Nat × Operand) : Option (Nat × Nat × X) :=
 match fs[q.1]? with
 | some f => match sizeB P f.type, compX P f.type q.2 with
  | some n, some x => some (f.offset, n, x)
  | _, _ => none
 | none => none
def compElem (P : Program) (e : TypeId) (q : Nat × Operand) : Option (Nat × X) := (compX P e q.2).map fun x => (q.1, x)

/-- One operation turned. 'pm': the parameters that lie in a box of their own as they came in. -/
def compOp (P : Program) (pm : Tmp → Bool) (o : Oper) : Option VOp :=
 match o.dst, o.op with
 | some d, .move x => (compX P o.type x).map (.mv d)
 | some d, .assign x => match x with
  | .const (.pointer none) => some (.bad d)
  | x => (compX P o.type x).map (.asg d)
 | some d, .pick c a b => match compX P 0 c, compX P o.type a, compX P o.type b with
  | some c, some a, some b => some (.pick d c a b)
  | _, _, _ => none
 | some d, .alloc e => (selfRow P e).map (.alloc d)
 | some d, .box e x => match compX P e x with
  | some (.t t) => if pm t then some (.boxM d t) else some (.box d (.t t))
  | some x => some (.box d x)
  | none => none
 | some d, .build t parts => match P.underlying t, zeroRow P t with
  | some (.struct fs), some zs => if fs.all fun f => (sizeB P f.type).isSome then (parts.toList.mapM (compPart P fs)).map (.build d zs) else none
  | _, _ => none
 | some d, .buildSlice t n parts => match P.underlying t with
  | some (.slice e) => match sizeB P e, zeroRow P e with
   | some sz, some zs => if zs.length = sz ∧ 0 < sz ∧ n * sz ≤ 2 ^ 24 ∧ n ≤ maxLen then (parts.toList.mapM (compElem P e)).map (.mk d zs n) else none
   | _, _ => none
  | _ => none
 | some d, .load t x => match compX P 0 x, sizeB P t, aggB P t with
  | some x, some n, some g => if g = true ∨ n = 1 then some (.load d x n g) else none
  | _, _, _ => none
 | none, .store t a x => match compX P 0 a, compX P t x, sizeB P t with
  | some a, some x, some n => some (.store a x n)
  | _, _, _ => none
 | some d, .nilCheck x => (compX P 0 x).map (.nil d)
 | some d, .binOp op t x y _ => match compX P t x, compX P t y, P.underlying t with
  | some x, some y, some (.struct fs) => match flatB P t fs with
    | some es => if op = .eql then some (.eqs d false es x y) else if op = .neq then some (.eqs d true es x y) else none
    | none => none
  | some x, some y, some .bool => if op = .eql then some (.eqb d false x y) else if op = .neq then some (.eqb d true x y) else none
  | some x, some y, some _ => some (.bin d op x y)
  | _, _, _ => none
 | some d, .unOp op _ x => (compX P 0 x).map (.un d op)
 | some d, .convert src dst x => match P.underlying src, P.underlying dst, compX P src x with
  | some (.int _), some (.int k), some x => some (.conv d k x)
  | some (.slice e), some .string, some x => match P.underlying e with
   | some (.int .u8) => some (.bytes d x)
   | _ => none
  | _, _, _ => none
 | some d, .makeSlice t l c => match P.underlying t with
  | some (.slice e) => match P.info? e, zeroRow P e, compX P 0 l, compX P 0 c with
   | some i, some zs, some l, some c => if zs.length = i.size ∧ 0 < i.size then some (.make d zs i.bytes l c) else none
   | _, _, _, _ => none
  | _ => none
 | some d, .slice t x lo hi none => match P.underlying t, compX P t x, lo.mapM (compX P 0), hi.mapM (compX P 0) with
  | some .string, some x, some lo, some hi => some (.subStr d x lo hi)
  | some (.slice e), some x, some lo, some hi => match sizeB P e with
   | some n => some (.subSl d x lo hi n)
   | none => none
  | _, _, _, _ => none
 | some d, .slice t x none (some (.const (.int _ 0))) (some (.const (.int _ 0))) => match P.underlying t, compX P t x with
  | some (.slice e), some x => match sizeB P e with
   | some n => some (.cut0 d x n)
   | none => none
  | _, _ => none
 | some d, .panic _ => some (.stop (some d))
 | none, .panic _ => some (.stop none)
 | some d, .makeInterface _ _ => some (.stop (some d))
 | some d, .fieldAddr t x f => match P.underlying t with
  | some (.struct fs) => match fs[f]? with
   | some fd => match sizeB P fd.type, compX P 0 x with
    | some (_ + 1), some x => some (.fld d x fd.offset)
    | _, _ => none
   | none => none
  | _ => none
 | some d, .indexAddr t x i => match P.underlying t with
  | some (.slice e) => match sizeB P e, compX P t x, compX P 0 i with
   | some sz, some x, some i => some (.idx d x i sz)
   | _, _, _ => none
  | _ => none
 | some d, .index t x i => match P.underlying t, compX P t x, compX P 0 i with
  | some .string, some x, some i => some (.byte d x i)
  | _, _, _ => none
 | some d, .extract x i => match compX P 0 x with
  | some x => some (.ext d x i)
  | none => none
 | some d, .call c => match c.callee with
  | .builtin .len => match c.args.toList, c.argTypes.toList with
   | [x], [t] => match P.underlying t, compX P t x with
    | some .string, some x => some (.len d x true)
    | some (.slice _), some x => some (.len d x false)
    | _, _ => none
   | _, _ => none
  | .builtin .min => match c.args.toList with
   | [x, y] => match compX P 0 x, compX P 0 y with
    | some x, some y => some (.min d x y)
    | _, _ => none
   | _ => none
  | .builtin .max => match c.args.toList with
   | [x, y] => match compX P 0 x, compX P 0 y with
    | some x, some y => some (.max d x y)
    | _, _ => none
   | _ => none
  | .builtin .append => match c.args.toList, c.argTypes.toList with
   | [x, y], [t, u] => match P.underlying t, P.underlying u with
    | some (.slice e), some uu => match P.info? e, compX P t x, compX P t y with
     | some i, some x, some y =>
      if i.zero.isSome ∧ (i.zero.map (·.cells.size)) = some i.size ∧ 0 < i.size ∧ 0 < i.bytes ∧ (match uu with | .slice e' => e' == e && u == t | .string => true | _ => false) = true then some (.app d x y i.size i.bytes (match uu with | .string => true | _ => false)) else none
     | _, _, _ => none
    | _, _ => none
   | _, _ => none
  | .value (.func f) => match P.funcs[f]? with
   | some fn => if fn.body.isSome ∧ fn.name ≠ "runtime.NumGoroutine" ∧ fn.params.size = c.args.size then
     ((fn.params.toList.zip c.args.toList).mapM (fun q => compX P q.1 q.2)).map (.call d f)
    else none
   | none => none
  | .value (.tmp t) => (c.args.toList.mapM (compX P 0)).map (.callD d (.t t))
  | _ => none
 | some d, .makeFunc (.func f) first captured => if first = #[] then (captured.toList.mapM (compX P 0)).map (.mkf d f) else none
 | _, _ => none

end Go.VS

/- Operations that turn no place: each leads from slots that stand for the frame to slots that do. -/
namespace Go.VS
open Go Go.RowKit
set_option linter.unusedSimpArgs false
set_option linter.unusedVariables false

variable {P : Program} {arg : Tmp → Value} {W w w' : World} {I I' : Nat → Prop} {O O' : Tmp → Nat → Prop} {s s' : RS} {a : Act} {K : Act → World → Prop} {Q : Exit → Act → World → Prop} {G : Sigs} {F : Fns}

/-- What is to be shown of an operation. -/
def Sound1 (P : Program) (arg : Tmp → Value) (W : World) (G : Sigs) (F : Fns) (o : Oper) (vo : VOp) : Prop :=
 ∀ (I : Nat → Prop) (O : Tmp → Nat → Prop) (s s' : RS) (a : Act) (w : World) (K : Act → World → Prop) (Q : Exit → Act → World → Prop),
  Rel arg W I O s a.tmps w → (∀ d, vo.dst = some d → d < a.tmps.size) → vop G F s vo = some s' → (∀ a' w', Good arg W I O w a s' vo.dst a' w' → K a' w') → o.wp P a w K Q

theorem rel_ptr (h : Rel arg W I O s a.tmps w) {t r : Tmp} {p : List (Nat × Nat)} {o : Nat} (ht : s.e.get t = .ptr r p o) : RepA arg w I s a.tmps (.ptr r p o) (a.tmps.getD t undef) (fun _ => False) := by
 have := h.rep t
 rw [ht] at this
 exact this
theorem ptr_root (h : Rel arg W I O s a.tmps w) {t r : Tmp} {p : List (Nat × Nat)} {o : Nat} (ht : s.e.get t = .ptr r p o) (hc : cleanP s.d r p = true) : ∃ c, s.e.get r = .v c := by
 obtain ⟨_, _, _, ⟨c, h1, _⟩, _⟩ := rel_ptr h ht hc
 exact ⟨c, h1⟩
theorem rel_ld (h : Rel arg W I O s a.tmps w) {t r : Tmp} {p : List (Nat × Nat)} {o n : Nat} {g : Bool} (ht : s.e.get t = .ld r p o n g) : RepA arg w I s a.tmps (.ld r p o n g) (a.tmps.getD t undef) (fun _ => False) := by
 have := h.rep t
 rw [ht] at this
 exact this
theorem rel_iptr (h : Rel arg W I O s a.tmps w) {t : Tmp} {row : List L} {o : Nat} (ht : s.e.get t = .iptr row o) : RepA arg w I s a.tmps (.iptr row o) (a.tmps.getD t undef) (fun _ => False) := by
 have := h.rep t
 rw [ht] at this
 exact this

/-- The row of a whole root as a pointer or a loaded value. -/
theorem root_ld (h : Rel arg W I O s a.tmps w) {t : Tmp} {l : L} (ht : s.e.get t = .v (.leaf l)) : RepA arg w I s a.tmps (.ld t [] 0 1 false) (a.tmps.getD t undef) (fun _ => False) := by
 intro _
 refine ⟨_, _, ⟨_, ht, .nil ..⟩, by simp [CV.row], fun h => (by cases h), fun _ => ⟨rfl, rfl⟩⟩
theorem root_ldA (h : Rel arg W I O s a.tmps w) {t : Tmp} {ls : List L} (ht : s.e.get t = .v (.agg ls)) : RepA arg w I s a.tmps (.ld t [] 0 ls.length true) (a.tmps.getD t undef) (fun _ => False) := by
 intro _
 have hr := h.rep t
 rw [ht] at hr
 obtain ⟨cs, hv, h2, _⟩ := hr
 refine ⟨_, _, ⟨_, ht, .nil ..⟩, by simp [CV.row], fun _ => ⟨cs, hv, h2, fun j _ => ?_⟩, fun h => (by cases h)⟩
 rw [hv, Nat.zero_add]
 rfl
theorem root_ptr (h : Rel arg W I O s a.tmps w) {t : Tmp} {c : CV} (ht : s.e.get t = .v c) (hc : (∃ row, c = .box row) ∨ ∃ t0 row, c = .pbox t0 row) (off : Nat) :
  ∃ b, a.tmps.getD t undef = .pointer (some ⟨b, 0, none⟩) ∧ RepA arg w I s a.tmps (.ptr t [] off) (.pointer (some ⟨b, off, none⟩)) (fun _ => False) := by
 have hr := h.rep t
 rw [ht] at hr
 rcases hc with ⟨row, rfl⟩ | ⟨t0, row, rfl⟩
 ·obtain ⟨b, cs, e, hv, _⟩ := hr
  refine ⟨b, hv, fun _ => ⟨b, 0, row, ⟨_, ht, ?_⟩, by rw [Nat.zero_add]⟩⟩
  rw [hv]
  exact .nil ..
 ·obtain ⟨b, cs, e, hv, _⟩ := hr
  refine ⟨b, hv, fun _ => ⟨b, 0, row, ⟨_, ht, ?_⟩, by rw [Nat.zero_add]⟩⟩
  rw [hv]
  exact .nil ..

theorem exec_move {o : Oper} {x : Operand} (ho : o.op = .move x ∨ o.op = .assign x) : (execOp a.eval o).run P w = .ok (.value (a.eval x)) w := by
 rcases ho with ho | ho <;> simp [execOp, ho]

/-- Behind a take: what has been taken goes into a slot. -/
theorem good_takenA {d : Tmp} {av : AV} {S : Nat → Prop} {v : Value} (h : Rel arg W I O s a.tmps w) (hd : d < a.tmps.size) (hc : RepA arg w I s' a.tmps av v S) (hnp : ∀ r p o, av ≠ .ptr r p o) (h' : Rel arg W I O' s' a.tmps w) (ho : Out O O' S) :
  Good arg W I O w a (s'.put d av) (some d) (a.put (some d) v) w := by
 have hst := h'.step (d := d) (av := av) (v := v) (S := S) hd (Below.refl w.heap.size w) (fun b hb => by
  obtain ⟨t, ht⟩ := ho.1 b hb
  exact ⟨h.olt t b ht, h.notI t b ht, fun t' _ h' => ho.2.2 t' b h' hb⟩) hc (fun r p o e => absurd e (hnp r p o))
 refine ⟨I, _, rfl, put_size .., hst, ⟨fun _ h => h, Nat.le_refl _, fun _ _ _ => rfl, fun b hb => ?_⟩, fun t ht => ?_⟩
 ·rcases hb with ⟨t, hb⟩ | hb
  ·by_cases ht : t = d
   ·simp only [ht, if_true] at hb; exact .inl (ho.1 b hb)
   ·simp only [ht, if_false] at hb; exact .inl ⟨t, ho.2.1 t b hb⟩
  ·exact .inr (.inl hb)
 ·simp only [Act.put]
  rw [getD_set hd, if_neg (fun e => ht (by rw [e]))]
theorem good_taken {d : Tmp} {c : CV} {S : Nat → Prop} {v : Value} (h : Rel arg W I O s a.tmps w) (hd : d < a.tmps.size) (hc : RepC arg w I c v S) (h' : Rel arg W I O' s' a.tmps w) (ho : Out O O' S) :
  Good arg W I O w a (s'.put d (.v c)) (some d) (a.put (some d) v) w := good_takenA h hd hc (fun _ _ _ h => by cases h) h' ho

theorem sound_mv {o : Oper} {d : Tmp} {x : Operand} {X : VS.X} (ho : o.op = .move x) (hd : o.dst = some d) (hx : compX P o.type x = some X) : Sound1 P arg W G F o (.mv d X) := by
 intro I O s s' a w K Q h hdl hv hk
 replace hdl := hdl d rfl
 have hX := compX_val hx a
 refine oper_value (exec_move (.inl ho)) (hk _ _ ?_)
 rw [hd]
 show Good arg W I O w a s' (some d) _ _
 simp only [vop] at hv
 cases hval : s.val X with
 | v c =>
  rw [hval] at hv
  simp only at hv
  split at hv
  ·rename_i hsh
   obtain rfl := (Option.some.inj hv).symm
   obtain ⟨t, S, h1, h2⟩ := h.look hX (c := c) (by rw [hval]; rfl)
   exact good_free h hdl (Below.refl _ _) (h1.unowned hsh) (fun _ _ _ h => by cases h)
  ·cases X with
   | c c0 =>
    obtain rfl := (Option.some.inj hv).symm
    simp only [RS.val, AV.v.injEq] at hval
    subst hval
    exact good_free h hdl (Below.refl _ _) (hX arg w I) (fun _ _ _ h => by cases h)
   | t t =>
    simp only [XV] at hX
    rw [hX]
    simp only [RS.val] at hval
    cases c with
    | leaf l =>
     obtain rfl := (Option.some.inj hv).symm
     exact good_free h hdl (Below.refl _ _) (root_ld h hval) (fun _ _ _ h => by cases h)
    | agg ls =>
     obtain rfl := (Option.some.inj hv).symm
     exact good_free h hdl (Below.refl _ _) (root_ldA h hval) (fun _ _ _ h => by cases h)
    | box row =>
     obtain rfl := (Option.some.inj hv).symm
     obtain ⟨b, h1, h2⟩ := root_ptr h hval (.inl ⟨_, rfl⟩) 0
     rw [h1]
     exact good_free h hdl (Below.refl _ _) h2 (fun r p o he _ => by cases he; exact ⟨_, hval⟩)
    | pbox t0 row =>
     obtain rfl := (Option.some.inj hv).symm
     obtain ⟨b, h1, h2⟩ := root_ptr h hval (.inr ⟨_, _, rfl⟩) 0
     rw [h1]
     exact good_free h hdl (Below.refl _ _) h2 (fun r p o he _ => by cases he; exact ⟨_, hval⟩)
    | gone => cases hv
 | bad => rw [hval] at hv; cases hv
 | tup cs =>
  cases X with
  | c c0 => cases hval
  | t t =>
   rw [hval] at hv
   simp only at hv
   split at hv
   ·cases hv
   ·rename_i hdt
    obtain rfl := (Option.some.inj hv).symm
    simp only [RS.val] at hval
    simp only [XV] at hX
    rw [hX]
    have hr := h.rep t
    rw [hval] at hr
    refine good_takenA (S := O t) h hdl hr (fun _ _ _ h => by cases h) (h.strike t _ rfl) ⟨fun b hb => ⟨t, hb⟩, fun t' b hb => ?_, fun t' b hb hb' => ?_⟩
    ·by_cases ht : t' = t
     ·simp only [ht, if_true] at hb
     ·simp only [ht, if_false] at hb; exact hb
    ·by_cases ht : t' = t
     ·simp only [ht, if_true] at hb
     ·simp only [ht, if_false] at hb; exact ht (h.disj t' t b hb hb')
 | un =>
  cases X with
  | c c0 => cases hval
  | t t =>
   rw [hval] at hv
   obtain rfl := (Option.some.inj hv).symm
   simp only [RS.val] at hval
   simp only [XV] at hX
   rw [hX]
   have := h.rep t
   rw [hval] at this
   exact good_free h hdl (Below.refl _ _) this (fun _ _ _ h => by cases h)
 | ptr r p of =>
  cases X with
  | c c0 => cases hval
  | t t =>
   rw [hval] at hv
   obtain rfl := (Option.some.inj hv).symm
   simp only [RS.val] at hval
   simp only [XV] at hX
   rw [hX]
   exact good_free h hdl (Below.refl _ _) (rel_ptr h hval) (fun r p o he hc => by cases he; exact ptr_root h hval hc)
 | iptr row of =>
  cases X with
  | c c0 => cases hval
  | t t =>
   rw [hval] at hv
   obtain rfl := (Option.some.inj hv).symm
   simp only [RS.val] at hval
   simp only [XV] at hX
   rw [hX]
   exact good_free h hdl (Below.refl _ _) (rel_iptr h hval) (fun _ _ _ h => by cases h)
 | ld r p of n g =>
  cases X with
  | c c0 => cases hval
  | t t =>
   rw [hval] at hv
   obtain rfl := (Option.some.inj hv).symm
   simp only [RS.val] at hval
   simp only [XV] at hX
   rw [hX]
   exact good_free h hdl (Below.refl _ _) (rel_ld h hval) (fun _ _ _ h => by cases h)

theorem sound_asg {o : Oper} {d : Tmp} {x : Operand} {X : VS.X} (ho : o.op = .assign x) (hd : o.dst = some d) (hx : compX P o.type x = some X) : Sound1 P arg W G F o (.asg d X) := by
 intro I O s s' a w K Q h hdl hv hk
 replace hdl := hdl d rfl
 have hX := compX_val hx a
 refine oper_value (exec_move (.inr ho)) (hk _ _ ?_)
 rw [hd]
 show Good arg W I O w a s' (some d) _ _
 simp only [vop] at hv
 have htake : (match s.take X with | some (c, s') => some (s'.put d (.v c)) | none => none) = some s' → Good arg W I O w a s' (some d) (a.put (some d) (a.eval x)) w := by
  intro hv
  split at hv
  ·rename_i c s1 ht
   obtain rfl := (Option.some.inj hv).symm
   obtain ⟨S, O', h1, h2, h3⟩ := h.take hX ht
   exact good_taken h hdl h1 h2 h3
  ·cases hv
 cases hval : s.val X with
 | ptr r p of =>
  cases X with
  | c c0 => cases hval
  | t t =>
   rw [hval] at hv
   obtain rfl := (Option.some.inj hv).symm
   simp only [RS.val] at hval
   simp only [XV] at hX
   rw [hX]
   exact good_free h hdl (Below.refl _ _) (rel_ptr h hval) (fun r p o he hc => by cases he; exact ptr_root h hval hc)
 | iptr row of =>
  cases X with
  | c c0 => cases hval
  | t t =>
   rw [hval] at hv
   obtain rfl := (Option.some.inj hv).symm
   simp only [RS.val] at hval
   simp only [XV] at hX
   rw [hX]
   exact good_free h hdl (Below.refl _ _) (rel_iptr h hval) (fun _ _ _ h => by cases h)
 | _ => rw [hval] at hv; exact htake hv

theorem sound_bad {o : Oper} {d : Tmp} {x : Operand} (ho : o.op = .assign x) (hd : o.dst = some d) : Sound1 P arg W G F o (.bad d) := by
 intro I O s s' a w K Q h hdl hv hk
 replace hdl := hdl d rfl
 refine oper_value (exec_move (.inr ho)) (hk _ _ ?_)
 rw [hd]
 obtain rfl := (Option.some.inj hv).symm
 exact good_free h hdl (Below.refl _ _) trivial (fun _ _ _ h => by cases h)

theorem sound_pick {o : Oper} {d : Tmp} {c x y : Operand} {Xc Xx Xy : VS.X} (ho : o.op = .pick c x y) (hd : o.dst = some d) (hc : compX P 0 c = some Xc) (hx : compX P o.type x = some Xx) (hy : compX P o.type y = some Xy) :
  Sound1 P arg W G F o (.pick d Xc Xx Xy) := by
 intro I O s s' a w K Q h hdl hv hk
 replace hdl := hdl d rfl
 simp only [vop] at hv
 split at hv
 ·rename_i t ht
  have hcv := look_bool h (compX_val hc a) ht
  split at hv
  ·rename_i v hlv
   split at hv
   ·rename_i hsh
    obtain rfl := (Option.some.inj hv).symm
    have hrun : (execOp a.eval o).run P w = .ok (.value (if t then a.eval x else a.eval y)) w := by
     simp [execOp, ho, hcv, asBool]
    refine oper_value hrun (hk _ _ ?_)
    rw [hd]
    cases t with
    | true =>
     obtain ⟨_, _, h1, _⟩ := h.look (compX_val hx a) hlv
     exact good_free h hdl (Below.refl _ _) (h1.unowned hsh) (fun _ _ _ h => by cases h)
    | false =>
     obtain ⟨_, _, h1, _⟩ := h.look (compX_val hy a) hlv
     exact good_free h hdl (Below.refl _ _) (h1.unowned hsh) (fun _ _ _ h => by cases h)
   ·cases hv
  ·cases hv
 ·cases hv

theorem sound_bin {o : Oper} {d : Tmp} {op : BinOp} {t ty : TypeId} {x y : Operand} {X Y : VS.X} (ho : o.op = .binOp op t x y ty) (hd : o.dst = some d) (hx : compX P t x = some X) (hy : compX P t y = some Y) :
  Sound1 P arg W G F o (.bin d op X Y) := by
 intro I O s s' a w K Q h hdl hv hk
 replace hdl := hdl d rfl
 simp only [vop] at hv
 split at hv
 ·rename_i la lb h1 h2
  split at hv
  ·rename_i r hr
   obtain rfl := (Option.some.inj hv).symm
   obtain ⟨_, _, _, ra, _⟩ := look_leaf h (compX_val hx a) h1
   obtain ⟨_, _, _, rb, _⟩ := look_leaf h (compX_val hy a) h2
   obtain ⟨v, e1, e2, e3⟩ := vbin_run (P := P) (t := t) (x := x) (y := y) ra rb hr
   have hrun : (execOp a.eval o).run P w = .ok (.value v) w := by
    simp only [execOp, ho]
    rw [Sem.run_bind, e1]
    rfl
   refine oper_value hrun (hk _ _ ?_)
   rw [hd]
   exact good_free h hdl (Below.refl _ _) ⟨e2, e3⟩ (fun _ _ _ h => by cases h)
  ·cases hv
 ·cases hv

theorem sound_eqb {o : Oper} {d : Tmp} {op : BinOp} {neg : Bool} {t ty : TypeId} {x y : Operand} {X Y : VS.X} (ho : o.op = .binOp op t x y ty) (hd : o.dst = some d) (hx : compX P t x = some X) (hy : compX P t y = some Y)
  (ht : P.underlying t = some .bool) (hop : op = if neg then .neq else .eql) : Sound1 P arg W G F o (.eqb d neg X Y) := by
 intro I O s s' a w K Q h hdl hv hk
 replace hdl := hdl d rfl
 simp only [vop] at hv
 split at hv
 ·rename_i p q h1 h2
  obtain rfl := (Option.some.inj hv).symm
  have hp := look_bool h (compX_val hx a) h1
  have hq := look_bool h (compX_val hy a) h2
  have heq : (Op.equal t (.bool p) (.bool q)).run P w = .ok (p == q) w := by
   have hu : (underlying t).run P w = .ok .bool w := by simp [underlying, ht]
   unfold Op.equal Op.maxDepth
   rw [show (10000 : Nat) = 9999 + 1 from rfl]
   unfold Op.equalIn
   rw [Sem.run_bind, hu]
   rfl
  have hrun : (execOp a.eval o).run P w = .ok (.value (.bool (if neg then !(p == q) else (p == q)))) w := by
   simp only [execOp, ho, hp, hq]
   subst hop
   cases neg
   ·simp only [Bool.false_eq_true, if_false]
    rw [Sem.run_bind, Sem.run_bind, show (eqGuard .eql t x y (.bool p) (.bool q)).run P w = .ok () w from rfl, Result.andThen_ok]
    simp only [binOp]
    rw [Sem.run_bind, heq]
    rfl
   ·simp only [if_true]
    rw [Sem.run_bind, Sem.run_bind, show (eqGuard .neq t x y (.bool p) (.bool q)).run P w = .ok () w from rfl, Result.andThen_ok]
    simp only [binOp]
    rw [Sem.run_bind, heq]
    rfl
  refine oper_value hrun (hk _ _ ?_)
  rw [hd]
  exact good_bool h hdl
 ·cases hv

theorem sound_un {o : Oper} {d : Tmp} {op : UnOp} {t : TypeId} {x : Operand} {X : VS.X} (ho : o.op = .unOp op t x) (hd : o.dst = some d) (hx : compX P 0 x = some X) : Sound1 P arg W G F o (.un d op X) := by
 intro I O s s' a w K Q h hdl hv hk
 replace hdl := hdl d rfl
 simp only [vop] at hv
 split at hv
 ·rename_i k n hl
  have hxv := look_int h (compX_val hx a) hl
  cases op <;> simp only at hv <;> try (cases hv; done)
  obtain rfl := (Option.some.inj hv).symm
  have hrun : (execOp a.eval o).run P w = .ok (.value (.int k (k.wrap (0 - n)))) w := by
   simp [execOp, ho, hxv, Op.unary, Op.intArith]
  refine oper_value hrun (hk _ _ ?_)
  rw [hd]
  exact good_int h hdl
 ·rename_i b hl
  have hxv := look_bool h (compX_val hx a) hl
  cases op <;> simp only at hv <;> try (cases hv; done)
  obtain rfl := (Option.some.inj hv).symm
  have hrun : (execOp a.eval o).run P w = .ok (.value (.bool (!b))) w := by
   simp [execOp, ho, hxv, Op.unary]
  refine oper_value hrun (hk _ _ ?_)
  rw [hd]
  exact good_bool h hdl
 ·cases hv

theorem sound_conv {o : Oper} {d : Tmp} {src dst : TypeId} {k j : IntKind} {x : Operand} {X : VS.X} (ho : o.op = .convert src dst x) (hd : o.dst = some d) (hs : P.underlying src = some (.int j)) (hdst : P.underlying dst = some (.int k)) (hx : compX P src x = some X) :
  Sound1 P arg W G F o (.conv d k X) := by
 intro I O s s' a w K Q h hdl hv hk
 replace hdl := hdl d rfl
 simp only [vop] at hv
 split at hv
 ·rename_i k' n hl
  obtain rfl := (Option.some.inj hv).symm
  have hxv := int_val h (compX_val hx a) hl
  have hrun : (execOp a.eval o).run P w = .ok (.value (.int k (k.wrap n))) w := by
   simp [execOp, ho, hxv, convert, underlying, hs, hdst, Conv.intToInt]
  refine oper_value hrun (hk _ _ ?_)
  rw [hd]
  exact good_int h hdl
 ·cases hv

theorem sound_min {o : Oper} {d : Tmp} {ts : Array TypeId} {x y : Operand} {X Y : VS.X} (ho : o.op = .call { callee := .builtin .min, args := #[x, y], argTypes := ts }) (hd : o.dst = some d) (hx : compX P 0 x = some X) (hy : compX P 0 y = some Y) :
  Sound1 P arg W G F o (.min d X Y) := by
 intro I O s s' a w K Q h hdl hv hk
 replace hdl := hdl d rfl
 simp only [vop] at hv
 split at hv
 ·rename_i k p k' q h1 h2
  obtain rfl := (Option.some.inj hv).symm
  have hp := int_val h (compX_val hx a) h1
  have hq := int_val h (compX_val hy a) h2
  have hrun : (execOp a.eval o).run P w = .ok (.value (.int k (if q < p then q else p))) w := by
   simp [execOp, ho, resolve, invoke, builtin, hp, hq, Builtin.min_, Builtin.min2]
  refine oper_value hrun (hk _ _ ?_)
  rw [hd]
  exact good_int h hdl
 ·cases hv

theorem sound_max {o : Oper} {d : Tmp} {ts : Array TypeId} {x y : Operand} {X Y : VS.X} (ho : o.op = .call { callee := .builtin .max, args := #[x, y], argTypes := ts }) (hd : o.dst = some d) (hx : compX P 0 x = some X) (hy : compX P 0 y = some Y) :
  Sound1 P arg W G F o (.max d X Y) := by
 intro I O s s' a w K Q h hdl hv hk
 replace hdl := hdl d rfl
 simp only [vop] at hv
 split at hv
 ·rename_i k p k' q h1 h2
  obtain rfl := (Option.some.inj hv).symm
  have hp := int_val h (compX_val hx a) h1
  have hq := int_val h (compX_val hy a) h2
  have hrun : (execOp a.eval o).run P w = .ok (.value (.int k (if p < q then q else p))) w := by
   simp [execOp, ho, resolve, invoke, builtin, hp, hq, Builtin.max_, Builtin.max2]
  refine oper_value hrun (hk _ _ ?_)
  rw [hd]
  exact good_int h hdl
 ·cases hv

end Go.VS

/- Operations that turn no place, second part: reading memory, new blocks. -/
namespace Go.VS
open Go Go.RowKit
set_option linter.unusedSimpArgs false
set_option linter.unusedVariables false

variable {P : Program} {arg : Tmp → Value} {W w w' : World} {I I' : Nat → Prop} {O O' : Tmp → Nat → Prop} {s s' : RS} {a : Act} {K : Act → World → Prop} {Q : Exit → Act → World → Prop} {G : Sigs} {F : Fns}

theorem add_at (b q j : Nat) : (⟨b, q, none⟩ : Addr).add j = ⟨b, q + j, none⟩ := by
 unfold Addr.add
 split <;> simp_all

/-- The place of an address, in memory. -/
theorem place_addr (h : Rel arg W I O s a.tmps w) {X : VS.X} {v : Value} (hX : XV a.tmps X v) {r : Tmp} {p : List (Nat × Nat)} {o : Nat} (hp : s.place X = some (r, p, o)) :
  ∃ b o' row', Roots w s.e a.tmps r p (.addr b o') row' ∧ v = .pointer (some ⟨b, o' + o, none⟩) := by
 cases X with
 | c c => cases hp
 | t t =>
  simp only [XV] at hX
  subst hX
  simp only [RS.place] at hp
  split at hp
  ·rename_i row hg
   simp only [Option.some.injEq, Prod.mk.injEq] at hp
   obtain ⟨rfl, rfl, rfl⟩ := hp
   have hr := h.rep t
   rw [hg] at hr
   obtain ⟨b, cs, e, hv, _⟩ := hr
   refine ⟨b, 0, row, ⟨_, hg, ?_⟩, hv⟩
   rw [hv]
   exact .nil ..
  ·rename_i t0 row hg
   simp only [Option.some.injEq, Prod.mk.injEq] at hp
   obtain ⟨rfl, rfl, rfl⟩ := hp
   have hr := h.rep t
   rw [hg] at hr
   obtain ⟨b, cs, e, hv, _⟩ := hr
   refine ⟨b, 0, row, ⟨_, hg, ?_⟩, hv⟩
   rw [hv]
   exact .nil ..
  ·rename_i r' p' o' hg
   split at hp
   ·rename_i hc
    simp only [Option.some.injEq, Prod.mk.injEq] at hp
    obtain ⟨rfl, rfl, rfl⟩ := hp
    obtain ⟨b, o2, row', h1, h2⟩ := rel_ptr h hg hc
    exact ⟨b, o2, row', h1, h2⟩
   ·cases hp
  ·cases hp

theorem run_isAgg {t : TypeId} {g : Bool} (hg : aggB P t = some g) : (isAgg t).run P w = .ok g w := by
 unfold aggB at hg
 cases hu : P.underlying t with
 | none => rw [hu] at hg; cases hg
 | some D =>
  rw [hu] at hg
  simp only [Option.map_some, Option.some.injEq] at hg
  unfold isAgg underlying
  simp only [Sem.run_bind, run_program, Result.andThen_ok, hu]
  cases D <;> subst hg <;> rfl
theorem run_sizeOf {t : TypeId} {n : Nat} (hn : sizeB P t = some n) : (sizeOf t).run P w = .ok n w := by
 unfold sizeB at hn
 cases hi : P.info? t with
 | none => rw [hi] at hn; cases hn
 | some i =>
  rw [hi] at hn
  simp only [Option.map_some, Option.some.injEq] at hn
  unfold sizeOf typeInfo
  simp [hi, hn]

/-- Cells that are there are loaded. -/
theorem run_loadVar_at {t : TypeId} {n : Nat} {g : Bool} (hn : sizeB P t = some n) (hg : aggB P t = some g) (h1 : g = true ∨ n = 1) (b q : Nat) (hc : ∀ j, j < n → ∃ v, w.cell? ⟨b, q + j, none⟩ = some v) :
  ∃ v, (loadVar t ⟨b, q, none⟩).run P w = .ok v w ∧ Loaded (fun j => w.cell? ⟨b, q + j, none⟩) 0 n g v := by
 cases g with
 | false =>
  have hn1 : n = 1 := h1.resolve_left (by simp)
  obtain ⟨v, hv⟩ := hc 0 (by omega)
  rw [Nat.add_zero] at hv
  refine ⟨v, ?_, And.intro (fun h => by cases h) (fun _ => ⟨hn1, by simpa using hv⟩)⟩
  unfold loadVar
  rw [Sem.run_bind, run_isAgg hg, Result.andThen_ok]
  simp [run_load, hv]
 | true =>
  let cs : List Value := (List.range n).map fun j => (w.cell? ⟨b, q + j, none⟩).getD undef
  have hlen : cs.length = n := by simp [cs]
  have hget : ∀ j, j < n → cs[j]? = w.cell? ⟨b, q + j, none⟩ := fun j hj => by
   obtain ⟨v, hv⟩ := hc j hj
   simp [cs, hj, hv]
  have hl := run_loadCells_list (P := P) w ⟨b, q, none⟩ cs (fun j v hj => by
   have hjn : j < n := by rw [← hlen]; exact (List.getElem?_eq_some_iff.1 hj).1
   rw [add_at, ← hget j hjn]
   exact hj)
  refine ⟨.agg cs.toArray, ?_, And.intro (fun _ => ⟨cs.toArray, rfl, by simp [hlen], fun j hj => ?_⟩) (fun h => by cases h)⟩
  ·unfold loadVar
   rw [Sem.run_bind, run_isAgg hg, Result.andThen_ok]
   simp only [if_true]
   rw [Sem.run_bind, run_sizeOf hn, Result.andThen_ok, Sem.run_bind, ← hlen, hl]
   rfl
  ·rw [Nat.zero_add]
   simpa using hget j hj

theorem loaded_shift {f g : Nat → Option Value} {o n : Nat} {agg : Bool} {v : Value} (h : Loaded f 0 n agg v) (hfg : ∀ j, f j = g (o + j)) : Loaded g o n agg v := by
 refine ⟨fun ha => ?_, fun ha => ?_⟩
 ·obtain ⟨cs, h1, h2, h3⟩ := h.1 ha
  exact ⟨cs, h1, h2, fun j hj => by rw [h3 j hj, hfg]; congr 1; omega⟩
 ·obtain ⟨h1, h2⟩ := h.2 ha
  refine ⟨h1, ?_⟩
  rw [← h2, hfg]
  rfl

theorem row_cells {row : List L} {get : Nat → Option Value} {S : Nat → Prop} (h : RepRow w I row get S) {j : Nat} (hj : j < row.length) : ∃ v, get j = some v ∧ v.oneCell' = true := by
 obtain ⟨D, _, _, h3⟩ := h
 obtain ⟨v, h1, h2, _⟩ := h3 j _ (List.getElem?_eq_getElem hj)
 exact ⟨v, h1, h2⟩

theorem sound_load {o : Oper} {d : Tmp} {t : TypeId} {x : Operand} {X : VS.X} {n : Nat} {g : Bool} (ho : o.op = .load t x) (hd : o.dst = some d) (hx : compX P 0 x = some X) (hn : sizeB P t = some n) (hg : aggB P t = some g) (h1 : g = true ∨ n = 1) :
  Sound1 P arg W G F o (.load d X n g) := by
 intro I O s s' a w K Q h hdl hv hk
 replace hdl := hdl d rfl
 have hX := compX_val hx a
 have hn1 : g = false → n = 1 := fun hf => h1.resolve_left (by simp [hf])
 simp only [vop] at hv
 split at hv
 ·rename_i r p off hpl
  obtain ⟨b, o', row', hroot, hval⟩ := place_addr h hX hpl
  split at hv
  ·rename_i row hsl
   obtain ⟨c, B', S', hc, f1, f2, f3, f4, f5⟩ := h.slot hsl
   obtain ⟨rfl, rfl⟩ := hroot.unique hc f1
   split at hv
   ·rename_i c0 hcells
    obtain ⟨hrow, hfit⟩ := cells_row hcells hn1
    obtain ⟨v, hrun, hl⟩ := run_loadVar_at (P := P) (w := w) hn hg h1 b (o' + off) (fun j hj => by
     obtain ⟨v, hv, _⟩ := row_cells f2 (j := off + j) (by omega)
     exact ⟨v, by rw [Nat.add_assoc]; exact hv⟩)
    have hl' : Loaded ((Base.addr b o').get w) off n g v := loaded_shift hl (fun j => by simp only [Base.get, Nat.add_assoc])
    have hex : (execOp a.eval o).run P w = .ok (.value v) w := by
     simp only [execOp, ho, hval, Instr.loadAt, Instr.sureAddr, Sem.run_bind, Sem.run_pure, Result.andThen_ok, hrun]
    refine oper_value hex (hk _ _ ?_)
    rw [hd]
    split at hv
    ·rename_i hsh
     obtain rfl := (Option.some.inj hv).symm
     exact good_free h hdl (Below.refl _ _) ((cells_rep (arg := arg) f2 hcells hl').unowned hsh) (fun _ _ _ h => by cases h)
    ·obtain rfl := (Option.some.inj hv).symm
     exact good_free h hdl (Below.refl _ _) (fun _ => ⟨_, row', hroot, hfit, hl'⟩) (fun _ _ _ h => by cases h)
   ·cases hv
  ·cases hv
 ·rename_i hpl
  split at hv
  ·rename_i row off hval
   split at hv
   ·rename_i c0 hcells
    split at hv
    case isFalse => cases hv
    obtain rfl := (Option.some.inj hv).symm
    cases X with
    | c c => cases hval
    | t t0 =>
     simp only [RS.val] at hval
     simp only [XV] at hX
     obtain ⟨b, o', hI, hvv, hrep⟩ := rel_iptr h hval
     obtain ⟨hrow, hfit⟩ := cells_row hcells hn1
     obtain ⟨v, hrun, hl⟩ := run_loadVar_at (P := P) (w := w) hn hg h1 b (o' + off) (fun j hj => by
      obtain ⟨v, hv, _⟩ := row_cells hrep (j := off + j) (by omega)
      exact ⟨v, by rw [Nat.add_assoc]; exact hv⟩)
     have hl' : Loaded ((Base.addr b o').get w) off n g v := loaded_shift hl (fun j => by simp only [Base.get, Nat.add_assoc])
     have hex : (execOp a.eval o).run P w = .ok (.value v) w := by
      simp only [execOp, ho, hX, hvv, Instr.loadAt, Instr.sureAddr, Sem.run_bind, Sem.run_pure, Result.andThen_ok, hrun]
     refine oper_value hex (hk _ _ ?_)
     rw [hd]
     exact good_free h hdl (Below.refl _ _) (cells_rep (arg := arg) hrep hcells hl') (fun _ _ _ h => by cases h)
   ·cases hv
  ·cases hv

theorem sound_nil {o : Oper} {d : Tmp} {x : Operand} {X : VS.X} (ho : o.op = .nilCheck x) (hd : o.dst = some d) (hx : compX P 0 x = some X) : Sound1 P arg W G F o (.nil d X) := by
 intro I O s s' a w K Q h hdl hv hk
 replace hdl := hdl d rfl
 have hX := compX_val hx a
 have hex : ∀ q, a.eval x = .pointer (some q) → (execOp a.eval o).run P w = .ok (.value (.pointer (some q))) w := fun q hq => by simp [execOp, ho, hq]
 simp only [vop] at hv
 cases X with
 | c c =>
  simp only [RS.val] at hv
  cases c with
  | leaf l => cases l <;> cases hv
  | _ => cases hv
 | t t =>
  simp only [XV] at hX
  simp only [RS.val] at hv
  cases hval : s.e.get t with
  | v c =>
   rw [hval] at hv
   cases c with
   | box row =>
    obtain rfl := (Option.some.inj hv).symm
    obtain ⟨b, h1, h2⟩ := root_ptr h hval (.inl ⟨_, rfl⟩) 0
    refine oper_value (hex _ (hX.trans h1)) (hk _ _ ?_)
    rw [hd]
    exact good_free h hdl (Below.refl _ _) h2 (fun r p o he _ => by cases he; exact ⟨_, hval⟩)
   | pbox t0 row =>
    obtain rfl := (Option.some.inj hv).symm
    obtain ⟨b, h1, h2⟩ := root_ptr h hval (.inr ⟨_, _, rfl⟩) 0
    refine oper_value (hex _ (hX.trans h1)) (hk _ _ ?_)
    rw [hd]
    exact good_free h hdl (Below.refl _ _) h2 (fun r p o he _ => by cases he; exact ⟨_, hval⟩)
   | leaf l =>
    cases l with
    | fn f vs =>
     obtain rfl := (Option.some.inj hv).symm
     have hr := h.rep t
     rw [hval] at hr
     replace hr : RepC arg w I (.leaf (.fn f vs)) (a.tmps.getD t undef) (O t) := hr
     have he : a.eval x = .func (.func f) #[] vs.toArray ∧ ∀ v ∈ vs, v.oneCell' = true := by
      have h2 := hr.2
      rw [← hX] at h2
      generalize a.eval x = u at h2
      cases h2 with
      | fn f vs S h => exact ⟨rfl, h⟩
     obtain ⟨he, hone⟩ := he
     have hrun : (execOp a.eval o).run P w = .ok (.value (.func (.func f) #[] vs.toArray)) w := by simp [execOp, ho, he]
     refine oper_value hrun (hk _ _ ?_)
     rw [hd]
     exact good_free h hdl (Below.refl _ _) ⟨rfl, .fn _ _ _ hone⟩ (fun _ _ _ h => by cases h)
    | _ => cases hv
   | _ => cases hv
  | ptr r p of =>
   rw [hval] at hv
   simp only at hv
   split at hv
   ·rename_i hcl
    obtain rfl := (Option.some.inj hv).symm
    obtain ⟨b, o', row', k1, k2⟩ := rel_ptr h hval hcl
    refine oper_value (hex _ (hX.trans k2)) (hk _ _ ?_)
    rw [hd, ← k2]
    exact good_free h hdl (Below.refl _ _) (rel_ptr h hval) (fun r p o he hc => by cases he; exact ptr_root h hval hc)
   ·cases hv
  | iptr row of =>
   rw [hval] at hv
   obtain rfl := (Option.some.inj hv).symm
   obtain ⟨b, o', h1, h2, h3⟩ := rel_iptr h hval
   refine oper_value (hex _ (hX.trans h2)) (hk _ _ ?_)
   rw [hd]
   exact good_free h hdl (Below.refl _ _) ⟨b, o', h1, rfl, h3⟩ (fun _ _ _ h => by cases h)
  | _ => rw [hval] at hv; cases hv

theorem sound_fld {o : Oper} {d : Tmp} {t : TypeId} {x : Operand} {f : Nat} {X : VS.X} {fs : Array Field} {fd : Field} {n : Nat} (ho : o.op = .fieldAddr t x f) (hd : o.dst = some d) (hx : compX P 0 x = some X)
  (ht : P.underlying t = some (.struct fs)) (hf : fs[f]? = some fd) (hn : sizeB P fd.type = some (n + 1)) : Sound1 P arg W G F o (.fld d X fd.offset) := by
 intro I O s s' a w K Q h hdl hv hk
 replace hdl := hdl d rfl
 have hX := compX_val hx a
 have hex : ∀ b q, a.eval x = .pointer (some ⟨b, q, none⟩) → (execOp a.eval o).run P w = .ok (.value (.pointer (some ⟨b, q + fd.offset, none⟩))) w := fun b q hq => by
  have hsz := run_sizeOf (w := w) hn
  simp only [execOp, ho, hq, Instr.fieldAt]
  rw [Sem.run_bind, Sem.run_bind, run_underlying ht, Result.andThen_ok]
  simp only [hf, Instr.sureAddr, Sem.run_bind, Sem.run_pure, Result.andThen_ok, fieldPlace, hsz]
  simp [add_at]
 simp only [vop] at hv
 cases X with
 | c c => simp only [RS.val] at hv; cases c <;> cases hv
 | t t0 =>
  simp only [XV] at hX
  simp only [RS.val] at hv
  cases hval : s.e.get t0 with
  | v c =>
   rw [hval] at hv
   cases c with
   | box row =>
    obtain rfl := (Option.some.inj hv).symm
    obtain ⟨b, h1, h2⟩ := root_ptr h hval (.inl ⟨_, rfl⟩) fd.offset
    refine oper_value (hex _ _ (hX.trans h1)) (hk _ _ ?_)
    rw [hd, Nat.zero_add]
    exact good_free h hdl (Below.refl _ _) h2 (fun r p o he _ => by cases he; exact ⟨_, hval⟩)
   | pbox t1 row =>
    obtain rfl := (Option.some.inj hv).symm
    obtain ⟨b, h1, h2⟩ := root_ptr h hval (.inr ⟨_, _, rfl⟩) fd.offset
    refine oper_value (hex _ _ (hX.trans h1)) (hk _ _ ?_)
    rw [hd, Nat.zero_add]
    exact good_free h hdl (Below.refl _ _) h2 (fun r p o he _ => by cases he; exact ⟨_, hval⟩)
   | _ => cases hv
  | ptr r p of =>
   rw [hval] at hv
   simp only at hv
   split at hv
   ·rename_i hcl
    obtain rfl := (Option.some.inj hv).symm
    obtain ⟨b, o', row', k1, k2⟩ := rel_ptr h hval hcl
    refine oper_value (hex _ _ (hX.trans k2)) (hk _ _ ?_)
    rw [hd]
    exact good_free h hdl (Below.refl _ _) (fun _ => ⟨b, o', row', k1, by rw [Nat.add_assoc]⟩) (fun r p o he hc => by cases he; exact ptr_root h hval hc)
   ·cases hv
  | iptr row of =>
   rw [hval] at hv
   obtain rfl := (Option.some.inj hv).symm
   obtain ⟨b, o', h1, h2, h3⟩ := rel_iptr h hval
   refine oper_value (hex _ _ (hX.trans h2)) (hk _ _ ?_)
   rw [hd]
   exact good_free h hdl (Below.refl _ _) ⟨b, o', h1, by rw [Nat.add_assoc], h3⟩ (fun _ _ _ h => by cases h)
  | _ => rw [hval] at hv; cases hv

theorem sound_idx {o : Oper} {d : Tmp} {t e : TypeId} {x i : Operand} {X Y : VS.X} {sz : Nat} (ho : o.op = .indexAddr t x i) (hd : o.dst = some d) (hx : compX P t x = some X) (hi : compX P 0 i = some Y)
  (ht : P.underlying t = some (.slice e)) (hn : sizeB P e = some sz) : Sound1 P arg W G F o (.idx d X Y sz) := by
 intro I O s s' a w K Q h hdl hv hk
 replace hdl := hdl d rfl
 have hX := compX_val hx a
 have hex : ∀ b q len cap k (n : Int), a.eval x = .slice (some ⟨b, q, none⟩) len cap → a.eval i = .int k n → 0 ≤ n → n.toNat < len → (execOp a.eval o).run P w = .ok (.value (.pointer (some ⟨b, q + n.toNat * sz, none⟩))) w := fun b q len cap k n hq hi0 h0 h1 => by
  have hsz := run_sizeOf (w := w) hn
  have hlt : n < (len : Int) := by omega
  simp only [execOp, ho, hq, hi0, Instr.indexAt, asIntOf]
  simp [run_underlying ht, hsz, h0, hlt, add_at]
 simp only [vop] at hv
 split at hv
 ·rename_i k n hint
  have hiv := int_val h (compX_val hi a) hint
  split at hv
  ·rename_i own sz' rows hlk
   split at hv
   ·rename_i hcond
    obtain ⟨h0, rfl⟩ := hcond
    split at hv
    ·rename_i row hrow
     have hlt := (List.getElem?_eq_some_iff.1 hrow).1
     split at hv
     ·rename_i hown
      subst hown
      cases X with
      | c c => cases hv
      | t t0 =>
       simp only [XV] at hX
       simp only at hv
       simp only [RS.val] at hlk
       cases hval : s.e.get t0 with
       | v c =>
        rw [hval] at hv hlk
        obtain rfl := (Option.some.inj hv).symm
        simp only [RS.look, Option.some.injEq] at hlk
        subst hlk
        have hr := h.rep t0
        rw [hval] at hr
        obtain ⟨_, hr2⟩ := hr
        cases hvv : a.tmps.getD t0 undef with
        | slice ad len cap =>
         rw [hvv] at hr2
         cases hr2 with
         | nil => simp at hrow
         | own _ _ _ b _ cs e' cv D hS hlen hcap hb hcs hsz hcv hD hdis hrep =>
          refine oper_value (hex b 0 _ _ _ _ (hX.trans hvv) hiv h0 hlt) (hk _ _ ?_)
          rw [hd, Nat.zero_add]
          refine good_free h hdl (Below.refl _ _) (fun _ => ⟨b, n.toNat * sz', row, ⟨_, hval, ?_⟩, by simp⟩) (fun r p o he hc => by cases he; exact ⟨_, hval⟩)
          rw [hvv]
          exact .step _ _ _ _ _ _ _ sz' rows row b _ _ rfl hrow rfl (.nil ..)
        | _ => rw [hvv] at hr2; cases hr2
       | ld r p of n2 g =>
        rw [hval] at hv hlk
        obtain rfl := (Option.some.inj hv).symm
        have hl0 := hlk
        simp only [RS.look] at hlk
        split at hlk
        ·rename_i hcl
         split at hlk
         ·rename_i row1 hsl
          obtain ⟨B, row', k1, k0, k2, k3⟩ := rel_ld h hval hcl
          obtain ⟨c1, B', S', hc, f1, f2, f3, f4, f5⟩ := h.slot hsl
          obtain ⟨rfl, rfl⟩ := k1.unique hc f1
          cases g with
          | true =>
           simp only [cellsOf, if_true] at hlk
           split at hlk <;> cases hlk
          | false =>
           obtain ⟨hn1, hcell⟩ := k3 rfl
           simp only [cellsOf, if_false, Bool.false_eq_true] at hlk
           split at hlk
           ·rename_i l hl
            simp only [Option.some.injEq, CV.leaf.injEq] at hlk
            subst hlk
            obtain ⟨D, d1, d2, d3⟩ := f2
            obtain ⟨u, u1, u2, u3⟩ := d3 of _ hl
            rw [hcell] at u1
            obtain rfl := Option.some.inj u1
            cases hvv : a.tmps.getD t0 undef with
            | slice ad len cap =>
             rw [hvv] at u3 hcell
             cases u3 with
             | nil => simp at hrow
             | own _ _ _ b _ cs e' cv D' hS hlen hcap hb hcs hsz hcv hD hdis hrep =>
              refine oper_value (hex b 0 _ _ _ _ (hX.trans hvv) hiv h0 hlt) (hk _ _ ?_)
              rw [hd, Nat.zero_add]
              refine good_free h hdl (Below.refl _ _) (fun _ => ⟨b, n.toNat * sz', row, ⟨c1, hc, ?_⟩, by simp⟩) (fun r p o he hc' => by cases he; exact ⟨_, hc⟩)
              exact f1.append (.step _ _ _ _ _ _ _ sz' rows row b _ _ hl hrow hcell (.nil ..))
            | _ => rw [hvv] at u3; cases u3
           ·cases hlk
         ·cases hlk
        ·cases hlk
       | _ => rw [hval] at hv; cases hv
     ·rename_i hown
      obtain rfl := (Option.some.inj hv).symm
      have hof : own = false := by simpa using hown
      subst hof
      obtain ⟨_, S, _, hr2, _⟩ := look_leaf h hX hlk
      cases hvv : a.eval x with
      | slice ad len cap =>
       rw [hvv] at hr2
       cases hr2 with
       | nil => simp at hrow
       | imm _ _ _ b q _ cv hI hsz hcv hrep =>
        refine oper_value (hex b q _ _ _ _ hvv hiv h0 hlt) (hk _ _ ?_)
        rw [hd]
        refine good_free h hdl (Below.refl _ _) ⟨b, q + n.toNat * sz', hI, rfl, fun _ _ => False, fun _ _ h => h.elim, fun _ _ _ h => h.elim, fun j l hl => ?_⟩ (fun _ _ _ h => by cases h)
        have hjl := (List.getElem?_eq_some_iff.1 hl).1
        have hrl := hsz _ _ hrow
        have hc' := hcv n.toNat j hlt (by omega)
        refine ⟨cv n.toNat j, ?_, hc'.2, hrep _ _ _ _ hrow hl⟩
        simp only [Base.get, Nat.add_assoc]
        exact hc'.1
      | _ => rw [hvv] at hr2; cases hr2
    ·cases hv
   ·cases hv
  ·cases hv
 ·cases hv

end Go.VS

/- Operations, third part: texts, lengths, new boxes. -/
namespace Go.VS
open Go Go.RowKit
set_option linter.unusedSimpArgs false
set_option linter.unusedVariables false

variable {P : Program} {arg : Tmp → Value} {W w w' : World} {I I' : Nat → Prop} {O O' : Tmp → Nat → Prop} {s s' : RS} {a : Act} {K : Act → World → Prop} {Q : Exit → Act → World → Prop} {G : Sigs} {F : Fns}

theorem bytes_get (b : ByteArray) (i : Nat) : b[i]? = b.data[i]? := by
 by_cases h : i < b.size
 ·rw [getElem?_pos b i h, Array.getElem?_eq_getElem h]
  rfl
 ·rw [getElem?_neg b i h, Array.getElem?_eq_none (Nat.le_of_not_lt h)]

theorem sound_byte {o : Oper} {d : Tmp} {t : TypeId} {x i : Operand} {X Y : VS.X} (ho : o.op = .index t x i) (hd : o.dst = some d) (hx : compX P t x = some X) (hi : compX P 0 i = some Y) (ht : P.underlying t = some .string) :
  Sound1 P arg W G F o (.byte d X Y) := by
 intro I O s s' a w K Q h hdl hv hk
 replace hdl := hdl d rfl
 simp only [vop] at hv
 split at hv
 ·rename_i k n b h1 h2
  have hn := int_val h (compX_val hi a) h1
  have hb := look_str h (compX_val hx a) h2
  split at hv
  ·rename_i h0
   split at hv
   ·rename_i u hu
    obtain rfl := (Option.some.inj hv).symm
    have hrun : (execOp a.eval o).run P w = .ok (.value (.int .u8 u.toNat)) w := by
     simp only [execOp, ho, hn, hb, Instr.index, asIntOf]
     simp [run_underlying ht, h0, bytes_get, hu]
    refine oper_value hrun (hk _ _ ?_)
    rw [hd]
    exact good_int h hdl
   ·cases hv
  ·cases hv
 ·cases hv

theorem sound_len {o : Oper} {d : Tmp} {t : TypeId} {x : Operand} {X : VS.X} {str : Bool} (ho : o.op = .call { callee := .builtin .len, args := #[x], argTypes := #[t] }) (hd : o.dst = some d) (hx : compX P t x = some X)
  (ht : if str then P.underlying t = some .string else ∃ e, P.underlying t = some (.slice e)) : Sound1 P arg W G F o (.len d X str) := by
 intro I O s s' a w K Q h hdl hv hk
 replace hdl := hdl d rfl
 simp only [vop] at hv
 split at hv
 ·rename_i own sz rows hl
  cases str with
  | true => cases hv
  | false =>
   obtain rfl := (Option.some.inj hv).symm
   obtain ⟨ad, cap, hval⟩ := look_sl h (compX_val hx a) hl
   obtain ⟨e, ht⟩ := ht
   have hrun : (execOp a.eval o).run P w = .ok (.value (.int .i64 rows.length)) w := by
    simp [execOp, ho, hval, resolve, invoke, builtin, Builtin.len_, run_underlying ht, goInt]
   refine oper_value hrun (hk _ _ ?_)
   rw [hd]
   exact good_int h hdl
 ·rename_i b hl
  cases str with
  | false => cases hv
  | true =>
   obtain rfl := (Option.some.inj hv).symm
   have hval := look_str h (compX_val hx a) hl
   have ht : P.underlying t = some .string := ht
   have hrun : (execOp a.eval o).run P w = .ok (.value (.int .i64 b.size)) w := by
    simp [execOp, ho, hval, resolve, invoke, builtin, Builtin.len_, run_underlying ht, goInt]
   refine oper_value hrun (hk _ _ ?_)
   rw [hd]
   exact good_int h hdl
 ·cases hv

/-- A bound of a slice expression, as the model computes it. -/
theorem bound_val (h : Rel arg W I O s a.tmps w) {lo : Option Operand} {X : Option VS.X} {n dflt : Nat} (hx : lo.mapM (compX P 0) = some X) (hb : s.bound dflt X = some n) :
  (lo = none ∧ n = dflt) ∨ ∃ x k, lo = some x ∧ a.eval x = .int k (n : Int) := by
 cases lo with
 | none =>
  simp at hx
  subst hx
  simp [RS.bound] at hb
  exact .inl ⟨rfl, hb.symm⟩
 | some x =>
  simp only [Option.mapM_some, Option.map_eq_map, Option.map_eq_some_iff] at hx
  obtain ⟨x', hx', rfl⟩ := hx
  simp only [RS.bound] at hb
  split at hb
  ·rename_i k m hm
   split at hb
   ·rename_i h0
    have hv := int_val h (compX_val hx' a) hm
    obtain rfl := (Option.some.inj hb).symm
    exact .inr ⟨x, k, rfl, by rw [hv, Int.toNat_of_nonneg h0]⟩
   ·cases hb
  ·cases hb

theorem run_bounds {isSlice : Bool} {len cap l h : Nat} {lo hi : Option Value} (hlo : (lo = none ∧ l = 0) ∨ ∃ k, lo = some (.int k (l : Int))) (hhi : (hi = none ∧ h = len) ∨ ∃ k, hi = some (.int k (h : Int))) (h1 : l ≤ h) (h2 : h ≤ cap) :
  (Instr.sliceBounds isSlice len cap lo hi none).run P w = .ok (l, h, cap) w := by
 have e1 : ((l : Int) ≤ (h : Int)) := by omega
 have e2 : ((h : Int) ≤ (cap : Int)) := by omega
 rcases hlo with ⟨rfl, rfl⟩ | ⟨k, rfl⟩ <;> rcases hhi with ⟨rfl, rfl⟩ | ⟨k', rfl⟩ <;>
  simp [Instr.sliceBounds, Instr.sliceBound, asIntOf, h1, h2]

theorem sound_subStr {o : Oper} {d : Tmp} {t : TypeId} {x : Operand} {lo hi : Option Operand} {X : VS.X} {L H : Option VS.X} (ho : o.op = .slice t x lo hi none) (hd : o.dst = some d) (hx : compX P t x = some X)
  (hl : lo.mapM (compX P 0) = some L) (hh : hi.mapM (compX P 0) = some H) (ht : P.underlying t = some .string) : Sound1 P arg W G F o (.subStr d X L H) := by
 intro I O s s' a w K Q h hdl hv hk
 replace hdl := hdl d rfl
 simp only [vop] at hv
 split at hv
 ·rename_i b hlk
  have hval := look_str h (compX_val hx a) hlk
  split at hv
  ·rename_i l hi' h1 h2
   split at hv
   ·rename_i hle
    obtain rfl := (Option.some.inj hv).symm
    have hb := run_bounds (P := P) (w := w) (isSlice := false) (len := b.size) (cap := b.size) (l := l) (h := hi') (lo := lo.map a.eval) (hi := hi.map a.eval)
     (by rcases bound_val h hl h1 with ⟨rfl, rfl⟩ | ⟨x, k, rfl, e⟩
         ·exact .inl ⟨rfl, rfl⟩
         ·exact .inr ⟨k, by simp [e]⟩)
     (by rcases bound_val h hh h2 with ⟨rfl, rfl⟩ | ⟨x, k, rfl, e⟩
         ·exact .inl ⟨rfl, rfl⟩
         ·exact .inr ⟨k, by simp [e]⟩) hle.1 hle.2
    have hrun : (execOp a.eval o).run P w = .ok (.value (.string (b.extract l hi'))) w := by
     simp only [execOp, ho, hval, Instr.sliceAt, Option.map_none]
     rw [Sem.run_bind, Sem.run_bind, run_underlying ht, Result.andThen_ok]
     simp only [Instr.slice]
     rw [Sem.run_bind, run_underlying ht, Result.andThen_ok]
     simp only [Option.isSome_none, Bool.false_eq_true, if_false]
     simp only [Sem.run_bind, hb, Result.andThen_ok, Sem.run_pure]
    refine oper_value hrun (hk _ _ ?_)
    rw [hd]
    exact good_str h hdl
   ·cases hv
  ·cases hv
 ·cases hv

theorem sound_ext {o : Oper} {d : Tmp} {x : Operand} {X : VS.X} {i : Nat} (ho : o.op = .extract x i) (hd : o.dst = some d) (hx : compX P 0 x = some X) : Sound1 P arg W G F o (.ext d X i) := by
 intro I O s s' a w K Q h hdl hv hk
 replace hdl := hdl d rfl
 have hX := compX_val hx a
 simp only [vop] at hv
 cases X with
 | c c => cases hv
 | t t =>
  simp only [XV] at hX
  simp only at hv
  split at hv
  ·rename_i cs hval
   split at hv
   ·rename_i c hc
    have hr := h.rep t
    rw [hval] at hr
    obtain ⟨us, h1, h2, D, d1, d2, d3⟩ := hr
    obtain ⟨u, u1, u2⟩ := d3 i c hc
    have hrun : (execOp a.eval o).run P w = .ok (.value u) w := by
     simp [execOp, ho, hX, h1, Instr.extract, u1]
    refine oper_value hrun (hk _ _ ?_)
    rw [hd]
    split at hv
    ·rename_i hsh
     obtain rfl := (Option.some.inj hv).symm
     exact good_free h hdl (Below.refl _ _) (u2.unowned hsh) (fun _ _ _ h => by cases h)
    ·obtain rfl := (Option.some.inj hv).symm
     -- the component is taken out of the tuple
     let O' : Tmp → Nat → Prop := fun t' b => if t' = t then (O t b ∧ ¬ D i b) else O t' b
     have h' : Rel arg W I O' (s.put t (.tup (cs.set i .gone))) a.tmps w := by
      refine ⟨h.bel, h.old, h.ilt, fun t' b hb => ?_, fun t' b hb => ?_, fun t1 t2 b e1 e2 => ?_, fun t' => ?_⟩
      ·simp only [O'] at hb; split at hb
       ·exact h.olt t b hb.1
       ·exact h.olt t' b hb
      ·simp only [O'] at hb; split at hb
       ·exact h.notI t b hb.1
       ·exact h.notI t' b hb
      ·have e1' : O t1 b := by simp only [O'] at e1; split at e1 <;> rename_i ht <;> first | (rw [ht]; exact e1.1) | exact e1
       have e2' : O t2 b := by simp only [O'] at e2; split at e2 <;> rename_i ht <;> first | (rw [ht]; exact e2.1) | exact e2
       exact h.disj t1 t2 b e1' e2'
      ·have hg : (s.put t (.tup (cs.set i .gone))).e.get t' = if t' = t then .tup (cs.set i .gone) else s.e.get t' := by simp only [RS.put]; exact get_put ..
       have hpd : (s.put t (.tup (cs.set i .gone))).d = s.d := by simp only [RS.put, hval, AV.isV]; rfl
       rw [hg]
       by_cases ht : t' = t
       ·subst ht
        simp only [if_true, O']
        refine ⟨us, h1, by rw [h2, List.length_set], fun j x => j ≠ i ∧ D j x, fun j x hx => ⟨d1 j x hx.2, fun hi => hx.1 (d2 j i x hx.2 hi)⟩, fun j j' x hx hx' => d2 j j' x hx.2 hx'.2, fun j c' hc' => ?_⟩
        by_cases hj : j = i
        ·subst hj
         rw [List.getElem?_set_self (List.getElem?_eq_some_iff.1 hc).1] at hc'
         obtain rfl := (Option.some.inj hc').symm
         exact ⟨u, u1, trivial⟩
        ·rw [List.getElem?_set_ne (fun e => hj e.symm)] at hc'
         obtain ⟨u', e1, e2⟩ := d3 j c' hc'
         exact ⟨u', e1, e2.mono (fun _ h => h) fun x hx => ⟨hj, hx⟩⟩
       ·simp only [ht, if_false, O']
        have hr := h.rep t'
        have hrt : ∀ r p B row, Roots w s.e a.tmps r p B row → Roots w (s.put t (.tup (cs.set i .gone))).e a.tmps r p B row := fun r p B row ⟨c, g1, g2⟩ => by
         have hne : r ≠ t := fun e => by rw [e, hval] at g1; cases g1
         exact ⟨c, by simp only [RS.put]; rw [get_put, if_neg hne]; exact g1, g2⟩
        cases hav : s.e.get t' with
        | ptr r p of =>
         rw [hav] at hr
         intro hc
         rw [hpd] at hc
         obtain ⟨b, o', row', k1, k2⟩ := hr hc
         exact ⟨b, o', row', hrt _ _ _ _ k1, k2⟩
        | ld r p of n g =>
         rw [hav] at hr
         intro hc
         rw [hpd] at hc
         obtain ⟨B, row', k1, k2⟩ := hr hc
         exact ⟨B, row', hrt _ _ _ _ k1, k2⟩
        | _ => rw [hav] at hr; exact hr
     exact good_taken (O' := O') h hdl u2 h' ⟨fun b hb => ⟨t, d1 i b hb⟩, fun t' b hb => (by simp only [O'] at hb; split at hb <;> rename_i ht <;> first | (rw [ht]; exact hb.1) | exact hb), fun t' b hb hb' => by
      simp only [O'] at hb
      split at hb
      ·exact hb.2 hb'
      ·rename_i ht; exact ht (h.disj t' t b hb (d1 i b hb'))⟩
   ·cases hv
  ·cases hv

/-- A new block with cells that are not shared. -/
theorem below_new (w : World) (ob : Obj) : Below w.heap.size w (w.alloc ob) := (Below.refl _ _).alloc (Nat.le_refl _) _
theorem new_at (w : World) (ob : Obj) : (w.alloc ob).heap[w.heap.size]? = some ob := heap_alloc_new w ob

theorem zeroRow_spec {t : TypeId} {zs : List L} (h : zeroRow P t = some zs) : ∃ i z, P.info? t = some i ∧ i.zero = some z ∧ zs.length = i.size ∧ z.cells.size = i.size ∧ (∀ (w : World) (I S : Nat → Prop), RepRow w I zs (fun j => z.cells[j]?) S) ∧
  ∀ (j : Nat) (l : L), zs[j]? = some l → ∃ v, z.cells[j]? = some v ∧ v.oneCell' = true ∧ ∀ (w : World) (I S : Nat → Prop), RepL w I l v S := by
 unfold zeroRow at h
 split at h
 ·rename_i i ts hi hts
  split at h
  ·rename_i z hz
   split at h
   ·rename_i hc
    obtain rfl := (Option.some.inj h).symm
    refine ⟨i, z, hi, hz, by rw [constR_length, Array.length_toList]; exact hc.2, hc.2, fun w I S => constR_rep _ _ _ hc.1 _ _ _, fun j l hl => ?_⟩
    obtain ⟨v, t', h1, rfl⟩ := constR_get P ts _ j l hl
    rw [Array.getElem?_toList] at h1
    refine ⟨v, h1, ?_, fun w I S => constL_rep ..⟩
    have := hc.1
    rw [Array.all_eq_true] at this
    obtain ⟨hj, rfl⟩ := Array.getElem?_eq_some_iff.1 h1
    exact this j hj
   ·cases h
  ·cases h
 ·cases h

theorem sound_alloc {o : Oper} {d : Tmp} {e : TypeId} {zs : List L} (ho : o.op = .alloc e) (hd : o.dst = some d) (hz : selfRow P e = some zs) : Sound1 P arg W G F o (.alloc d zs) := by
 intro I O s s' a w K Q h hdl hv hk
 replace hdl := hdl d rfl
 obtain rfl := (Option.some.inj hv).symm
 obtain ⟨i, z, hi, hz1, hl, hs, hrep, hself⟩ := selfRow_spec hz
 have hrun : (execOp a.eval o).run P w = .ok (.value (.pointer (some ⟨w.heap.size, 0, none⟩))) (w.alloc (.cells z.cells e)) := by
  simp [execOp, ho, Instr.alloc, zeroValue, typeInfo, hi, hz1, newVar, newRow]
 refine oper_value hrun (hk _ _ ?_)
 rw [hd]
 refine good_put (S := fun b => b = w.heap.size) h hdl (below_new w _) (fun b hb => ?_) ⟨w.heap.size, z.cells, e, rfl, rfl, new_at w _, hs.trans hl.symm, hrep _ _ _, hself _⟩ (fun _ _ _ h => by cases h)
 subst hb
 exact ⟨by simp, fun hi => Nat.lt_irrefl _ (h.ilt _ hi), fun t _ ht => Nat.lt_irrefl _ (h.olt t _ ht), .inr (Nat.le_refl _)⟩

/-- The cells of a flat value. -/
theorem flat_cells {c : CV} {v : Value} {S : Nat → Prop} (h : RepC arg w I c v S) (hf : c.flat = true) : v.cells.size = c.row.length ∧ RepRow w I c.row (fun j => v.cells[j]?) S := by
 cases c with
 | leaf l =>
  have hc : v.cells = #[v] := by
   have := h.1
   cases v <;> first | rfl | cases this
  refine ⟨by rw [hc]; rfl, fun j x => j = 0 ∧ S x, fun j x h => h.2, fun j j' x h h' => h.1.trans h'.1.symm, fun j l' hl => ?_⟩
  cases j with
  | zero =>
   simp [CV.row] at hl
   subst hl
   exact ⟨v, by rw [hc]; rfl, h.1, h.2.mono (fun _ h => h) fun x hx => ⟨rfl, hx⟩⟩
  | succ j => simp [CV.row] at hl
 | agg ls =>
  obtain ⟨cs, rfl, h2, h3⟩ := h
  exact ⟨h2, h3⟩
 | _ => cases hf

/-- Behind a take: a new block that holds what was taken. -/
theorem good_taken_new {d : Tmp} {row : List L} {cs : Array Value} {S : Nat → Prop} {e : TypeId} (h : Rel arg W I O s a.tmps w) (hd : d < a.tmps.size) (hr : RepRow w I row (fun j => cs[j]?) S) (hl : cs.size = row.length) (h' : Rel arg W I O' s' a.tmps w) (ho : Out O O' S)
  {av : AV} {v : Value} (hav : ∀ w' : World, w'.heap[w.heap.size]? = some (.cells cs e (0, 0)) → RepRow w' I row (fun j => cs[j]?) S → (∀ x, S x → x ≠ w.heap.size) → RepA arg w' I s' a.tmps av v (fun x => S x ∨ x = w.heap.size))
  (hfr : ∀ r p o, av = .ptr r p o → cleanP s'.d r p = true → ∃ c, s'.e.get r = .v c) :
  Good arg W I O w a (s'.put d av) (some d) (a.put (some d) v) (w.alloc (.cells cs e)) := by
 have hlt : ∀ b, S b → b < w.heap.size := fun b hb => by obtain ⟨t, ht⟩ := ho.1 b hb; exact h.olt t b ht
 have hnI : ∀ b, S b → ¬ I b := fun b hb => by obtain ⟨t, ht⟩ := ho.1 b hb; exact h.notI t b ht
 have hst := h'.step (d := d) (av := av) (v := v) (S := fun x => S x ∨ x = w.heap.size) hd (below_new w (.cells cs e)) (fun b hb => by
  rcases hb with hb | rfl
  ·exact ⟨Nat.lt_of_lt_of_le (hlt b hb) (by simp), hnI b hb, fun t' _ h' => ho.2.2 t' b h' hb⟩
  ·exact ⟨by simp, fun hi => Nat.lt_irrefl _ (h.ilt _ hi), fun t _ ht => Nat.lt_irrefl _ (h'.olt t _ ht)⟩)
  (hav _ (new_at w _) (hr.world (fun _ _ => rfl) fun b hb => Below.heap_alloc w _ b (hb.elim (hlt b) (h.ilt b))) (fun x hx he => by have := hlt x hx; omega)) hfr
 refine ⟨I, _, rfl, put_size .., hst, ⟨fun _ h => h, by simp, fun b hb _ => Below.heap_alloc w _ b hb, fun b hb => ?_⟩, fun t ht => ?_⟩
 ·rcases hb with ⟨t, hb⟩ | hb
  ·by_cases ht : t = d
   ·simp only [ht, if_true] at hb
    rcases hb with hb | rfl
    ·exact .inl (ho.1 b hb)
    ·exact .inr (.inr (Nat.le_refl _))
   ·simp only [ht, if_false] at hb; exact .inl ⟨t, ho.2.1 t b hb⟩
  ·exact .inr (.inl hb)
 ·simp only [Act.put]
  rw [getD_set hd, if_neg (fun e => ht (by rw [e]))]

theorem exec_box {o : Oper} {e : TypeId} {x : Operand} (ho : o.op = .box e x) : (execOp a.eval o).run P w = .ok (.value (.pointer (some ⟨w.heap.size, 0, none⟩))) (w.alloc (.cells (a.eval x).cells e)) := by
 simp [execOp, ho, Instr.box, newVar, newRow]

theorem sound_box {o : Oper} {d : Tmp} {e : TypeId} {x : Operand} {X : VS.X} (ho : o.op = .box e x) (hd : o.dst = some d) (hx : compX P e x = some X) : Sound1 P arg W G F o (.box d X) := by
 intro I O s s' a w K Q h hdl hv hk
 replace hdl := hdl d rfl
 have hX := compX_val hx a
 refine oper_value (exec_box ho) (hk _ _ ?_)
 rw [hd]
 simp only [vop] at hv
 have key : ∀ c s1, s.take X = some (c, s1) → c.flat = true → noS c.row = true → Good arg W I O w a (s1.put d (.v (.box c.row))) (some d) (a.put (some d) (.pointer (some ⟨w.heap.size, 0, none⟩))) (w.alloc (.cells (a.eval x).cells e)) := by
  intro c s1 ht hf hno
  obtain ⟨S, O', h1, h2, h3⟩ := h.take hX ht
  obtain ⟨q1, q2⟩ := flat_cells h1 hf
  exact good_taken_new h hdl q2 q1 h2 h3 (fun w' hb hr hne => ⟨w.heap.size, _, e, rfl, .inr rfl, hb, q1, hr.mono (fun _ h => h) (fun x hx => ⟨.inl hx, hne x hx⟩), .of_none hno⟩) (fun _ _ _ h => by cases h)
 split at hv
 ·rename_i l s1 ht
  split at hv
  ·rename_i hno
   obtain rfl := (Option.some.inj hv).symm
   exact key _ _ ht rfl hno
  ·cases hv
 ·rename_i ls s1 ht
  split at hv
  ·rename_i hno
   obtain rfl := (Option.some.inj hv).symm
   exact key _ _ ht rfl hno
  ·cases hv
 ·cases hv

theorem sound_boxM {o : Oper} {d : Tmp} {e : TypeId} {t : Tmp} (ho : o.op = .box e (.tmp t)) (hd : o.dst = some d) (harg : ∀ (a : Act), a.tmps.getD t undef = arg t → True) :
  ∀ (I : Nat → Prop) (O : Tmp → Nat → Prop) (s s' : RS) (a : Act) (w : World) (K : Act → World → Prop) (Q : Exit → Act → World → Prop),
  Rel arg W I O s a.tmps w → (∀ d', (VOp.boxM d t).dst = some d' → d' < a.tmps.size) → a.tmps.getD t undef = arg t → vop G F s (.boxM d t) = some s' → (∀ a' w', Good arg W I O w a s' (VOp.boxM d t).dst a' w' → K a' w') → o.wp P a w K Q := by
 intro I O s s' a w K Q h hdl harg hv hk
 replace hdl := hdl d rfl
 refine oper_value (exec_box ho) (hk _ _ ?_)
 rw [hd]
 simp only [vop] at hv
 split at hv
 ·rename_i ls hval
  split at hv
  ·cases hv
  ·rename_i hdt
   obtain rfl := (Option.some.inj hv).symm
   have hr := h.rep t
   rw [hval] at hr
   obtain ⟨cs, hvv, h2, h3⟩ := hr
   have he : a.eval (.tmp t) = .agg cs := hvv
   rw [he]
   refine good_taken_new (S := O t) (row := ls) h hdl h3 h2 (h.strike t _ rfl) ⟨fun b hb => ⟨t, hb⟩, fun t' b hb => ?_, fun t' b hb hb' => ?_⟩ (fun w' hb hr hne => ⟨w.heap.size, cs, e, rfl, .inr rfl, hb, h2, hr.mono (fun _ h => h) (fun x hx => ⟨.inl hx, hne x hx⟩), harg.symm.trans hvv⟩) (fun _ _ _ h => by cases h)
   ·by_cases ht : t' = t
    ·simp only [ht, if_true] at hb
    ·simp only [ht, if_false] at hb; exact hb
   ·by_cases ht : t' = t
    ·simp only [ht, if_true] at hb
    ·simp only [ht, if_false] at hb; exact ht (h.disj t' t b hb hb')
 ·cases hv

end Go.VS

/- Operations, fourth part: composites. -/
namespace Go.VS
open Go Go.RowKit
set_option linter.unusedSimpArgs false
set_option linter.unusedVariables false

variable {P : Program} {arg : Tmp → Value} {W w w' : World} {I I' : Nat → Prop} {O O' : Tmp → Nat → Prop} {s s' : RS} {a : Act} {K : Act → World → Prop} {Q : Exit → Act → World → Prop} {G : Sigs} {F : Fns}

/-- Cells laid over cells from 'off' on. -/
theorem lay_size (off : Nat) : ∀ (vs : List Value) (k : Nat) (cs : Array Value), ((vs.zipIdx k).foldl (fun cs (x : Value × Nat) => cs.setIfInBounds (off + x.2) x.1) cs).size = cs.size
 | [], _, _ => rfl
 | v :: vs, k, cs => by
  simp only [List.zipIdx_cons, List.foldl_cons]
  rw [lay_size off vs (k + 1)]
  simp
theorem lay_get (off : Nat) : ∀ (vs : List Value) (k : Nat) (cs : Array Value) (j : Nat), off + k + vs.length ≤ cs.size →
  ((vs.zipIdx k).foldl (fun cs (x : Value × Nat) => cs.setIfInBounds (off + x.2) x.1) cs)[j]? = if off + k ≤ j ∧ j < off + k + vs.length then vs[j - (off + k)]? else cs[j]?
 | [], k, cs, j, h => by
  simp only [List.zipIdx_nil, List.foldl_nil, List.length_nil, Nat.add_zero]
  rw [if_neg (by omega)]
 | v :: vs, k, cs, j, h => by
  rw [List.length_cons] at h ⊢
  simp only [List.zipIdx_cons, List.foldl_cons]
  rw [lay_get off vs (k + 1) _ j (by simp; omega)]
  by_cases h1 : off + k ≤ j ∧ j < off + k + (vs.length + 1)
  ·rw [if_pos h1]
   by_cases h2 : j = off + k
   ·subst h2
    rw [if_neg (by omega), Nat.sub_self, Array.getElem?_setIfInBounds_self_of_lt (by omega)]
    rfl
   ·rw [if_pos (by omega), show j - (off + k) = (j - (off + (k + 1))) + 1 by omega, List.getElem?_cons_succ]
  ·rw [if_neg h1, if_neg (by omega), Array.getElem?_setIfInBounds_ne (by omega)]

/-- Leaves laid over leaves, and cells over cells. -/
theorem patch_rep {row ls : List L} {cs vs : Array Value} {S S1 : Nat → Prop} {off : Nat} (h : RepRow w I row (fun j => cs[j]?) S) (h1 : RepRow w I ls (fun j => vs[j]?) S1) (hl : vs.size = ls.length) (hcs : cs.size = row.length) (hfit : off + ls.length ≤ row.length) (hd : ∀ x, S1 x → ¬ S x) :
  RepRow w I (patch row off ls) (fun j => (vs.toList.zipIdx.foldl (fun cs (x : Value × Nat) => cs.setIfInBounds (off + x.2) x.1) cs)[j]?) (fun x => S x ∨ S1 x) := by
 obtain ⟨D, d1, d2, d3⟩ := h
 obtain ⟨E, e1, e2, e3⟩ := h1
 refine ⟨fun j x => if off ≤ j ∧ j < off + ls.length then E (j - off) x else D j x, fun j x hx => ?_, fun j j' x hx hx' => ?_, fun j l hlj => ?_⟩
 ·simp only at hx
  split at hx
  ·exact .inr (e1 _ x hx)
  ·exact .inl (d1 _ x hx)
 ·simp only at hx hx'
  split at hx <;> split at hx'
  ·have := e2 _ _ x hx hx'; omega
  ·exact absurd (d1 _ x hx') (hd x (e1 _ x hx))
  ·exact absurd (d1 _ x hx) (hd x (e1 _ x hx'))
  ·exact d2 _ _ x hx hx'
 ·rw [patch_get ls row off j hfit] at hlj
  have hg := lay_get off vs.toList 0 cs j (by rw [Array.length_toList]; omega)
  simp only [Nat.add_zero, Array.length_toList, hl] at hg
  simp only [hg]
  by_cases hj : off ≤ j ∧ j < off + ls.length
  ·rw [if_pos hj] at hlj
   rw [if_pos hj]
   obtain ⟨v, v1, v2, v3⟩ := e3 _ l hlj
   refine ⟨v, by rw [Array.getElem?_toList]; exact v1, v2, ?_⟩
   simp only [if_pos hj]
   exact v3
  ·rw [if_neg hj] at hlj
   rw [if_neg hj]
   obtain ⟨v, v1, v2, v3⟩ := d3 _ l hlj
   refine ⟨v, v1, v2, ?_⟩
   simp only [if_neg hj]
   exact v3

theorem Out.refl : Out O O (fun _ => False) := ⟨fun _ h => h.elim, fun _ _ h => h, fun _ _ _ h => h⟩
theorem Out.trans {O'' : Tmp → Nat → Prop} {S S' : Nat → Prop} (h : Out O O' S) (k : Out O' O'' S') : Out O O'' (fun x => S x ∨ S' x) :=
 ⟨fun b hb => hb.elim (h.1 b) fun hb => by obtain ⟨t, ht⟩ := k.1 b hb; exact ⟨t, h.2.1 t b ht⟩, fun t b hb => h.2.1 t b (k.2.1 t b hb), fun t b hb hs => hs.elim (h.2.2 t b (k.2.1 t b hb)) (k.2.2 t b hb)⟩
theorem Out.apart {S S' : Nat → Prop} {O'' : Tmp → Nat → Prop} (h : Out O O' S) (k : Out O' O'' S') : ∀ x, S' x → ¬ S x := fun x hx hs => by obtain ⟨t, ht⟩ := k.1 x hx; exact h.2.2 t x ht hs

/-- Taking the parts of a struct one by one. -/
theorem parts_sound (fs : Array Field) : ∀ (ps : List (Nat × Operand)) (Ps : List (Nat × Nat × VS.X)) (s s' : RS) (O : Tmp → Nat → Prop) (row row' : List L) (cs : Array Value) (S : Nat → Prop),
  ps.mapM (compPart P fs) = some Ps → s.parts Ps row = some (row', s') → Rel arg W I O s a.tmps w → RepRow w I row (fun j => cs[j]?) S → cs.size = row.length → (∀ x, S x → ∀ t, ¬ O t x) →
  ∀ place : Nat → Option (Nat × Nat), (∀ i f, fs[i]? = some f → ∀ n, sizeB P f.type = some n → place i = some (f.offset, n)) →
  ∃ cs' S1 O', Instr.fill place cs (ps.map fun q => (q.1, a.eval q.2)) = some cs' ∧ cs'.size = row'.length ∧ row'.length = row.length ∧ RepRow w I row' (fun j => cs'[j]?) (fun x => S x ∨ S1 x) ∧ Rel arg W I O' s' a.tmps w ∧ Out O O' S1
 | [], Ps, s, s', O, row, row', cs, S, hP, hp, h, hr, hcs, hS, place, hpl => by
  simp at hP
  subst hP
  simp only [RS.parts, Option.some.injEq, Prod.mk.injEq] at hp
  obtain ⟨rfl, rfl⟩ := hp
  exact ⟨cs, fun _ => False, O, rfl, hcs, rfl, hr.mono (fun _ h => h) fun _ h => .inl h, h, Out.refl⟩
 | q :: ps, Ps, s, s', O, row, row', cs, S, hP, hp, h, hr, hcs, hS, place, hpl => by
  simp only [List.mapM_cons, Option.bind_eq_bind, Option.bind_eq_some_iff, Option.pure_def, Option.some.injEq] at hP
  obtain ⟨q', hq, Ps', hPs, rfl⟩ := hP
  unfold compPart at hq
  split at hq
  ·rename_i f hf
   split at hq
   ·rename_i n x hn hx
    obtain rfl := (Option.some.inj hq).symm
    simp only [RS.parts] at hp
    split at hp
    ·rename_i c s1 ht
     split at hp
     ·rename_i hc
      obtain ⟨hflat, hcn, hfit⟩ := hc
      obtain ⟨S1, O1, r1, r2, r3⟩ := h.take (compX_val hx a) ht
      obtain ⟨q1, q2⟩ := flat_cells r1 hflat
      have hap : ∀ x, S1 x → ¬ S x := fun x hx hs => by obtain ⟨t, ht⟩ := r3.1 x hx; exact hS x hs t ht
      have hpr := patch_rep (off := f.offset) hr q2 q1 hcs (by omega) hap
      obtain ⟨cs', S2, O', f1, f2, f3, f4, f5, f6⟩ := parts_sound fs ps Ps' s1 s' O1 _ row' _ _ hPs hp r2 hpr (by rw [patch_length]; have := lay_size f.offset (a.eval q.2).cells.toList 0 cs; simpa using this.trans hcs) (fun x hx t ht => hx.elim (fun hx => hS x hx t (r3.2.1 t x ht)) (r3.2.2 t x ht)) place hpl
      refine ⟨cs', fun x => S1 x ∨ S2 x, O', ?_, f2, f3.trans (patch_length _ _ _), f4.mono (fun _ h => h) (fun x hx => by rcases hx with (h | h) | h <;> simp [h]), f5, r3.trans f6⟩
      simp only [List.map_cons, Instr.fill, hpl _ _ hf _ hn]
      rw [if_neg (by
       simp only [Bool.or_eq_true, decide_eq_true_eq, ne_eq, bne_iff_ne, not_or, Decidable.not_not, Nat.not_lt]
       omega)]
      simp only [← Array.foldl_toList, Array.toList_zipIdx]
      exact f1
     ·cases hp
    ·cases hp
   ·cases hq
  ·cases hq

theorem run_mapM_list {α β : Type} {f : α → β} {g : α → Sem β} : ∀ (l : List α), (∀ x ∈ l, (g x).run P w = .ok (f x) w) → (l.mapM g).run P w = .ok (l.map f) w
 | [], _ => rfl
 | x :: l, h => by
  rw [List.mapM_cons, Sem.run_bind, h x (List.mem_cons_self), Result.andThen_ok, Sem.run_bind, run_mapM_list l (fun y hy => h y (List.mem_cons_of_mem _ hy)), Result.andThen_ok]
  rfl
theorem run_mapM {α β : Type} {f : α → β} {g : α → Sem β} {xs : Array α} (h : ∀ x ∈ xs, (g x).run P w = .ok (f x) w) : (xs.mapM g).run P w = .ok (xs.map f) w := by
 rw [Array.mapM_eq_mapM_toList, Sem.run_map, run_mapM_list xs.toList (fun x hx => h x (by simpa using hx)), Result.andThen_ok, ← Array.toList_map]

theorem sound_build {o : Oper} {d : Tmp} {t : TypeId} {parts : Array (Nat × Operand)} {fs : Array Field} {zs : List L} {Ps : List (Nat × Nat × VS.X)} (ho : o.op = .build t parts) (hd : o.dst = some d) (ht : P.underlying t = some (.struct fs)) (hz : zeroRow P t = some zs)
  (hP : parts.toList.mapM (compPart P fs) = some Ps) (hall : (fs.all fun f => (sizeB P f.type).isSome) = true) : Sound1 P arg W G F o (.build d zs Ps) := by
 intro I O s s' a w K Q h hdl hv hk
 replace hdl := hdl d rfl
 simp only [vop] at hv
 split at hv
 ·rename_i row s1 hp
  obtain rfl := (Option.some.inj hv).symm
  obtain ⟨i, z, hi, hz1, hl, hs, hrep, _⟩ := zeroRow_spec hz
  have hsome : ∀ f ∈ fs, ∃ n, sizeB P f.type = some n := fun f hf => by
   rw [Array.all_eq_true] at hall
   obtain ⟨j, hj, rfl⟩ := Array.mem_iff_getElem.1 hf
   exact Option.isSome_iff_exists.1 (hall j hj)
  obtain ⟨cs', S1, O', f1, f2, f3, f4, f5, f6⟩ := parts_sound (a := a) (w := w) fs parts.toList Ps s s1 O zs row z.cells (fun _ => False) hP hp h (hrep _ _ _) (hs.trans hl.symm) (fun _ h => h.elim) ((fs.map fun f => (f.offset, (sizeB P f.type).getD 0))[·]?) (fun i f hf n hn => by simp [hf, hn])
  have hmap : (fs.mapM fun f => do pure (f.offset, ← sizeOf f.type) : Sem (Array (Nat × Nat))).run P w = .ok (fs.map fun f => (f.offset, (sizeB P f.type).getD 0)) w :=
   run_mapM (fun f hf => by
    obtain ⟨n, hn⟩ := hsome f hf
    rw [Sem.run_bind, run_sizeOf hn, Result.andThen_ok, hn]
    rfl)
  have hrun : (execOp a.eval o).run P w = .ok (.value (.agg cs')) w := by
   have hpar : (parts.map fun (x : Nat × Operand) => (x.1, a.eval x.2)).toList = parts.toList.map fun q => (q.1, a.eval q.2) := by simp
   simp only [execOp, ho, Instr.build, Sem.run_bind, zeroValue, typeInfo, run_program, Result.andThen_ok, hi, Sem.run_pure, hz1, run_underlying ht, hmap]
   simp only [hpar, f1, Sem.run_pure, Result.andThen_ok]
  refine oper_value hrun (hk _ _ ?_)
  rw [hd]
  refine good_taken h hdl ⟨cs', rfl, f2, f4⟩ f5 ?_
  exact ⟨fun b hb => hb.elim (fun h => h.elim) (f6.1 b), f6.2.1, fun t b hb hs => hs.elim (fun h => h.elim) (f6.2.2 t b hb)⟩
 ·cases hv

/-- Several rows of one width, end to end. -/
theorem mod_row (z : Array Value) {sz j i : Nat} (hs : z.size = sz) (hj : j < sz) : z[(i * sz + j) % z.size]! = z[j]! := by
 rw [hs, Nat.mul_comm, Nat.mul_add_mod, Nat.mod_eq_of_lt hj]
theorem made_get {z : Array Value} {n sz : Nat} (hs : z.size = sz) (i j : Nat) (hi : i < n) (hj : j < sz) : ((Array.range (n * sz)).map (z[· % z.size]!))[i * sz + j]? = z[j]? := by
 have hlt : i * sz + j < n * sz := by
  have : (i + 1) * sz ≤ n * sz := Nat.mul_le_mul_right sz hi
  rw [Nat.add_mul, Nat.one_mul] at this
  omega
 rw [Array.getElem?_map, Array.getElem?_range, if_pos hlt]
 simp only [Option.map_some]
 rw [mod_row z hs hj, getElem!_pos z j (by omega), Array.getElem?_eq_getElem (by omega)]

/-- Rows of leaves behind cells: row i lies from i * sz on. -/
def RepRows (w : World) (I : Nat → Prop) (sz : Nat) (rows : List (List L)) (cs : Array Value) (S : Nat → Prop) : Prop :=
 (∀ (i : Nat) r, rows[i]? = some r → r.length = sz) ∧ cs.size = rows.length * sz ∧
 ∃ D : Nat → Nat → Nat → Prop, (∀ i j x, D i j x → S x) ∧ (∀ i j i' j' x, D i j x → D i' j' x → i = i' ∧ j = j') ∧ ∀ (i j : Nat) r l, rows[i]? = some r → r[j]? = some l → ∃ v, cs[i * sz + j]? = some v ∧ v.oneCell' = true ∧ RepL w I l v (D i j)

theorem RepRows.world {sz : Nat} {rows : List (List L)} {cs : Array Value} {S : Nat → Prop} (h : RepRows w I sz rows cs S) (hw : ∀ b, S b ∨ I b → w'.heap[b]? = w.heap[b]?) : RepRows w' I sz rows cs S := by
 obtain ⟨h1, h2, D, d1, d2, d3⟩ := h
 refine ⟨h1, h2, D, d1, d2, fun i j r l hr hl => ?_⟩
 obtain ⟨v, v1, v2, v3⟩ := d3 i j r l hr hl
 exact ⟨v, v1, v2, v3.world fun b hb => hw b (hb.imp (d1 i j b) id)⟩

/-- A block of rows is an owned slice. -/
theorem RepRows.own {sz : Nat} {rows : List (List L)} {cs : Array Value} {S : Nat → Prop} {b : Nat} {e : TypeId} (h : RepRows w I sz rows cs S) (hb : w.heap[b]? = some (.cells cs e (0, 0))) (hn : rows.length ≤ maxLen) (hne : ∀ x, S x → x ≠ b) :
  RepL w I (.sl true sz rows) (.slice (some ⟨b, 0, none⟩) rows.length rows.length) (fun x => S x ∨ x = b) := by
 obtain ⟨h1, h2, D, d1, d2, d3⟩ := h
 refine .own sz rows _ b rows.length cs e (fun i j => (cs[i * sz + j]?).getD undef) D (.inr rfl) (Nat.le_refl _) hn hb h2 h1 (fun i j hi hj => ?_) (fun i j x hx => ⟨.inl (d1 i j x hx), hne x (d1 i j x hx)⟩) d2 (fun i j r l hr hl => ?_)
 ·have hr := h1 i _ (List.getElem?_eq_getElem hi)
  obtain ⟨v, v1, v2, _⟩ := d3 i j _ _ (List.getElem?_eq_getElem hi) (List.getElem?_eq_getElem (by omega : j < rows[i].length))
  rw [v1]
  exact ⟨rfl, v2⟩
 ·obtain ⟨v, v1, v2, v3⟩ := d3 i j r l hr hl
  rw [v1]
  exact v3

theorem zero_rows {zs : List L} {z : Value} {n : Nat} (hz : ∀ (w : World) (I S : Nat → Prop), RepRow w I zs (fun j => z.cells[j]?) S) (hl : z.cells.size = zs.length) (w : World) (I S : Nat → Prop) :
  RepRows w I zs.length (List.replicate n zs) ((Array.range (n * zs.length)).map (z.cells[· % z.cells.size]!)) S := by
 refine ⟨fun i r hr => ?_, by simp, fun _ _ _ => False, fun _ _ _ h => h.elim, fun _ _ _ _ _ h => h.elim, fun i j r l hr hlj => ?_⟩
 ·rw [List.getElem?_replicate] at hr
  split at hr
  ·rw [← Option.some.inj hr]
  ·cases hr
 ·rw [List.getElem?_replicate] at hr
  split at hr
  ·rename_i hi
   obtain rfl := Option.some.inj hr
   obtain ⟨D, _, _, d3⟩ := hz w I (fun _ => False)
   obtain ⟨v, v1, v2, _⟩ := d3 j l hlj
   obtain ⟨E, e1, _, e3⟩ := hz w I (fun _ => False)
   obtain ⟨v', w1, w2, w3⟩ := e3 j l hlj
   refine ⟨v', ?_, w2, w3.mono (fun _ h => h) (e1 j)⟩
   rw [made_get hl i j hi (List.getElem?_eq_some_iff.1 hlj).1]
   exact w1
  ·cases hr

/-- One row of rows changed. -/
theorem rows_set {sz i : Nat} {rows : List (List L)} {ls : List L} {cs vs : Array Value} {S S1 : Nat → Prop} (h : RepRows w I sz rows cs S) (h1 : RepRow w I ls (fun j => vs[j]?) S1) (hl : vs.size = ls.length) (hsz : ls.length = sz) (hi : i < rows.length) (hd : ∀ x, S1 x → ¬ S x) :
  RepRows w I sz (rows.set i ls) (vs.toList.zipIdx.foldl (fun cs (x : Value × Nat) => cs.setIfInBounds (i * sz + x.2) x.1) cs) (fun x => S x ∨ S1 x) := by
 obtain ⟨h1', h2, D, d1, d2, d3⟩ := h
 obtain ⟨E, e1, e2, e3⟩ := h1
 have hfit : i * sz + sz ≤ cs.size := by
  rw [h2]
  have : (i + 1) * sz ≤ rows.length * sz := Nat.mul_le_mul_right sz hi
  rw [Nat.add_mul, Nat.one_mul] at this
  exact this
 have hg := fun j => lay_get (i * sz) vs.toList 0 cs j (by rw [Array.length_toList]; omega)
 simp only [Nat.add_zero, Array.length_toList, hl, hsz] at hg
 refine ⟨fun i' r hr => ?_, ?_, fun i' j x => if i' = i then E j x else D i' j x, fun i' j x hx => ?_, fun i1 j1 i2 j2 x hx hx' => ?_, fun i' j r l hr hlj => ?_⟩
 ·by_cases hii : i' = i
  ·subst hii
   rw [List.getElem?_set_self hi] at hr
   rw [← Option.some.inj hr, hsz]
  ·rw [List.getElem?_set_ne (fun e => hii e.symm)] at hr
   exact h1' i' r hr
 ·have := lay_size (i * sz) vs.toList 0 cs
  rw [this, h2, List.length_set]
 ·simp only at hx
  split at hx
  ·exact .inr (e1 _ x hx)
  ·exact .inl (d1 _ _ x hx)
 ·simp only at hx hx'
  split at hx <;> split at hx' <;> rename_i g1 g2
  ·exact ⟨g1.trans g2.symm, e2 _ _ x hx hx'⟩
  ·exact absurd (d1 _ _ x hx') (hd x (e1 _ x hx))
  ·exact absurd (d1 _ _ x hx) (hd x (e1 _ x hx'))
  ·exact d2 _ _ _ _ x hx hx'
 ·by_cases hii : i' = i
  ·subst hii
   rw [List.getElem?_set_self hi] at hr
   obtain rfl := Option.some.inj hr
   have hj := (List.getElem?_eq_some_iff.1 hlj).1
   obtain ⟨v, v1, v2, v3⟩ := e3 j l hlj
   refine ⟨v, ?_, v2, by simp only [if_true]; exact v3⟩
   rw [hg, if_pos (by omega), show i' * sz + j - i' * sz = j by omega, Array.getElem?_toList]
   exact v1
  ·rw [List.getElem?_set_ne (fun e => hii e.symm)] at hr
   have hrl := h1' i' r hr
   have hj := (List.getElem?_eq_some_iff.1 hlj).1
   obtain ⟨v, v1, v2, v3⟩ := d3 i' j r l hr hlj
   refine ⟨v, ?_, v2, by simp only [if_neg hii]; exact v3⟩
   rw [hg, if_neg (out_of_row hii (by omega))]
   exact v1

theorem rows_sound (e : TypeId) (sz : Nat) : ∀ (ps : List (Nat × Operand)) (Ps : List (Nat × VS.X)) (s s' : RS) (O : Tmp → Nat → Prop) (rows rows' : List (List L)) (cs : Array Value) (S : Nat → Prop),
  ps.mapM (compElem P e) = some Ps → s.rows sz Ps rows = some (rows', s') → Rel arg W I O s a.tmps w → RepRows w I sz rows cs S → (∀ x, S x → ∀ t, ¬ O t x) →
  ∃ cs' S1 O', Instr.fill (fun i => some (i * sz, sz)) cs (ps.map fun q => (q.1, a.eval q.2)) = some cs' ∧ rows'.length = rows.length ∧ RepRows w I sz rows' cs' (fun x => S x ∨ S1 x) ∧ Rel arg W I O' s' a.tmps w ∧ Out O O' S1
 | [], Ps, s, s', O, rows, rows', cs, S, hP, hp, h, hr, hS => by
  simp at hP
  subst hP
  simp only [RS.rows, Option.some.injEq, Prod.mk.injEq] at hp
  obtain ⟨rfl, rfl⟩ := hp
  obtain ⟨h1, h2, D, d1, d2, d3⟩ := hr
  exact ⟨cs, fun _ => False, O, rfl, rfl, ⟨h1, h2, D, fun i j x hx => .inl (d1 i j x hx), d2, d3⟩, h, Out.refl⟩
 | q :: ps, Ps, s, s', O, rows, rows', cs, S, hP, hp, h, hr, hS => by
  simp only [List.mapM_cons, Option.bind_eq_bind, Option.bind_eq_some_iff, Option.pure_def, Option.some.injEq] at hP
  obtain ⟨q', hq, Ps', hPs, rfl⟩ := hP
  unfold compElem at hq
  rw [Option.map_eq_some_iff] at hq
  obtain ⟨x, hx, rfl⟩ := hq
  simp only [RS.rows] at hp
  split at hp
  ·rename_i c s1 ht
   split at hp
   ·rename_i hc
    obtain ⟨hflat, hcn, hi⟩ := hc
    obtain ⟨S1, O1, r1, r2, r3⟩ := h.take (compX_val hx a) ht
    obtain ⟨q1, q2⟩ := flat_cells r1 hflat
    have hap : ∀ x, S1 x → ¬ S x := fun x hx hs => by obtain ⟨t, ht⟩ := r3.1 x hx; exact hS x hs t ht
    have hpr := rows_set (i := q.1) hr q2 q1 hcn hi hap
    obtain ⟨cs', S2, O', f1, f2, f4, f5, f6⟩ := rows_sound e sz ps Ps' s1 s' O1 _ rows' _ _ hPs hp r2 hpr (fun x hx t ht => hx.elim (fun hx => hS x hx t (r3.2.1 t x ht)) (r3.2.2 t x ht))
    refine ⟨cs', fun x => S1 x ∨ S2 x, O', ?_, f2.trans (by rw [List.length_set]), ?_, f5, r3.trans f6⟩
    ·simp only [List.map_cons, Instr.fill]
     have hfit : q.1 * sz + sz ≤ cs.size := by
      rw [hr.2.1]
      have : (q.1 + 1) * sz ≤ rows.length * sz := Nat.mul_le_mul_right sz hi
      rw [Nat.add_mul, Nat.one_mul] at this
      exact this
     rw [if_neg (by
      simp only [Bool.or_eq_true, decide_eq_true_eq, ne_eq, bne_iff_ne, not_or, Decidable.not_not, Nat.not_lt]
      omega)]
     simp only [← Array.foldl_toList, Array.toList_zipIdx]
     exact f1
    ·obtain ⟨g1, g2, D, d1, d2, d3⟩ := f4
     exact ⟨g1, g2, D, fun i j x hx => by rcases d1 i j x hx with (h | h) | h <;> simp [h], d2, d3⟩
   ·cases hp
  ·cases hp

theorem sound_mk {o : Oper} {d : Tmp} {t e : TypeId} {n : Nat} {parts : Array (Nat × Operand)} {zs : List L} {Ps : List (Nat × VS.X)} (ho : o.op = .buildSlice t n parts) (hd : o.dst = some d) (ht : P.underlying t = some (.slice e)) (hz : zeroRow P e = some zs)
  (hpos : 0 < zs.length) (hsm : n * zs.length ≤ 2 ^ 24) (hmax : n ≤ maxLen) (hP : parts.toList.mapM (compElem P e) = some Ps) : Sound1 P arg W G F o (.mk d zs n Ps) := by
 intro I O s s' a w K Q h hdl hv hk
 replace hdl := hdl d rfl
 simp only [vop] at hv
 split at hv
 ·rename_i rows s1 hp
  obtain rfl := (Option.some.inj hv).symm
  obtain ⟨i, z, hi, hz1, hl, hs, hrep, _⟩ := zeroRow_spec hz
  have hs' : z.cells.size = zs.length := hs.trans hl.symm
  obtain ⟨cs', S1, O', f1, f2, f3, f5, f6⟩ := rows_sound (a := a) (w := w) e zs.length parts.toList Ps s s1 O _ rows _ (fun _ => False) hP hp h (zero_rows hrep hs' w I _) (fun _ h => h.elim)
  rw [List.length_replicate] at f2
  have hrun : (execOp a.eval o).run P w = .ok (.value (.slice (some ⟨w.heap.size, 0, none⟩) n n)) (w.alloc (.cells cs' e)) := by
   have hpar : (parts.map fun (x : Nat × Operand) => (x.1, a.eval x.2)).toList = parts.toList.map fun q => (q.1, a.eval q.2) := by simp
   by_cases hn : n = 0
   ·subst hn
    have hemp : ((Array.range (0 * zs.length)).map (z.cells[· % z.cells.size]!)) = #[] := by simp
    rw [hemp, hl] at f1
    simp only [execOp, ho, Instr.buildSlice, Sem.run_bind, run_underlying ht, Result.andThen_ok, sizeOf, typeInfo, run_program, hi, Sem.run_pure, Nat.zero_mul, hpar]
    have hr0 : Array.range 0 = #[] := rfl
    simp [f1, newRow, hr0]
   ·have hnz : ¬ n * i.size = 0 := by rw [← hl]; exact Nat.mul_ne_zero hn (by omega)
    simp only [execOp, ho]
    rw [Sem.run_bind, run_buildSlice w t e n _ cs' i z ht hi hz1 (by rw [← hl]; omega) hnz (by rw [hpar, ← hl]; exact f1)]
    rfl
  refine oper_value hrun (hk _ _ ?_)
  rw [hd]
  show Good arg W I O w a _ (some d) _ _
  have hlt : ∀ b, S1 b → b < w.heap.size := fun b hb => by obtain ⟨t, ht⟩ := f6.1 b hb; exact h.olt t b ht
  have hst := f5.step (d := d) (av := .v (.leaf (.sl true zs.length rows))) (v := .slice (some ⟨w.heap.size, 0, none⟩) n n) (S := fun x => S1 x ∨ x = w.heap.size) hdl (below_new w (.cells cs' e)) (fun b hb => by
   rcases hb with hb | rfl
   ·exact ⟨Nat.lt_of_lt_of_le (hlt b hb) (by simp), (by obtain ⟨t, ht⟩ := f6.1 b hb; exact h.notI t b ht), fun t' _ h' => f6.2.2 t' b h' hb⟩
   ·exact ⟨by simp, fun hi => Nat.lt_irrefl _ (h.ilt _ hi), fun t _ ht => Nat.lt_irrefl _ (f5.olt t _ ht)⟩)
   (by
    have hw := f3.world (w' := w.alloc (.cells cs' e)) (fun b hb => Below.heap_alloc w _ b (hb.elim (fun hb => hb.elim (fun h => h.elim) (hlt b)) (h.ilt b)))
    have := hw.own (new_at w _) (by rw [f2]; exact hmax) (fun x hx he => hx.elim (fun h => h.elim) fun hx => by have := hlt x hx; omega)
    rw [f2] at this
    exact ⟨rfl, this.mono (fun _ h => h) fun x hx => hx.imp (fun h => h.elim (fun h => h.elim) id) id⟩)
   (fun _ _ _ h => by cases h)
  refine ⟨I, _, rfl, put_size .., hst, ⟨fun _ h => h, by simp, fun b hb _ => Below.heap_alloc w _ b hb, fun b hb => ?_⟩, fun t ht => ?_⟩
  ·rcases hb with ⟨t, hb⟩ | hb
   ·by_cases ht : t = d
    ·simp only [ht, if_true] at hb
     rcases hb with hb | rfl
     ·exact .inl (f6.1 b hb)
     ·exact .inr (.inr (Nat.le_refl _))
    ·simp only [ht, if_false] at hb; exact .inl ⟨t, f6.2.1 t b hb⟩
   ·exact .inr (.inl hb)
  ·simp only [Act.put]
   rw [getD_set hdl, if_neg (fun e => ht (by rw [e]))]
 ·cases hv

/-- Nothing at all, laid as what is immutable: for a region whose order is left open. -/
def compM (P : Program) (o : Oper) : Option VOp :=
 match o.dst, o.op with
 | some d, .buildSlice t n parts => match P.underlying t with
  | some (.slice e) => match zeroRow P e with
   | some zs => if n = 0 ∧ parts.size = 0 ∧ 0 < zs.length then some (.mv d (.c (.leaf (.sl false zs.length [])))) else none
   | none => none
  | _ => none
 | _, _ => none
theorem sound_mk0 {o : Oper} {vo : VOp} (h : compM P o = some vo) : Sound1 P arg W G F o vo := by
 unfold compM at h
 split at h
 ·rename_i d t n parts hd ho
  split at h
  ·rename_i e ht
   split at h
   ·rename_i zs hz
    have hc : n = 0 ∧ parts.size = 0 ∧ 0 < zs.length := by
     by_cases hc : n = 0 ∧ parts.size = 0 ∧ 0 < zs.length
     ·exact hc
     ·rw [if_neg hc] at h; cases h
    rw [if_pos hc] at h
    obtain ⟨rfl, hp, hpos⟩ := hc
    obtain rfl := (Option.some.inj h).symm
    intro I O s s' a w K Q h hdl hv hk
    replace hdl := hdl d rfl
    obtain rfl : parts = #[] := Array.eq_empty_of_size_eq_zero hp
    obtain ⟨i, z, hi, hz1, hl, hs, hrep, _⟩ := zeroRow_spec hz
    have hr0 : Array.range 0 = #[] := rfl
    have hrun : (execOp a.eval o).run P w = .ok (.value (.slice (some ⟨w.heap.size, 0, none⟩) 0 0)) (w.alloc (.cells #[] e)) := by
     have hf : ∀ g, Instr.fill g (#[] : Array Value) ([] : List (Nat × Value)) = some #[] := fun g => by unfold Instr.fill; rfl
     simp only [execOp, ho, Instr.buildSlice, Sem.run_bind, run_underlying ht, Result.andThen_ok, sizeOf, typeInfo, run_program, hi, Sem.run_pure, Nat.zero_mul]
     simp [hf, newRow, hr0]
    refine oper_value hrun (hk _ _ ?_)
    rw [hd]
    show Good arg W I O w a s' (some d) _ _
    simp only [vop, RS.val, CV.shal, L.own] at hv
    obtain rfl := (Option.some.inj hv).symm
    exact good_free h hdl (below_new w _) ⟨rfl, .nil _ _ _ _ _ (fun h => by cases h)⟩ (fun _ _ _ h => by cases h)
   ·cases h
  ·cases h
 ·cases h

theorem sound_make {o : Oper} {d : Tmp} {t e : TypeId} {l c : Operand} {X Y : VS.X} {i : TypeInfo} {zs : List L} (ho : o.op = .makeSlice t l c) (hd : o.dst = some d) (ht : P.underlying t = some (.slice e)) (hi : P.info? e = some i) (hz : zeroRow P e = some zs)
  (hl : compX P 0 l = some X) (hc : compX P 0 c = some Y) (hpos : 0 < i.size) : Sound1 P arg W G F o (.make d zs i.bytes X Y) := by
 intro I O s s' a w K Q h hdl hv hk
 replace hdl := hdl d rfl
 simp only [vop] at hv
 split at hv
 ·rename_i k1 n k2 m h1 h2
  split at hv
  ·rename_i hcond
   obtain ⟨c1, c2, c3, c4⟩ := hcond
   obtain rfl := (Option.some.inj hv).symm
   obtain ⟨i', z, hi', hz1, hzl, hzs, hrep, _⟩ := zeroRow_spec hz
   rw [hi] at hi'
   obtain rfl := Option.some.inj hi'
   have hn := int_val h (compX_val hl a) h1
   have hm := int_val h (compX_val hc a) h2
   have hrun : (execOp a.eval o).run P w = .ok (.value (.slice (some ⟨w.heap.size, 0, none⟩) n.toNat m.toNat)) (w.alloc (.cells (madeCells z.cells (m.toNat * i.size)) e)) := by
    simp only [execOp, ho, hn, hm]
    rw [Sem.run_bind, run_make w t e i z ht hi hz1 k1 k2 n m c1 c2 c3 c4]
    rfl
   refine oper_value hrun (hk _ _ ?_)
   rw [hd]
   have hrows := zero_rows (n := m.toNat) hrep (hzs.trans hzl.symm) (w.alloc (.cells (madeCells z.cells (m.toNat * i.size)) e)) I (fun _ => False)
   refine good_put (S := fun b => b = w.heap.size) h hdl (below_new w _) (fun b hb => ?_) ⟨rfl, ?_⟩ (fun _ _ _ h => by cases h)
   ·subst hb
    exact ⟨by simp, fun hi => Nat.lt_irrefl _ (h.ilt _ hi), fun t _ ht => Nat.lt_irrefl _ (h.olt t _ ht), .inr (Nat.le_refl _)⟩
   ·have hlen : (List.replicate n.toNat zs).length = n.toNat := List.length_replicate
    have hnew := new_at w (.cells (madeCells z.cells (m.toNat * i.size)) e)
    obtain ⟨g1, g2, D, d1, d2, d3⟩ := hrows
    have hget : ∀ (i' j : Nat) r l, (List.replicate n.toNat zs)[i']? = some r → r[j]? = some l → ∃ v, (madeCells z.cells (m.toNat * i.size))[i' * zs.length + j]? = some v ∧ v.oneCell' = true ∧ RepL (w.alloc (.cells (madeCells z.cells (m.toNat * i.size)) e)) I l v (D i' j) := by
     intro i' j r l hr hl
     rw [List.getElem?_replicate] at hr
     split at hr
     ·rename_i hlt
      obtain ⟨v, v1, v2, v3⟩ := d3 i' j r l (by rw [List.getElem?_replicate, if_pos (by omega)]; exact hr) hl
      refine ⟨v, ?_, v2, v3⟩
      rw [← v1, hzl]
      rfl
     ·cases hr
    rw [show (.slice (some ⟨w.heap.size, 0, none⟩) n.toNat m.toNat : Value) = .slice (some ⟨w.heap.size, 0, none⟩) (List.replicate n.toNat zs).length m.toNat by rw [hlen]]
    refine .own zs.length _ _ w.heap.size m.toNat _ e (fun i' j => ((madeCells z.cells (m.toNat * i.size))[i' * zs.length + j]?).getD undef) D rfl (by rw [hlen]; omega) (by unfold maxLen; omega) hnew (by rw [size_madeCells, hzl]) (fun i' r hr => ?_) (fun i' j hi' hj => ?_) (fun i' j x hx => (d1 i' j x hx).elim) d2 (fun i' j r l hr hl => ?_)
    ·rw [List.getElem?_replicate] at hr
     split at hr
     ·rw [← Option.some.inj hr]
     ·cases hr
    ·rw [hlen] at hi'
     obtain ⟨v, v1, v2, _⟩ := hget i' j zs _ (by rw [List.getElem?_replicate, if_pos hi']) (List.getElem?_eq_getElem hj)
     rw [v1]
     exact ⟨rfl, v2⟩
    ·obtain ⟨v, v1, v2, v3⟩ := hget i' j r l hr hl
     rw [v1]
     exact v3
  ·cases hv
 ·cases hv

theorem bytesOf_get : ∀ (rows : List (List L)) (l : List UInt8), bytesOf rows = some l → l.length = rows.length ∧ ∀ i, i < rows.length → ∃ n : Int, rows[i]? = some [L.int .u8 n] ∧ l[i]? = some (UInt8.ofNat n.toNat)
 | [], l, h => by simp only [bytesOf, Option.some.injEq] at h; subst h; exact ⟨rfl, fun i hi => by simp at hi⟩
 | r :: rs, l, h => by
  unfold bytesOf at h
  split at h
  ·rename_i heq; cases heq
  ·rename_i n rs' heq
   simp only [List.cons.injEq] at heq
   obtain ⟨rfl, rfl⟩ := heq
   rw [Option.map_eq_some_iff] at h
   obtain ⟨l', hl', rfl⟩ := h
   obtain ⟨h1, h2⟩ := bytesOf_get _ _ hl'
   refine ⟨by simp [h1], fun i hi => ?_⟩
   cases i with
   | zero => exact ⟨n, rfl, rfl⟩
   | succ i => simpa using h2 i (by simpa using hi)
  ·cases h

theorem push_fold : ∀ (ns : List Int) (r : ByteArray), ns.foldl (fun r n => r.push (UInt8.ofNat n.toNat)) r = ⟨(r.data.toList ++ ns.map fun n => UInt8.ofNat n.toNat).toArray⟩
 | [], r => by simp
 | n :: ns, r => by
  rw [List.foldl_cons, push_fold ns]
  congr 1
  simp [ByteArray.push]

/-- The cells of a slice of one-cell rows. -/
theorem sl_cells {v : Value} {own : Bool} {rows : List (List L)} {S : Nat → Prop} {len cap : Nat} {ad : Option Addr} (h : RepL w I (.sl own 1 rows) (.slice ad len cap) S) (hne : rows ≠ []) :
  ∃ b q, ad = some ⟨b, q, none⟩ ∧ len = rows.length ∧ ∀ i, i < rows.length → ∀ l, rows[i]? = some [l] → ∃ u, w.cell? ⟨b, q + i, none⟩ = some u ∧ ∃ S', RepL w I l u S' := by
 cases h with
 | nil => exact absurd rfl hne
 | own _ _ _ b _ cs e cv D hS hlen hcap hb hcs hsz hcv hD hdis hrep =>
  refine ⟨b, 0, rfl, rfl, fun i hi l hl => ⟨cv i 0, ?_, D i 0, hrep i 0 _ l hl rfl⟩⟩
  have := (hcv i 0 hi (by omega)).1
  rw [Nat.mul_one, Nat.add_zero] at this
  rw [Nat.zero_add, cell_of hb]
  exact this
 | imm _ _ _ b q _ cv hI hsz hcv hrep =>
  refine ⟨b, q, rfl, rfl, fun i hi l hl => ⟨cv i 0, ?_, _, hrep i 0 _ l hl rfl⟩⟩
  have := (hcv i 0 hi (by omega)).1
  rw [Nat.mul_one, Nat.add_zero] at this
  exact this

theorem sound_bytes {o : Oper} {d : Tmp} {src dst e : TypeId} {x : Operand} {X : VS.X} (ho : o.op = .convert src dst x) (hd : o.dst = some d) (hs : P.underlying src = some (.slice e)) (he : P.underlying e = some (.int .u8)) (hdst : P.underlying dst = some .string) (hx : compX P src x = some X) :
  Sound1 P arg W G F o (.bytes d X) := by
 intro I O s s' a w K Q h hdl hv hk
 replace hdl := hdl d rfl
 simp only [vop] at hv
 split at hv
 ·rename_i own rows hl
  split at hv
  ·rename_i l hb
   obtain rfl := (Option.some.inj hv).symm
   obtain ⟨hlen, hget⟩ := bytesOf_get rows l hb
   obtain ⟨t, S, _, hr, _⟩ := look_leaf h (compX_val hx a) hl
   obtain ⟨ad, cap, hval⟩ := look_sl h (compX_val hx a) hl
   rw [hval] at hr
   have hconv : (Conv.bytesToString (.slice ad rows.length cap)).run P w = .ok (.string ⟨l.toArray⟩) w := by
    by_cases hne : rows = []
    ·subst hne
     simp at hlen
     subst hlen
     cases ad with
     | none => simp [Conv.bytesToString]; rfl
     | some ad =>
      rw [run_bytesToString w ad _ cap [] (by simp [loadCells, loadCellsFrom])]
      rfl
    ·obtain ⟨b, q, rfl, _, hc⟩ := sl_cells (v := a.eval x) hr hne
     have hns : ∃ ns : List Int, ns.length = rows.length ∧ ∀ i, i < rows.length → ∃ n, ns[i]? = some n ∧ rows[i]? = some [L.int .u8 n] ∧ l[i]? = some (UInt8.ofNat n.toNat) := by
      refine ⟨rows.map fun r => match r with | [.int _ n] => n | _ => 0, by simp, fun i hi => ?_⟩
      obtain ⟨n, h1, h2⟩ := hget i hi
      exact ⟨n, by simp [h1], h1, h2⟩
     obtain ⟨ns, n1, n2⟩ := hns
     have hload : (loadCells ⟨b, q, none⟩ rows.length).run P w = .ok (ns.map (Value.int .u8)).toArray w := by
      have := run_loadCells_list (P := P) w ⟨b, q, none⟩ (ns.map (Value.int .u8)) (fun j v hj => by
       have hjl : j < rows.length := by have := (List.getElem?_eq_some_iff.1 hj).1; simp at this; omega
       obtain ⟨n, m1, m2, _⟩ := n2 j hjl
       obtain ⟨u, u1, S', u2⟩ := hc j hjl _ m2
       cases u2
       rw [List.getElem?_map, m1] at hj
       rw [add_at, u1]
       simpa using hj)
      rwa [List.length_map, n1] at this
     rw [run_bytesToString w _ _ cap ns hload, push_fold]
     have hl : ByteArray.empty.data.toList ++ ns.map (fun n => UInt8.ofNat n.toNat) = l := ?_
     ·rw [hl]
     rw [show ByteArray.empty.data.toList = [] from rfl, List.nil_append]
     apply List.ext_getElem?
     intro i
     by_cases hi : i < rows.length
     ·obtain ⟨n, m1, _, m3⟩ := n2 i hi
      simp [m1, m3]
     ·rw [List.getElem?_eq_none (by simp; omega), List.getElem?_eq_none (by omega)]
   have hrun : (execOp a.eval o).run P w = .ok (.value (.string ⟨l.toArray⟩)) w := by
    simp only [execOp, ho, hval, convert]
    simp [run_underlying hs, run_underlying hdst, run_underlying he, hconv]
   refine oper_value hrun (hk _ _ ?_)
   rw [hd]
   exact good_str h hdl
  ·cases hv
 ·cases hv

end Go.VS

/- Operations, fifth part: structs compared; a store. -/
namespace Go.VS
open Go Go.RowKit
set_option linter.unusedSimpArgs false
set_option linter.unusedVariables false

variable {P : Program} {arg : Tmp → Value} {W w w' : World} {I I' : Nat → Prop} {O O' : Tmp → Nat → Prop} {s s' : RS} {a : Act} {K : Act → World → Prop} {Q : Exit → Act → World → Prop} {G : Sigs} {F : Fns}

theorem eqLs_int {es : List EK} {l1 l2 : List L} {r : Bool} (h : eqLs (.int :: es) l1 l2 = some r) : ∃ k p xs q ys r', l1 = .int k p :: xs ∧ l2 = .int k q :: ys ∧ eqLs es xs ys = some r' ∧ r = ((p == q) && r') := by
 cases l1 with
 | nil => cases l2 <;> simp [eqLs] at h
 | cons x xs =>
  cases l2 with
  | nil => cases x <;> simp [eqLs] at h
  | cons y ys =>
   cases x <;> cases y <;> simp only [eqLs] at h <;> try (cases h; done)
   split at h
   ·rename_i hk
    subst hk
    rw [Option.map_eq_some_iff] at h
    obtain ⟨r', h1, h2⟩ := h
    exact ⟨_, _, _, _, _, r', rfl, rfl, h1, h2.symm⟩
   ·cases h
theorem eqLs_str {es : List EK} {l1 l2 : List L} {r : Bool} (h : eqLs (.str :: es) l1 l2 = some r) : ∃ p xs q ys r', l1 = .str p :: xs ∧ l2 = .str q :: ys ∧ eqLs es xs ys = some r' ∧ r = ((p.toList == q.toList) && r') := by
 cases l1 with
 | nil => cases l2 <;> simp [eqLs] at h
 | cons x xs =>
  cases l2 with
  | nil => cases x <;> simp [eqLs] at h
  | cons y ys =>
   cases x <;> cases y <;> simp only [eqLs] at h <;> try (cases h; done)
   rw [Option.map_eq_some_iff] at h
   obtain ⟨r', h1, h2⟩ := h
   exact ⟨_, _, _, _, r', rfl, rfl, h1, h2.symm⟩
theorem eqLs_bool {es : List EK} {l1 l2 : List L} {r : Bool} (h : eqLs (.bool :: es) l1 l2 = some r) : ∃ p xs q ys r', l1 = .bool p :: xs ∧ l2 = .bool q :: ys ∧ eqLs es xs ys = some r' ∧ r = ((p == q) && r') := by
 cases l1 with
 | nil => cases l2 <;> simp [eqLs] at h
 | cons x xs =>
  cases l2 with
  | nil => cases x <;> simp [eqLs] at h
  | cons y ys =>
   cases x <;> cases y <;> simp only [eqLs] at h <;> try (cases h; done)
   rw [Option.map_eq_some_iff] at h
   obtain ⟨r', h1, h2⟩ := h
   exact ⟨_, _, _, _, r', rfl, rfl, h1, h2.symm⟩

theorem eqLs_run {xs ys : Array Value} (d : Nat) : ∀ (fs : List Field) (i : Nat) (es : List EK) (l1 l2 : List L) (r : Bool), flatFs P i fs = some es → eqLs es l1 l2 = some r →
  (∀ (j : Nat) l, l1[j]? = some l → ∃ v, xs[i + j]? = some v ∧ ∃ S, RepL w I l v S) → (∀ (j : Nat) l, l2[j]? = some l → ∃ v, ys[i + j]? = some v ∧ ∃ S, RepL w I l v S) →
  (Op.eqFields (d + 1) xs ys fs).run P w = .ok r w
 | [], i, es, l1, l2, r, hf, he, _, _ => by
  simp only [flatFs, Option.some.injEq] at hf
  subst hf
  cases l1 with
  | nil =>
   cases l2 with
   | nil => simp only [eqLs, Option.some.injEq] at he; subst he; rfl
   | cons => simp [eqLs] at he
  | cons => simp [eqLs] at he
 | f :: fs, i, es, l1, l2, r, hf, he, h1, h2 => by
  simp only [flatFs] at hf
  split at hf
  ·rename_i hc
   obtain ⟨ho, hnm⟩ := hc
   have hpart : ∀ (zs : Array Value) (v : Value), P.underlying f.type = some .string ∨ P.underlying f.type = some .bool ∨ (∃ k, P.underlying f.type = some (.int k)) → zs[i]? = some v → (part f.type zs f.offset).run P w = .ok v w := by
    intro zs v hu hz
    have hg : aggB P f.type = some false := by
     unfold aggB
     rcases hu with hu | hu | ⟨k, hu⟩ <;> rw [hu] <;> rfl
    unfold part
    rw [Sem.run_bind, run_isAgg hg, Result.andThen_ok]
    simp [ho, hz]
   have shift : ∀ (zs : Array Value) (l : L) (ls : List L), (∀ (j : Nat) l', (l :: ls)[j]? = some l' → ∃ v, zs[i + j]? = some v ∧ ∃ S, RepL w I l' v S) → ∀ (j : Nat) l', ls[j]? = some l' → ∃ v, zs[i + 1 + j]? = some v ∧ ∃ S, RepL w I l' v S := by
    intro zs l ls h j l' hl
    have := h (j + 1) l' (by simpa using hl)
    rwa [show i + (j + 1) = i + 1 + j by omega] at this
   unfold Op.eqFields
   rw [if_pos hnm]
   cases hu : P.underlying f.type with
   | none => rw [hu] at hf; cases hf
   | some D =>
    cases hfs : flatFs P (i + 1) fs with
    | none => rw [hu, hfs] at hf; cases D <;> cases hf
    | some es' =>
     rw [hu, hfs] at hf
     cases D with
     | int k =>
      obtain rfl := Option.some.inj hf
      obtain ⟨k1, p, xs', q, ys', r', rfl, rfl, hr', rfl⟩ := eqLs_int he
      obtain ⟨v1, v1h, _, v1r⟩ := h1 0 _ rfl
      obtain ⟨v2, v2h, _, v2r⟩ := h2 0 _ rfl
      cases v1r; cases v2r
      rw [Nat.add_zero] at v1h v2h
      rw [Sem.run_bind, hpart xs _ (.inr (.inr ⟨k, hu⟩)) v1h, Result.andThen_ok, Sem.run_bind, hpart ys _ (.inr (.inr ⟨k, hu⟩)) v2h, Result.andThen_ok, Sem.run_bind, run_equalIn_int w d f.type k1 k p q hu, Result.andThen_ok]
      have ih := eqLs_run d fs (i + 1) _ xs' ys' r' hfs hr' (shift _ _ _ h1) (shift _ _ _ h2)
      cases hpq : (p == q)
      ·simp
      ·simp [ih]
     | string =>
      obtain rfl := Option.some.inj hf
      obtain ⟨p, xs', q, ys', r', rfl, rfl, hr', rfl⟩ := eqLs_str he
      obtain ⟨v1, v1h, _, v1r⟩ := h1 0 _ rfl
      obtain ⟨v2, v2h, _, v2r⟩ := h2 0 _ rfl
      cases v1r; cases v2r
      rw [Nat.add_zero] at v1h v2h
      rw [Sem.run_bind, hpart xs _ (.inl hu) v1h, Result.andThen_ok, Sem.run_bind, hpart ys _ (.inl hu) v2h, Result.andThen_ok, Sem.run_bind, run_equalIn_string w d f.type p q hu, Result.andThen_ok]
      have ih := eqLs_run d fs (i + 1) _ xs' ys' r' hfs hr' (shift _ _ _ h1) (shift _ _ _ h2)
      cases hpq : (p.toList == q.toList)
      ·simp
      ·simp [ih]
     | bool =>
      obtain rfl := Option.some.inj hf
      obtain ⟨p, xs', q, ys', r', rfl, rfl, hr', rfl⟩ := eqLs_bool he
      obtain ⟨v1, v1h, _, v1r⟩ := h1 0 _ rfl
      obtain ⟨v2, v2h, _, v2r⟩ := h2 0 _ rfl
      cases v1r; cases v2r
      rw [Nat.add_zero] at v1h v2h
      rw [Sem.run_bind, hpart xs _ (.inr (.inl hu)) v1h, Result.andThen_ok, Sem.run_bind, hpart ys _ (.inr (.inl hu)) v2h, Result.andThen_ok, Sem.run_bind, run_equalIn_bool' w d f.type p q hu, Result.andThen_ok]
      have ih := eqLs_run d fs (i + 1) _ xs' ys' r' hfs hr' (shift _ _ _ h1) (shift _ _ _ h2)
      cases hpq : (p == q)
      ·simp
      ·simp [ih]
     | _ => cases hf
  ·cases hf

theorem look_agg (h : Rel arg W I O s a.tmps w) {X : VS.X} {v : Value} (hX : XV a.tmps X v) {ls : List L} (hl : s.look (s.val X) = some (.agg ls)) : ∃ cs, v = .agg cs ∧ ∀ (j : Nat) l, ls[j]? = some l → ∃ u, cs[j]? = some u ∧ ∃ S, RepL w I l u S := by
 obtain ⟨t, S, ⟨cs, h1, h2, D, d1, d2, d3⟩, _⟩ := h.look hX hl
 refine ⟨cs, h1, fun j l hl => ?_⟩
 obtain ⟨u, u1, _, u2⟩ := d3 j l hl
 exact ⟨u, u1, _, u2⟩

theorem sound_eqs {o : Oper} {d : Tmp} {op : BinOp} {neg : Bool} {t ty : TypeId} {x y : Operand} {X Y : VS.X} {fs : Array Field} {es : List EK} (ho : o.op = .binOp op t x y ty) (hd : o.dst = some d) (hx : compX P t x = some X) (hy : compX P t y = some Y)
  (ht : P.underlying t = some (.struct fs)) (hfl : flatB P t fs = some es) (hop : op = if neg then .neq else .eql) : Sound1 P arg W G F o (.eqs d neg es X Y) := by
 intro I O s s' a w K Q h hdl hv hk
 replace hdl := hdl d rfl
 simp only [vop] at hv
 split at hv
 ·rename_i l1 l2 h1 h2
  split at hv
  ·rename_i r hr
   obtain rfl := (Option.some.inj hv).symm
   obtain ⟨c1, e1, g1⟩ := look_agg h (compX_val hx a) h1
   obtain ⟨c2, e2, g2⟩ := look_agg h (compX_val hy a) h2
   unfold flatB at hfl
   split at hfl
   ·rename_i hc
    have hfo : P.fieldsOf t = fs := by unfold Program.fieldsOf; rw [ht]
    have hrun0 : (Op.equalIn 10000 t (.agg c1) (.agg c2)).run P w = .ok r w := by
     rw [show (10000 : Nat) = 9999 + 1 from rfl, run_equalIn_struct w 9999 t c1 c2 (by rw [hfo]; exact ht) hc.1, hfo]
     exact eqLs_run 9998 fs.toList 0 es l1 l2 r hfl hr (fun j l hl => by rw [Nat.zero_add]; exact g1 j l hl) (fun j l hl => by rw [Nat.zero_add]; exact g2 j l hl)
    have hrun : (execOp a.eval o).run P w = .ok (.value (.bool (if neg then !r else r))) w := by
     simp only [execOp, ho, e1, e2]
     rw [Sem.run_bind, Sem.run_bind, run_eqGuard_agg w op t x y c1 c2 hc.2, Result.andThen_ok]
     subst hop
     cases neg
     ·simp only [Bool.false_eq_true, if_false, run_eql_struct, hrun0, Result.andThen_ok]
      rfl
     ·simp only [if_true, run_neq_struct, hrun0, Result.andThen_ok]
      rfl
    refine oper_value hrun (hk _ _ ?_)
    rw [hd]
    exact good_bool h hdl
   ·cases hfl
  ·cases hv
 ·cases hv

/-- Leaves laid over leaves, where both lie somewhere. -/
theorem RepRow.patch {row ls : List L} {get g1 get' : Nat → Option Value} {S S1 : Nat → Prop} {off : Nat} (h : RepRow w I row get S) (h1 : RepRow w I ls g1 S1) (hfit : off + ls.length ≤ row.length) (hd : ∀ x, S1 x → ¬ S x)
  (hg : ∀ j, j < row.length → get' j = if off ≤ j ∧ j < off + ls.length then g1 (j - off) else get j) : RepRow w I (VS.patch row off ls) get' (fun x => S x ∨ S1 x) := by
 obtain ⟨D, d1, d2, d3⟩ := h
 obtain ⟨E, e1, e2, e3⟩ := h1
 refine ⟨fun j x => if off ≤ j ∧ j < off + ls.length then E (j - off) x else D j x, fun j x hx => ?_, fun j j' x hx hx' => ?_, fun j l hlj => ?_⟩
 ·simp only at hx
  split at hx
  ·exact .inr (e1 _ x hx)
  ·exact .inl (d1 _ x hx)
 ·simp only at hx hx'
  split at hx <;> split at hx'
  ·have := e2 _ _ x hx hx'; omega
  ·exact absurd (d1 _ x hx') (hd x (e1 _ x hx))
  ·exact absurd (d1 _ x hx) (hd x (e1 _ x hx'))
  ·exact d2 _ _ x hx hx'
 ·have hjl : j < row.length := by have := (List.getElem?_eq_some_iff.1 hlj).1; rwa [patch_length] at this
  rw [patch_get ls row off j hfit] at hlj
  rw [hg j hjl]
  by_cases hj : off ≤ j ∧ j < off + ls.length
  ·rw [if_pos hj] at hlj
   rw [if_pos hj]
   obtain ⟨v, v1, v2, v3⟩ := e3 _ l hlj
   refine ⟨v, v1, v2, ?_⟩
   simp only [if_pos hj]
   exact v3
  ·rw [if_neg hj] at hlj
   rw [if_neg hj]
   obtain ⟨v, v1, v2, v3⟩ := d3 _ l hlj
   refine ⟨v, v1, v2, ?_⟩
   simp only [if_neg hj]
   exact v3

theorem below_setRow {B : Nat} {w0 : World} (h : Below B w0 w) (g : Nat) (hg : B ≤ g) (cs : Array Value) : Below B w0 (w.setRow g cs) :=
 h.trans ⟨rfl, rfl, rfl, by simp, fun k hk => setRow_other w g k cs (by omega)⟩

theorem sound_store {o : Oper} {t : TypeId} {ad x : Operand} {A X : VS.X} {n : Nat} (ho : o.op = .store t ad x) (hd : o.dst = none) (hA : compX P 0 ad = some A) (hx : compX P t x = some X) (hn : sizeB P t = some n) :
  Sound1 P arg W G F o (.store A X n) := by
 intro I O s s' a w K Q h _ hv hk
 simp only [vop] at hv
 split at hv
 ·rename_i c s1 ht
  split at hv
  ·cases hv
  ·rename_i hc
   simp only [not_or, Bool.not_eq_false, Decidable.not_not] at hc
   obtain ⟨hflat, hno, hlen⟩ := hc
   obtain ⟨S1, O1, r1, r2, r3⟩ := h.take (compX_val hx a) ht
   obtain ⟨q1, q2⟩ := flat_cells r1 hflat
   split at hv
   ·rename_i r p off hpl
    obtain ⟨b, o', row', hroot, hval⟩ := place_addr r2 (compX_val hA a) hpl
    split at hv
    ·rename_i row hsl
     by_cases hcond : off + n ≤ row.length ∧ (p = [] → (s1.e.get r).isBox = true)
     case neg => rw [if_neg hcond] at hv; cases hv
     rw [if_pos hcond] at hv
     obtain ⟨hfit, hbox⟩ := hcond
     split at hv
     ·rename_i s2 hpk
      obtain rfl := (Option.some.inj hv).symm
      obtain ⟨c0, B', S', hc0, f1, f2, f3, f4, f5⟩ := r2.slot hsl
      have hB := hroot.unique hc0 f1
      obtain ⟨hB, rfl⟩ := hB
      subst hB
      have hrc := r2.rep r
      rw [hc0] at hrc
      -- the block
      have hblk : ∃ cs e, w.heap[b]? = some (.cells cs e (0, 0)) ∧ o' + row'.length ≤ cs.size ∧ O1 r b ∧ ¬ S' b ∧ ∀ o2, p ≠ [] → c0.base (a.tmps.getD r undef) ≠ .addr b o2 := by
       by_cases hp : p = []
       ·subst hp
        have hbase : c0.base (a.tmps.getD r undef) = .addr b o' ∧ c0.row = row' := by
         generalize c0.base (a.tmps.getD r undef) = BB at f1
         generalize c0.row = rr at f1
         cases f1
         exact ⟨rfl, rfl⟩
        obtain ⟨m1, m2, cs, e, m3, m4⟩ := base_owned hrc hbase.1
        rw [hbase.2] at m4
        exact ⟨cs, e, m3, by omega, m1, fun hs => (f3 b hs).2 o' hbase.1, fun _ h => absurd rfl h⟩
       ·obtain ⟨b2, o2, cs, e, k1, k2, k3, k4, k5⟩ := f4 hp
        injection k1 with k1 k1'
        subst k1; subst k1'
        refine ⟨cs, e, k4, k5, k2, k3, fun o3 _ hb => ?_⟩
        obtain ⟨B3, S3, g1, g2, g3, g4, _⟩ := follow p (RepC.root hrc) f1.rowAt
        obtain ⟨rfl, _⟩ := g1.same f1
        obtain ⟨b5, o5, cs5, e5, m1, m2, _⟩ := g4 hp
        injection m1 with m1 _
        subst m1
        exact m2.2 o3 hb
      obtain ⟨cs, e, hb, hsize, hOb, hSb, hnbase⟩ := hblk
      have hvs : (a.eval x).cells.size = n := q1.trans hlen
      have hone : ∀ v ∈ (a.eval x).cells.toList, v.oneCell' = true := by
       intro v hv
       obtain ⟨j, hj, rfl⟩ := List.mem_iff_getElem.1 hv
       obtain ⟨u, u1, u2⟩ := row_cells q2 (j := j) (by simpa [q1] using hj)
       have he : (a.eval x).cells.toList[j] = u := (List.getElem_eq_iff hj).2 (by rw [Array.getElem?_toList]; exact u1)
       rw [he]
       exact u2
      have hst := run_storeCells_at P b (o' + off) e (a.eval x).cells.toList 0 cs w hb (by rw [Array.length_toList, hvs]; omega) hone
      simp only [Nat.add_zero, Array.length_toList, hvs] at hst
      generalize hcs' : ((cs.toList.take (o' + off) ++ (a.eval x).cells.toList ++ cs.toList.drop (o' + off + n)).toArray) = cs' at hst
      have hcsz : cs'.size = cs.size := by
       rw [← hcs']
       simp only [List.size_toArray, List.length_append, List.length_take, List.length_drop, Array.length_toList, hvs]
       omega
      have hget : ∀ k, cs'[k]? = if o' + off ≤ k ∧ k < o' + off + n then (a.eval x).cells[k - (o' + off)]? else cs[k]? := by
       intro k
       rw [← hcs', List.getElem?_toArray]
       by_cases h1 : k < o' + off
       ·rw [List.append_assoc, List.getElem?_append_left (by simp; omega), List.getElem?_take_of_lt h1, if_neg (by omega), Array.getElem?_toList]
       ·by_cases h2 : k < o' + off + n
        ·rw [List.getElem?_append_left (by simp; omega), List.getElem?_append_right (by simp; omega), if_pos ⟨by omega, h2⟩, Array.getElem?_toList]
         congr 1
         simp
         omega
        ·rw [List.getElem?_append_right (by simp; omega), List.getElem?_drop, if_neg (by omega), Array.getElem?_toList]
         congr 1
         simp
         omega
      have hrun : (execOp a.eval o).run P w = .ok .skip (w.setRow b cs') := by
       simp only [execOp, ho, hval, Instr.storeAt, Instr.sureAddr, storeVar]
       simp only [Sem.run_bind, Sem.run_pure, Result.andThen_ok, run_sizeOf hn, hvs, ne_eq, not_true, if_false, hst]
      have hb' : (w.setRow b cs').heap[b]? = some (.cells cs' e (0, 0)) := setRow_heap w b cs cs' e _ hb
      have hoth : ∀ k, k ≠ b → (w.setRow b cs').heap[k]? = w.heap[k]? := fun k hk => setRow_other w b k cs' hk
      have hS1 : ∀ y, S1 y → y ≠ b := fun y hy he => r3.2.2 r b hOb (he ▸ hy)
      have hIb : ¬ I b := r2.notI r b hOb
      have hnew : RepRow (w.setRow b cs') I (patch row' off c.row) ((Base.addr b o').get (w.setRow b cs')) (fun y => S' y ∨ S1 y) := by
       refine RepRow.patch (get := (Base.addr b o').get w) (g1 := fun j => (a.eval x).cells[j]?) (f2.world (fun _ _ => rfl) fun y hy => hoth y (hy.elim (fun hy he => hSb (he ▸ hy)) fun hy he => hIb (he ▸ hy))) (q2.world (fun _ _ => rfl) fun y hy => hoth y (hy.elim (hS1 y) fun hy he => hIb (he ▸ hy))) (by omega) (fun y hy hs => r3.2.2 r y (f3 y hs).1 hy) (fun j hj => ?_)
       simp only [Base.get]
       rw [cell_of hb', cell_of hb, hget (o' + j), hlen]
       by_cases hj : off ≤ j ∧ j < off + n
       ·rw [if_pos (by omega), if_pos hj]
        congr 1
        omega
       ·rw [if_neg (by omega), if_neg hj]
      have hk' := r2.poke (w' := w.setRow b cs') (I' := I) (T := fun y => S' y ∨ S1 y) (N := S1) (o := off) (ls := c.row) hc0 f1 f3 (fun hp b2 o2 hB => by
        injection hB with hB _
        subst hB
        exact ⟨hOb, hSb, fun o3 => hnbase o3 hp⟩) f5 hpk (by omega) hnew (fun _ h => h) (fun y hy => ⟨by obtain ⟨t, ht⟩ := r3.1 y hy; simpa using h.olt t y ht, (by obtain ⟨t, ht⟩ := r3.1 y hy; exact h.notI t y ht), fun t ht => r3.2.2 t y ht hy⟩)
        (below_setRow r2.bel b (Nat.le_of_not_lt fun hlt => hIb (r2.old b hlt)) cs') (by simp) (fun _ h => h) (fun y hy => by simpa using r2.ilt y hy) (fun y hy hn => absurd hy hn)
        (fun y hy _ => hoth y fun he => hy o' (by rw [he])) (fun b2 o2 hB => by
         injection hB with hB1 hB2
         subst hB1; subst hB2
         refine ⟨cs, cs', e, hb, hb', hcsz, fun k hkk => ?_⟩
         rw [hget k, if_neg (by omega)])
        (fun hp t row0 hcc => by
         have := hbox hp
         rw [hc0, hcc] at this
         cases this)
        (fun j t0 hj => by
         obtain ⟨p1, p2⟩ := patch_self (by omega) hno hj
         refine ⟨p1, fun b2 o2 cs2 cs3 e2 e3 hB m1 m2 => ?_⟩
         injection hB with hB1 hB2
         subst hB1; subst hB2
         rw [hb] at m1
         rw [hb'] at m2
         simp only [Option.some.injEq, Obj.cells.injEq] at m1 m2
         exact ⟨by rw [← m1.1, ← m2.1, hget, if_neg (by omega)], by rw [← m2.2.1, m1.2.1]⟩)
      rw [hlen] at hk'
      refine oper_skip hrun (hk _ _ ?_)
      rw [hd]
      refine ⟨I, _, rfl, rfl, hk', ⟨fun _ h => h, by simp, fun y hy hno => hoth y fun he => hno r (r3.2.1 r y (he ▸ hOb)), fun y hy => ?_⟩, fun _ _ => rfl⟩
      rcases hy with ⟨t, hy⟩ | hy
      ·by_cases ht : t = r
       ·simp only [ht, if_true] at hy
        rcases hy with (hy | hy) | ⟨o2, hy⟩
        ·exact .inl ⟨r, r3.2.1 r y hy.1.1⟩
        ·exact .inl (r3.1 y hy)
        ·exact .inl ⟨r, r3.2.1 r y (base_owned hrc hy).1⟩
       ·simp only [ht, if_false] at hy
        exact .inl ⟨t, r3.2.1 t y hy⟩
      ·exact .inr (.inl hy)
     ·cases hv
    ·cases hv
   ·cases hv
 ·cases hv

end Go.VS

/- Operations, sixth part: slices of slices; append. -/
namespace Go.VS
open Go Go.RowKit
set_option linter.unusedSimpArgs false
set_option linter.unusedVariables false

variable {P : Program} {arg : Tmp → Value} {W w w' : World} {I I' : Nat → Prop} {O O' : Tmp → Nat → Prop} {s s' : RS} {a : Act} {K : Act → World → Prop} {Q : Exit → Act → World → Prop} {G : Sigs} {F : Fns}

/-- A part of an immutable slice. -/
theorem imm_part {sz l h len cap : Nat} {rows : List (List L)} {ad : Option Addr} {S S' : Nat → Prop} (hr : RepL w I (.sl false sz rows) (.slice ad len cap) S) (h1 : l ≤ h) (h2 : h ≤ rows.length) :
  RepL w I (.sl false sz ((rows.take h).drop l)) (.slice (if cap = l then ad else ad.map (·.add (l * sz))) (h - l) (cap - l)) S' := by
 have hlen : ((rows.take h).drop l).length = h - l := by rw [List.length_drop, List.length_take]; omega
 by_cases he : h = l
 ·subst he
  have : (rows.take h).drop h = [] := List.drop_eq_nil_of_le (by rw [List.length_take]; omega)
  rw [this, Nat.sub_self]
  exact .nil _ _ _ _ _ (fun h => by cases h)
 ·cases hr with
  | nil => simp at h2; omega
  | imm _ _ _ b o _ cv hI hsz hcv hrep hlc =>
   have hne : ¬ cap = l := by omega
   rw [if_neg hne, Option.map_some, add_at, ← hlen]
   refine .imm sz _ _ b (o + l * sz) _ (fun i j => cv (l + i) j) hI (fun i r hr => ?_) (fun i j hi hj => ?_) (fun i j r lf hr hl => ?_) (by rw [hlen]; omega)
   ·rw [List.getElem?_drop] at hr
    have hi : l + i < h := by have := (List.getElem?_eq_some_iff.1 hr).1; rw [List.length_take] at this; omega
    rw [List.getElem?_take_of_lt hi] at hr
    exact hsz _ r hr
   ·rw [hlen] at hi
    have := hcv (l + i) j (by omega) hj
    rw [show o + ((l + i) * sz + j) = o + l * sz + (i * sz + j) by rw [Nat.add_mul]; omega] at this
    exact this
   ·rw [List.getElem?_drop] at hr
    have hi : l + i < h := by have := (List.getElem?_eq_some_iff.1 hr).1; rw [List.length_take] at this; omega
    rw [List.getElem?_take_of_lt hi] at hr
    exact hrep _ j r lf hr hl

theorem sl_cap {own : Bool} {sz len cap : Nat} {ad : Option Addr} {rows : List (List L)} {S : Nat → Prop} (h : RepL w I (.sl own sz rows) (.slice ad len cap) S) : rows.length ≤ cap ∧ len = rows.length := by
 cases h with
 | nil => exact ⟨Nat.zero_le _, rfl⟩
 | own _ _ _ b _ cs e cv D hS hlen => exact ⟨hlen, rfl⟩
 | imm _ _ _ b o _ cv hI hsz hcv hrep hlc => exact ⟨hlc, rfl⟩

theorem exec_subSl {o : Oper} {t e : TypeId} {x : Operand} {lo hi : Option Operand} {L H : Option VS.X} {sz l h n cap : Nat} {ad : Option Addr} (hrel : Rel arg W I O s a.tmps w) (ho : o.op = .slice t x lo hi none) (ht : P.underlying t = some (.slice e)) (hsz : sizeB P e = some sz)
  (hl : lo.mapM (compX P 0) = some L) (hh : hi.mapM (compX P 0) = some H) (hv : a.eval x = .slice ad n cap) (h1 : s.bound 0 L = some l) (h2 : s.bound n H = some h) (h3 : l ≤ h) (h4 : h ≤ cap) :
  (execOp a.eval o).run P w = .ok (.value (.slice (if cap = l then ad else ad.map (·.add (l * sz))) (h - l) (cap - l))) w := by
 have hb := run_bounds (P := P) (w := w) (isSlice := true) (len := n) (cap := cap) (l := l) (h := h) (lo := lo.map a.eval) (hi := hi.map a.eval)
  (by rcases bound_val hrel hl h1 with ⟨rfl, rfl⟩ | ⟨x, k, rfl, e⟩
      ·exact .inl ⟨rfl, rfl⟩
      ·exact .inr ⟨k, by simp [e]⟩)
  (by rcases bound_val hrel hh h2 with ⟨rfl, rfl⟩ | ⟨x, k, rfl, e⟩
      ·exact .inl ⟨rfl, rfl⟩
      ·exact .inr ⟨k, by simp [e]⟩) h3 h4
 simp only [execOp, ho, hv, Instr.sliceAt, Option.map_none]
 rw [Sem.run_bind, Sem.run_bind, run_underlying ht, Result.andThen_ok]
 simp only [Instr.slice]
 rw [Sem.run_bind, run_underlying ht, Result.andThen_ok]
 simp only [Sem.run_bind, hb, Result.andThen_ok, Sem.run_pure, run_sizeOf hsz]

theorem sound_subSl {o : Oper} {d : Tmp} {t e : TypeId} {x : Operand} {lo hi : Option Operand} {X : VS.X} {L H : Option VS.X} {sz : Nat} (ho : o.op = .slice t x lo hi none) (hd : o.dst = some d) (hx : compX P t x = some X)
  (hl : lo.mapM (compX P 0) = some L) (hh : hi.mapM (compX P 0) = some H) (ht : P.underlying t = some (.slice e)) (hsz : sizeB P e = some sz) : Sound1 P arg W G F o (.subSl d X L H sz) := by
 intro I O s s' a w K Q h hdl hv hk
 replace hdl := hdl d rfl
 have hX := compX_val hx a
 simp only [vop] at hv
 split at hv
 ·rename_i own sz' rows hlk
  obtain ⟨tt, S, hone, hr, hSO⟩ := look_leaf h hX hlk
  obtain ⟨ad, cap, hval⟩ := look_sl h hX hlk
  rw [hval] at hr
  have hcap := (sl_cap hr).1
  split at hv
  ·rename_i l hi' h1 h2
   by_cases hcond : sz' = sz ∧ l ≤ hi' ∧ hi' ≤ rows.length
   case neg => rw [if_neg hcond] at hv; cases hv
   rw [if_pos hcond] at hv
   obtain ⟨rfl, h3, h4⟩ := hcond
   refine oper_value (exec_subSl h ho ht hsz hl hh hval h1 h2 h3 (by omega)) (hk _ _ ?_)
   rw [hd]
   cases own with
   | false =>
    obtain rfl := (Option.some.inj hv).symm
    exact good_free h hdl (Below.refl _ _) ⟨rfl, imm_part hr h3 h4⟩ (fun _ _ _ h => by cases h)
   | true =>
    simp only [if_true] at hv
    split at hv
    ·rename_i r p c hpl
     split at hv
     ·rename_i s1 hpk
      obtain rfl := (Option.some.inj hv).symm
      -- the leaf in its place
      have hplace : ∃ row, slotAt s.e r p = some row ∧ row[c]? = some (.sl true sz' rows) ∧ ∀ B row', Roots w s.e a.tmps r p B row' → B.get w c = some (a.eval x) := by
       cases X with
       | c c0 => cases hpl
       | t t0 =>
        simp only [XV] at hX
        simp only [RS.val] at hlk
        simp only at hpl
        split at hpl
        ·rename_i l0 hg
         simp only [Option.some.injEq, Prod.mk.injEq] at hpl
         obtain ⟨rfl, rfl, rfl⟩ := hpl
         rw [hg] at hlk
         simp only [RS.look, Option.some.injEq, CV.leaf.injEq] at hlk
         subst hlk
         refine ⟨[.sl true sz' rows], by simp [slotAt, rowOf, hg, CV.row, VS.rowAt], rfl, fun B row' ⟨c2, g1, g2⟩ => ?_⟩
         rw [hg] at g1
         obtain rfl := AV.v.inj g1
         cases g2
         rw [hX]
         rfl
        ·rename_i r' p' o' n' g hg
         simp only [Option.some.injEq, Prod.mk.injEq] at hpl
         obtain ⟨rfl, rfl, rfl⟩ := hpl
         rw [hg] at hlk
         simp only [RS.look] at hlk
         split at hlk
         ·rename_i hcl
          split at hlk
          ·rename_i row hsl
           cases g with
           | true => simp only [cellsOf, if_true] at hlk; split at hlk <;> cases hlk
           | false =>
            simp only [cellsOf, if_false, Bool.false_eq_true] at hlk
            split at hlk
            ·rename_i l0 hl0
             simp only [Option.some.injEq, CV.leaf.injEq] at hlk
             subst hlk
             refine ⟨row, hsl, hl0, fun B row' hro => ?_⟩
             obtain ⟨B2, row2, k1, k0, k2, k3⟩ := rel_ld h hg hcl
             obtain ⟨c2, g1, g2⟩ := hro
             obtain ⟨rfl, _⟩ := k1.unique g1 g2
             rw [hX]
             exact (k3 rfl).2
            ·cases hlk
          ·cases hlk
         ·cases hlk
        ·cases hpl
      obtain ⟨row, hsl, hrc, hcell⟩ := hplace
      obtain ⟨c0, B', S', hc0, f1, f2, f3, f4, f5⟩ := h.slot hsl
      have hBc := hcell B' row ⟨c0, hc0, f1⟩
      have hrr := h.rep r
      rw [hc0] at hrr
      obtain ⟨D, d1, d2, d3⟩ := f2
      obtain ⟨u, u1, u2, u3⟩ := d3 c _ hrc
      rw [hBc] at u1
      obtain rfl := Option.some.inj u1
      let I' : Nat → Prop := fun x => I x ∨ D c x
      have hclt : c < row.length := (List.getElem?_eq_some_iff.1 hrc).1
      have hnew : RepRow w I' (patch row c [.sl false sz' (freezeRR rows)]) (B'.get w) (fun x => ∃ j, j ≠ c ∧ D j x) := by
       refine ⟨fun j x => j ≠ c ∧ D j x, fun j x hx => ⟨j, hx⟩, fun j j' x hx hx' => d2 j j' x hx.2 hx'.2, fun j lf hlf => ?_⟩
       rw [patch_get _ _ _ _ (by simp; omega)] at hlf
       by_cases hj : j = c
       ·subst hj
        rw [if_pos (by simp), Nat.sub_self] at hlf
        obtain rfl := Option.some.inj hlf
        refine ⟨a.eval x, hBc, u2, ?_⟩
        have := u3.freeze (I' := I') (S' := fun _ => False) (fun b hb => .inr hb) (fun b hb => .inl hb)
        exact this.mono (fun _ h => h) (fun _ h => h.elim)
       ·rw [if_neg (by simp; omega)] at hlf
        obtain ⟨v', v1, v2, v3⟩ := d3 j lf hlf
        exact ⟨v', v1, v2, v3.mono (fun _ h => .inl h) fun x hx => ⟨hj, hx⟩⟩
      have hDO : ∀ x, D c x → O r x := fun x hx => (f3 x (d1 c x hx)).1
      have hbo : ∀ b o', B' = .addr b o' → ∃ cs e, w.heap[b]? = some (.cells cs e (0, 0)) := fun b o' hB => by
       by_cases hp : p = []
       ·subst hp
        have hbase : c0.base (a.tmps.getD r undef) = .addr b o' := by
         rw [← hB]
         generalize c0.base (a.tmps.getD r undef) = BB at f1
         generalize c0.row = rr at f1
         cases f1; rfl
        obtain ⟨_, _, cs, e, m, _⟩ := base_owned hrr hbase
        exact ⟨cs, e, m⟩
       ·obtain ⟨b2, o2, cs, e, k1, _, _, k4, _⟩ := f4 hp
        rw [k1] at hB
        injection hB with h1 h2
        exact ⟨cs, e, h1 ▸ k4⟩
      have hk' := h.poke (w' := w) (I' := I') (T := fun x => ∃ j, j ≠ c ∧ D j x) (N := fun _ => False) (o := c) (ls := [.sl false sz' (freezeRR rows)]) hc0 f1 f3
       (fun hp b o' hB => by
        obtain ⟨b2, o2, cs, e, k1, k2, k3, _⟩ := f4 hp
        rw [k1] at hB
        injection hB with h1 h2
        subst h1
        refine ⟨k2, k3, fun o3 hb => ?_⟩
        obtain ⟨B3, S3, g1, g2, g3, g4, _⟩ := follow p (RepC.root hrr) f1.rowAt
        obtain ⟨rfl, _⟩ := g1.same f1
        obtain ⟨b5, o5, cs5, e5, m1, m2, _⟩ := g4 hp
        rw [k1] at m1
        injection m1 with m1 _
        subst m1
        exact m2.2 o3 hb)
       f5 hpk (by simp; omega) hnew (fun x ⟨j, _, hx⟩ => .inl (d1 j x hx)) (fun x hx => hx.elim) h.bel (Nat.le_refl _) (fun _ h => .inl h) (fun x hx => hx.elim (h.ilt x) fun hx => h.olt r x (hDO x hx))
       (fun x hx hn => .inr (by
        have hx := hx.resolve_left hn
        exact ⟨hDO x hx, d1 c x hx, fun ⟨j, hj, hjx⟩ => hj (d2 j c x hjx hx)⟩))
       (fun _ _ _ => rfl) (fun b o' hB => by
        obtain ⟨cs, e, m⟩ := hbo b o' hB
        exact ⟨cs, cs, e, m, m, rfl, fun _ _ => rfl⟩) (fun _ _ _ _ _ _ => rfl)
       (fun j t0 hj => ⟨(patch_self (by simp; omega) rfl hj).1, fun b o2 cs cs2 e e2 _ m1 m2 => by rw [m1] at m2; simp only [Option.some.injEq, Obj.cells.injEq] at m2; exact ⟨by rw [m2.1], m2.2.1.symm⟩⟩)
      simp only [List.length_cons, List.length_nil, Nat.zero_add] at hk'
      have hfr : RepL w I' (.sl false sz' (freezeRR rows)) (.slice ad rows.length cap) (fun _ => False) := by
       have := u3.freeze (I' := I') (S' := fun _ => False) (fun b hb => .inr hb) (fun b hb => .inl hb)
       rw [hval] at this
       exact this
      have hpart := imm_part (S' := fun _ => False) hfr h3 (by rw [freezeRR_length]; exact h4)
      obtain ⟨I2, O2, z1, z2, z3, z4, z5⟩ := good_free (av := .v (.leaf _)) hk' hdl (Below.refl _ _) ⟨rfl, hpart⟩ (fun _ _ _ h => by cases h)
      refine ⟨I2, O2, z1, z2, z3, Ext.trans ⟨fun _ h => .inl h, Nat.le_refl _, fun _ _ _ => rfl, fun b hb => ?_⟩ hk'.notI z4, z5⟩
      rcases hb with ⟨t, hb⟩ | hb | hb
      ·by_cases ht : t = r
       ·simp only [ht, if_true] at hb
        rcases hb with (hb | hb) | ⟨o2, hb⟩
        ·exact .inl ⟨r, hb.1.1⟩
        ·exact hb.elim
        ·exact .inl ⟨r, (base_owned hrr hb).1⟩
       ·simp only [ht, if_false] at hb
        exact .inl ⟨t, hb⟩
      ·exact .inr (.inl hb)
      ·exact .inl ⟨r, hDO b hb⟩
     ·cases hv
    ·cases hv
  ·cases hv
 ·cases hv

/-- The cells of a slice, as a list; and they are there. -/
def CellsAt (w : World) (v : Value) (n sz : Nat) (xs : List Value) : Prop :=
 xs.length = n * sz ∧ ∃ ad cap, v = .slice ad n cap ∧ (n = 0 ∨ ∃ b q, ad = some ⟨b, q, none⟩ ∧ ∀ (j : Nat) u, xs[j]? = some u → w.cell? ⟨b, q + j, none⟩ = some u)
theorem sound_cut0 {o : Oper} {d : Tmp} {t e : TypeId} {x : Operand} {X : VS.X} {sz : Nat} {k1 k2 : IntKind} (ho : o.op = .slice t x none (some (.const (.int k1 0))) (some (.const (.int k2 0)))) (hd : o.dst = some d) (hx : compX P t x = some X) (ht : P.underlying t = some (.slice e)) (hsz : sizeB P e = some sz) : Sound1 P arg W G F o (.cut0 d X sz) := by
 intro I O s s' a w K Q h hdl hv hk
 replace hdl := hdl d rfl
 have hX := compX_val hx a
 simp only [vop] at hv
 split at hv
 ·rename_i own sz' rows hlk
  obtain ⟨ad, cap, hval⟩ := look_sl h hX hlk
  split at hv
  ·obtain rfl := (Option.some.inj hv).symm
   have hrun : (execOp a.eval o).run P w = .ok (.value (.slice ad 0 0)) w := by
    simp only [execOp, ho, hval, Instr.sliceAt, Option.map_none, Option.map_some]
    rw [Sem.run_bind, Sem.run_bind, run_underlying ht, Result.andThen_ok]
    simp only [Instr.slice]
    rw [Sem.run_bind, run_underlying ht, Result.andThen_ok]
    simp [Instr.sliceBounds, Instr.sliceBound, asIntOf, Act.eval, run_sizeOf hsz]
   refine oper_value hrun (hk _ _ ?_)
   rw [hd]
   exact good_free h hdl (Below.refl _ _) ⟨rfl, .nil _ _ _ _ _ (fun _ => rfl)⟩ (fun _ _ _ h => by cases h)
  ·cases hv
 ·cases hv
theorem run_first {v : Value} {n sz : Nat} {xs : List Value} (h : CellsAt w v n sz xs) : (Builtin.firstCells sz n v).run P w = .ok xs.toArray w := by
 obtain ⟨hl, ad, cap, rfl, hc⟩ := h
 rcases hc with rfl | ⟨b, q, rfl, hc⟩
 ·simp at hl
  subst hl
  cases ad with
  | none => rfl
  | some ad => simp [Builtin.firstCells, loadCells, loadCellsFrom]
 ·exact run_firstCells_some (P := P) w sz n ⟨b, q, none⟩ n cap xs hl (fun j u hj => by rw [add_at]; exact hc j u hj)

/-- Rows out of cells. -/
theorem div_mod_row {k n sz : Nat} (hs : 0 < sz) (hk : k < n * sz) : k / sz < n ∧ k % sz < sz ∧ k = k / sz * sz + k % sz := by
 refine ⟨Nat.div_lt_of_lt_mul (by rwa [Nat.mul_comm]), Nat.mod_lt _ hs, ?_⟩
 rw [Nat.mul_comm]
 exact (Nat.div_add_mod k sz).symm

/-- A slice's cells as a list, with what they hold. -/
theorem sl_list {own : Bool} {sz : Nat} {rows : List (List L)} {v : Value} {S : Nat → Prop} (h : RepL w I (.sl own sz rows) v S) (hs : 0 < sz) :
  ∃ xs, CellsAt w v rows.length sz xs ∧ (∀ u ∈ xs, u.oneCell' = true) ∧ ∃ D : Nat → Nat → Nat → Prop, (∀ i j x, D i j x → S x) ∧ (∀ i j i' j' x, D i j x → D i' j' x → i = i' ∧ j = j') ∧
   (∀ (i : Nat) r, rows[i]? = some r → r.length = sz) ∧ ∀ (i j : Nat) r l, rows[i]? = some r → r[j]? = some l → ∃ u, xs[i * sz + j]? = some u ∧ RepL w I l u (D i j) := by
 cases h with
 | nil o _ _ ad cap hn =>
  exact ⟨[], ⟨by simp, ad, cap, rfl, .inl rfl⟩, (fun u hu => by cases hu), fun _ _ _ => False, fun _ _ _ h => h.elim, fun _ _ _ _ _ h => h.elim, fun i r hr => by simp at hr, fun i j r l hr => by simp at hr⟩
 | own _ _ _ b cap cs e cv D hS hlen hcap hb hcs hsz hcv hD hdis hrep =>
  have hle : rows.length * sz ≤ cs.size := by rw [hcs]; exact Nat.mul_le_mul_right sz hlen
  refine ⟨cs.toList.take (rows.length * sz), ⟨by rw [List.length_take]; exact Nat.min_eq_left (by simpa using hle), _, cap, rfl, .inr ⟨b, 0, rfl, fun j u hj => ?_⟩⟩, fun u hu => ?_, D, fun i j x hx => (hD i j x hx).1, hdis, hsz, fun i j r l hr hl => ?_⟩
  ·have hjl : j < rows.length * sz := by have := (List.getElem?_eq_some_iff.1 hj).1; rw [List.length_take] at this; omega
   rw [List.getElem?_take_of_lt hjl, Array.getElem?_toList] at hj
   rw [Nat.zero_add, cell_of hb]
   exact hj
  ·obtain ⟨k, hk, rfl⟩ := List.mem_iff_getElem.1 hu
   have hkl : k < rows.length * sz := by rw [List.length_take] at hk; omega
   obtain ⟨g1, g2, g3⟩ := div_mod_row hs hkl
   have := hcv _ _ g1 g2
   rw [← g3] at this
   rw [List.getElem_take, Array.getElem_toList]
   obtain ⟨hlt, he⟩ := Array.getElem?_eq_some_iff.1 this.1
   rw [he]
   exact this.2
  ·have hi := (List.getElem?_eq_some_iff.1 hr).1
   have hj : j < sz := by rw [← hsz i r hr]; exact (List.getElem?_eq_some_iff.1 hl).1
   have hk : i * sz + j < rows.length * sz := by
    have : (i + 1) * sz ≤ rows.length * sz := Nat.mul_le_mul_right sz hi
    rw [Nat.add_mul, Nat.one_mul] at this
    omega
   refine ⟨cv i j, ?_, hrep i j r l hr hl⟩
   rw [List.getElem?_take_of_lt hk, Array.getElem?_toList]
   exact (hcv i j hi hj).1
 | imm _ _ _ b o cap cv hI hsz hcv hrep hlc =>
  let xs : List Value := (List.range (rows.length * sz)).map fun k => cv (k / sz) (k % sz)
  have hxl : xs.length = rows.length * sz := by simp [xs]
  have hxg : ∀ k, k < rows.length * sz → xs[k]? = some (cv (k / sz) (k % sz)) := fun k hk => by simp [xs, hk]
  refine ⟨xs, ⟨hxl, _, cap, rfl, .inr ⟨b, o, rfl, fun j u hj => ?_⟩⟩, fun u hu => ?_, fun _ _ _ => False, fun _ _ _ h => h.elim, fun _ _ _ _ _ h => h.elim, hsz, fun i j r l hr hl => ?_⟩
  ·have hjl : j < rows.length * sz := by rw [← hxl]; exact (List.getElem?_eq_some_iff.1 hj).1
   rw [hxg j hjl] at hj
   obtain rfl := Option.some.inj hj
   obtain ⟨g1, g2, g3⟩ := div_mod_row hs hjl
   have := (hcv _ _ g1 g2).1
   rw [← g3] at this
   exact this
  ·obtain ⟨k, hk, rfl⟩ := List.mem_iff_getElem.1 hu
   rw [hxl] at hk
   obtain ⟨g1, g2, g3⟩ := div_mod_row hs hk
   have := (hcv _ _ g1 g2).2
   simpa [xs] using this
  ·have hi := (List.getElem?_eq_some_iff.1 hr).1
   have hj : j < sz := by rw [← hsz i r hr]; exact (List.getElem?_eq_some_iff.1 hl).1
   have hk : i * sz + j < rows.length * sz := by
    have : (i + 1) * sz ≤ rows.length * sz := Nat.mul_le_mul_right sz hi
    rw [Nat.add_mul, Nat.one_mul] at this
    omega
   refine ⟨cv i j, ?_, hrep i j r l hr hl⟩
   rw [hxg _ hk]
   have e1 : (i * sz + j) / sz = i := by rw [Nat.mul_comm, Nat.mul_add_div hs, Nat.div_eq_of_lt hj, Nat.add_zero]
   have e2 : (i * sz + j) % sz = j := by rw [Nat.mul_comm, Nat.mul_add_mod, Nat.mod_eq_of_lt hj]
   rw [e1, e2]

/-- What is appended: so many elements, their cells; the same in a world that has the same blocks. -/
structure Source (P : Program) (u : TypeId) (x : Value) (m sz : Nat) (news : List Value) (w : World) : Prop where
 notInt : ∃ D, P.underlying u = some D ∧ ∀ k, D ≠ .int k
 len : (Builtin.lenOf x).run P w = .ok m w
 cells : news.length = m * sz
 first : (Builtin.firstCells sz m x).run P w = .ok news.toArray w
 first' : (Builtin.firstCells sz m x).run P w.drew = .ok news.toArray w.drew
 one : ∀ v ∈ news, v.oneCell' = true

theorem append_room {t u ty e : TypeId} {i : TypeInfo} {x : Value} {b n cap m : Nat} {cs : Array Value} {e' : TypeId} {news : List Value} (ht : P.underlying t = some (.slice e)) (hi : P.info? e = some i) (hs : Source P u x m i.size news w)
  (hb : w.heap[b]? = some (.cells cs e' (0, 0))) (hroom : n + m ≤ cap) (hfit : n * i.size + news.length ≤ cs.size) :
  (Builtin.append_ #[t, u] ty #[.slice (some ⟨b, 0, none⟩) n cap, x]).run P w = .ok (.slice (some ⟨b, 0, none⟩) (n + m) cap) (w.setRow b (cs.toList.take (n * i.size) ++ news ++ cs.toList.drop (n * i.size + news.length)).toArray) := by
 obtain ⟨D, hD, hDi⟩ := hs.notInt
 have hst := run_storeCells_at P b (n * i.size) e' news 0 cs w hb (by simpa using hfit) hs.one
 simp only [Nat.add_zero] at hst
 have hz : (match D with | .int _ => true | _ => false) = false := by cases D <;> first | rfl | exact absurd rfl (hDi _)
 simp [Builtin.append_, run_underlying ht, run_underlying hD, sizeOf, typeInfo, hi, hz, hs.len, hroom, hs.first, add_at, hst]

theorem append_grow {t u ty e : TypeId} {i : TypeInfo} {z : Value} {x : Value} {v : Value} {n m : Nat} {cap : Nat} {ad : Option Addr} {olds news : List Value} (ht : P.underlying t = some (.slice e)) (hi : P.info? e = some i) (hz : i.zero = some z) (hs : Source P u x m i.size news w)
  (hold : (Builtin.firstCells i.size n (.slice ad n cap)).run P w.drew = .ok olds.toArray w.drew) (hg : cap < n + m) (h63 : n + m ≤ maxLen) (hb : (n + m) * i.bytes ≤ 140737488355328) :
  (Builtin.append_ #[t, u] ty #[.slice ad n cap, x]).run P w = .ok (.slice (some ⟨w.heap.size, 0, none⟩) (n + m) (grownCap w (n + m) cap e))
   (w.drew.alloc (.cells (olds.toArray ++ news.toArray ++ Builtin.zeroCells z.cells (grownCap w (n + m) cap e - (n + m))) e)) := by
 obtain ⟨D, hD, hDi⟩ := hs.notInt
 have hn : ¬ (n + m ≤ cap) := by omega
 have h63' : ¬ (9223372036854775807 < ((n : Int) + (m : Int))) := by unfold maxLen at h63; omega
 have h48' : ¬ (281474976710656 < Builtin.nextslicecap (n + m) cap * i.bytes) := by have := growslice_fits hg hb; omega
 have hzz : (match D with | .int _ => true | _ => false) = false := by cases D <;> first | rfl | exact absurd rfl (hDi _)
 simp [Builtin.append_, run_underlying ht, run_underlying hD, sizeOf, typeInfo, zeroValue, hi, hz, hzz, hs.len, hn, h63', h48', Question.forced, hs.first', hold, newRow, grownCap]
 congr 2
 apply Array.ext'
 simp [List.append_assoc]

theorem CellsAt.drew {v : Value} {n sz : Nat} {xs : List Value} (h : CellsAt w v n sz xs) : CellsAt w.drew v n sz xs := by
 obtain ⟨hl, ad, cap, rfl, hc⟩ := h
 exact ⟨hl, ad, cap, rfl, hc⟩
theorem source_slice {u e' : TypeId} {v : Value} {m sz : Nat} {xs : List Value} (hu : P.underlying u = some (.slice e')) (h : CellsAt w v m sz xs) (h1 : ∀ u ∈ xs, u.oneCell' = true) : Source P u v m sz xs w := by
 refine ⟨⟨_, hu, fun k h => by cases h⟩, ?_, h.1, run_first h, run_first h.drew, h1⟩
 obtain ⟨hl, ad, cap, rfl, hc⟩ := h
 rfl
theorem source_str {u : TypeId} {b : ByteArray} (hu : P.underlying u = some .string) : Source P u (.string b) b.size 1 (b.data.toList.map fun x => Value.int .u8 x.toNat) w := by
 have hex : b.extract 0 b.size = b := by
  apply ByteArray.ext
  rw [ByteArray.data_extract]
  exact Array.extract_eq_self_of_le (Nat.le_refl _)
 refine ⟨⟨_, hu, fun k h => by cases h⟩, rfl, (by rw [List.length_map, Array.length_toList, Nat.mul_one]; rfl), ?_, ?_, fun v hv => ?_⟩
 ·simp only [Builtin.firstCells, hex, Sem.run_pure]
  congr 1
  apply Array.ext'
  simp
 ·simp only [Builtin.firstCells, hex, Sem.run_pure]
  congr 1
  apply Array.ext'
  simp
 ·obtain ⟨x, _, rfl⟩ := List.mem_map.1 hv
  rfl

/-- What has been appended, in rows. -/
structure Rows2 (w : World) (I : Nat → Prop) (sz : Nat) (rows2 : List (List L)) (news : List Value) (S2 : Nat → Prop) : Prop where
 len : news.length = rows2.length * sz
 one : ∀ v ∈ news, v.oneCell' = true
 ex : ∃ D : Nat → Nat → Nat → Prop, (∀ i j x, D i j x → S2 x) ∧ (∀ i j i' j' x, D i j x → D i' j' x → i = i' ∧ j = j') ∧
   (∀ (i : Nat) r, rows2[i]? = some r → r.length = sz) ∧ ∀ (i j : Nat) r l, rows2[i]? = some r → r[j]? = some l → ∃ u, news[i * sz + j]? = some u ∧ RepL w I l u (D i j)

theorem Rows2.world {sz : Nat} {rows2 : List (List L)} {news : List Value} {S2 : Nat → Prop} (h : Rows2 w I sz rows2 news S2) (hw : ∀ b, S2 b ∨ I b → w'.heap[b]? = w.heap[b]?) : Rows2 w' I sz rows2 news S2 := by
 obtain ⟨h1, h2, D, d1, d2, d3, d4⟩ := h
 refine ⟨h1, h2, D, d1, d2, d3, fun i j r l hr hl => ?_⟩
 obtain ⟨u, u1, u2⟩ := d4 i j r l hr hl
 exact ⟨u, u1, u2.world fun b hb => hw b (hb.imp (d1 i j b) id)⟩

/-- Rows behind rows. -/
theorem Rows2.append {sz : Nat} {rows rows2 : List (List L)} {xs news : List Value} {S S2 : Nat → Prop} (hs : 0 < sz) (h : Rows2 w I sz rows xs S) (k : Rows2 w I sz rows2 news S2) (hd : ∀ x, S2 x → ¬ S x) : Rows2 w I sz (rows ++ rows2) (xs ++ news) (fun x => S x ∨ S2 x) := by
 obtain ⟨h1, h2, D, d1, d2, d3, d4⟩ := h
 obtain ⟨k1, k2, E, e1, e2, e3, e4⟩ := k
 refine ⟨by rw [List.length_append, List.length_append, h1, k1, Nat.add_mul], fun v hv => (List.mem_append.1 hv).elim (h2 v) (k2 v), fun i j x => if i < rows.length then D i j x else E (i - rows.length) j x, fun i j x hx => ?_, fun i j i' j' x hx hx' => ?_, fun i r hr => ?_, fun i j r l hr hl => ?_⟩
 ·simp only at hx
  split at hx
  ·exact .inl (d1 i j x hx)
  ·exact .inr (e1 _ j x hx)
 ·simp only at hx hx'
  split at hx <;> split at hx'
  ·exact d2 i j i' j' x hx hx'
  ·exact absurd (d1 _ _ x hx) (hd x (e1 _ _ x hx'))
  ·exact absurd (d1 _ _ x hx') (hd x (e1 _ _ x hx))
  ·have := e2 _ _ _ _ x hx hx'
   exact ⟨by omega, this.2⟩
 ·by_cases hi : i < rows.length
  ·rw [List.getElem?_append_left hi] at hr
   exact d3 i r hr
  ·rw [List.getElem?_append_right (by omega)] at hr
   exact e3 _ r hr
 ·by_cases hi : i < rows.length
  ·rw [List.getElem?_append_left hi] at hr
   obtain ⟨u, u1, u2⟩ := d4 i j r l hr hl
   refine ⟨u, ?_, by simp only [if_pos hi]; exact u2⟩
   rw [List.getElem?_append_left (List.getElem?_eq_some_iff.1 u1).1]
   exact u1
  ·rw [List.getElem?_append_right (by omega)] at hr
   obtain ⟨u, u1, u2⟩ := e4 _ j r l hr hl
   refine ⟨u, ?_, by simp only [if_neg hi]; exact u2⟩
   have hle : xs.length ≤ i * sz + j := by
    rw [h1]
    have : rows.length * sz ≤ i * sz := Nat.mul_le_mul_right sz (by omega)
    omega
   rw [List.getElem?_append_right hle, h1]
   rw [← u1]
   congr 1
   rw [Nat.sub_mul]
   have : rows.length * sz ≤ i * sz := Nat.mul_le_mul_right sz (by omega)
   omega

/-- Rows at the head of a block are an owned slice. -/
theorem Rows2.own {sz : Nat} {rows : List (List L)} {xs : List Value} {S : Nat → Prop} {b cap : Nat} {cs : Array Value} {e : TypeId} (h : Rows2 w I sz rows xs S) (hs : 0 < sz) (hb : w.heap[b]? = some (.cells cs e (0, 0))) (hcap : rows.length ≤ cap) (hm : cap ≤ maxLen) (hcs : cs.size = cap * sz)
  (hx : ∀ k, k < xs.length → cs[k]? = xs[k]?) (hne : ∀ x, S x → x ≠ b) : RepL w I (.sl true sz rows) (.slice (some ⟨b, 0, none⟩) rows.length cap) (fun x => S x ∨ x = b) := by
 obtain ⟨h1, h2, D, d1, d2, d3, d4⟩ := h
 have hk : ∀ i j, i < rows.length → j < sz → i * sz + j < xs.length := fun i j hi hj => by
  rw [h1]
  have : (i + 1) * sz ≤ rows.length * sz := Nat.mul_le_mul_right sz hi
  rw [Nat.add_mul, Nat.one_mul] at this
  omega
 refine .own sz rows _ b cap cs e (fun i j => (xs[i * sz + j]?).getD undef) D (.inr rfl) hcap hm hb hcs d3 (fun i j hi hj => ?_) (fun i j x hx => ⟨.inl (d1 i j x hx), hne x (d1 i j x hx)⟩) d2 (fun i j r l hr hl => ?_)
 ·have hlt := hk i j hi hj
  rw [hx _ hlt, List.getElem?_eq_getElem hlt]
  exact ⟨rfl, h2 _ (List.getElem_mem hlt)⟩
 ·obtain ⟨u, u1, u2⟩ := d4 i j r l hr hl
  rw [u1]
  exact u2

/-- The appended slice goes into a slot. -/
theorem good_app {d : Tmp} {t u e : TypeId} {i : TypeInfo} {z : Value} {rows rows2 : List (List L)} {news : List Value} {S S2 : Nat → Prop} {v x : Value} (h : Rel arg W I O s a.tmps w) (hd : d < a.tmps.size)
  (ht : P.underlying t = some (.slice e)) (hi : P.info? e = some i) (hz : i.zero = some z) (hzs : z.cells.size = i.size) (hpos : 0 < i.size)
  (hv : RepL w I (.sl true i.size rows) v S) (h' : Rel arg W I O' s' a.tmps w) (ho : Out O O' (fun y => S y ∨ S2 y)) (hd2 : ∀ y, S2 y → ¬ S y)
  (hs : Source P u x rows2.length i.size news w) (hr2 : Rows2 w I i.size rows2 news S2) (hb : (rows.length + rows2.length) * i.bytes ≤ 140737488355328) (hmax : rows.length + rows2.length ≤ maxLen) (ty : TypeId) :
  ∃ v' w', (Builtin.append_ #[t, u] ty #[v, x]).run P w = .ok v' w' ∧ Good arg W I O w a (s'.put d (.v (.leaf (.sl true i.size (rows ++ rows2))))) (some d) (a.put (some d) v') w' := by
 have hlt : ∀ b, S b ∨ S2 b → b < w.heap.size := fun b hb => by obtain ⟨t, ht⟩ := ho.1 b hb; exact h.olt t b ht
 have hnI : ∀ b, S b ∨ S2 b → ¬ I b := fun b hb => by obtain ⟨t, ht⟩ := ho.1 b hb; exact h.notI t b ht
 obtain ⟨xs, hxs, hone, D, d1, d2, d3, d4⟩ := sl_list hv hpos
 have hr1 : Rows2 w I i.size rows xs S := ⟨hxs.1, hone, D, d1, d2, d3, d4⟩
 -- the new slot, once the value lies as it should in a later world
 have fin : ∀ (v' : Value) (w' : World) (T : Nat → Prop), Below W.heap.size W w' → w.heap.size ≤ w'.heap.size → (∀ b, b < w.heap.size → ¬ (S b ∨ S2 b) → w'.heap[b]? = w.heap[b]?) → (∀ b, T b → S b ∨ S2 b ∨ (w.heap.size ≤ b ∧ b < w'.heap.size)) →
   v'.oneCell' = true → RepL w' I (.sl true i.size (rows ++ rows2)) v' T → Good arg W I O w a (s'.put d (.v (.leaf (.sl true i.size (rows ++ rows2))))) (some d) (a.put (some d) v') w' := by
  intro v' w' T hbel hsz hkept hT h1 hrep
  -- the others do not see the change
  have h'' : Rel arg W I O' s' a.tmps w' := by
   refine ⟨hbel, h'.old, fun b hb => Nat.lt_of_lt_of_le (h'.ilt b hb) hsz, fun t b hb => Nat.lt_of_lt_of_le (h'.olt t b hb) hsz, h'.notI, h'.disj, fun t => ?_⟩
   have hk : ∀ b, (∃ t, O' t b) ∨ I b → w'.heap[b]? = w.heap[b]? := fun b hb => hkept b (hb.elim (fun ⟨t, ht⟩ => h'.olt t b ht) (h'.ilt b)) (fun hs => hb.elim (fun ⟨t, ht⟩ => ho.2.2 t b ht hs) (hnI b hs))
   have hr := h'.rep t
   have hroot : ∀ r p B row, Roots w s'.e a.tmps r p B row → Roots w' s'.e a.tmps r p B row ∧ ∀ j, j < row.length → B.get w' j = B.get w j := fun r p B row ⟨c, g1, g2⟩ => by
    have hrr := h'.rep r
    rw [g1] at hrr
    obtain ⟨k1, k2⟩ := g2.world (w' := w') (RepC.root hrr) (fun y hy => hk y (.inl ⟨r, hy.1⟩)) (fun j _ => by
     cases hb : c.base (a.tmps.getD r undef) with
     | vals cs => rfl
     | addr b o2 => exact World.cell?_of_block (w := w) (w' := w') (a := ⟨b, o2 + j, none⟩) (hk b (.inl ⟨r, (base_owned hrr hb).1⟩)))
    exact ⟨⟨c, g1, k1⟩, k2⟩
   cases hav : s'.e.get t with
   | bad => trivial
   | un => rw [hav] at hr; exact hr
   | v c => rw [hav] at hr; exact RepC.world hr fun b hb => hk b (hb.imp (fun h => ⟨t, h⟩) id)
   | tup cs =>
    rw [hav] at hr
    obtain ⟨us, h1, h2, D, d1, d2, d3⟩ := hr
    refine ⟨us, h1, h2, D, d1, d2, fun j c hc => ?_⟩
    obtain ⟨u, u1, u2⟩ := d3 j c hc
    exact ⟨u, u1, u2.world fun b hb => hk b (hb.imp (fun h => ⟨t, d1 j b h⟩) id)⟩
   | iptr row o =>
    rw [hav] at hr
    obtain ⟨b, o', h1, h2, h3⟩ := hr
    exact ⟨b, o', h1, h2, h3.world (fun j _ => World.cell?_of_block (w := w) (w' := w') (a := ⟨b, o' + j, none⟩) (hk b (.inr h1))) fun y hy => hk y (.inr (hy.resolve_left id))⟩
   | ptr r p o =>
    rw [hav] at hr
    intro hc
    obtain ⟨b, o', row', k1, k2⟩ := hr hc
    exact ⟨b, o', row', (hroot _ _ _ _ k1).1, k2⟩
   | ld r p o n g =>
    rw [hav] at hr
    intro hc
    obtain ⟨B, row', k1, k0, k2, k3⟩ := hr hc
    obtain ⟨q1, q2⟩ := hroot _ _ _ _ k1
    refine ⟨B, row', q1, k0, fun ha => ?_, fun ha => ?_⟩
    ·obtain ⟨cs, m1, m2, m3⟩ := k2 ha
     exact ⟨cs, m1, m2, fun j hj => (m3 j hj).trans (q2 (o + j) (by omega)).symm⟩
    ·obtain ⟨m1, m2⟩ := k3 ha
     exact ⟨m1, (q2 o (by omega)).trans m2⟩
  have hst := h''.step (d := d) (av := .v (.leaf (.sl true i.size (rows ++ rows2)))) (v := v') (S := T) hd (Below.refl _ _) (fun b hb => by
   rcases hT b hb with hb | hb | hb
   ·exact ⟨Nat.lt_of_lt_of_le (hlt b (.inl hb)) hsz, hnI b (.inl hb), fun t _ ht => ho.2.2 t b ht (.inl hb)⟩
   ·exact ⟨Nat.lt_of_lt_of_le (hlt b (.inr hb)) hsz, hnI b (.inr hb), fun t _ ht => ho.2.2 t b ht (.inr hb)⟩
   ·exact ⟨hb.2, fun hi => by have := h.ilt b hi; omega, fun t _ ht => by have := h'.olt t b ht; omega⟩) ⟨h1, hrep⟩ (fun _ _ _ h => by cases h)
  refine ⟨I, _, rfl, put_size .., hst, ⟨fun _ h => h, hsz, fun b hb hno => hkept b hb fun hs => by obtain ⟨t, ht⟩ := ho.1 b hs; exact hno t ht, fun b hb => ?_⟩, fun t ht => ?_⟩
  ·rcases hb with ⟨t, hb⟩ | hb
   ·by_cases ht : t = d
    ·simp only [ht, if_true] at hb
     rcases hT b hb with hb | hb | hb
     ·exact .inl (ho.1 b (.inl hb))
     ·exact .inl (ho.1 b (.inr hb))
     ·exact .inr (.inr hb.1)
    ·simp only [ht, if_false] at hb; exact .inl ⟨t, ho.2.1 t b hb⟩
   ·exact .inr (.inl hb)
  ·simp only [Act.put]
   rw [getD_set hd, if_neg (fun e => ht (by rw [e]))]
 have hall := hr1.append hpos hr2 hd2
 have hlen : (xs ++ news).length = (rows.length + rows2.length) * i.size := by rw [hall.len, List.length_append]
 -- a new block
 have grow : ∀ ad cap, v = .slice ad rows.length cap → cap < rows.length + rows2.length → ∃ v' w', (Builtin.append_ #[t, u] ty #[v, x]).run P w = .ok v' w' ∧ Good arg W I O w a (s'.put d (.v (.leaf (.sl true i.size (rows ++ rows2))))) (some d) (a.put (some d) v') w' := by
  intro ad cap hvv hcap
  have hfo := run_first (P := P) hxs.drew
  rw [hvv] at hfo
  have hrun := append_grow (P := P) (v := v) (ty := ty) ht hi hz hs hfo hcap hmax hb
  refine ⟨_, _, by rw [hvv]; exact hrun, ?_⟩
  have hge := grownCap_ge w (rows.length + rows2.length) cap e
  have hle := grownCap_le_maxLen w (rows.length + rows2.length) cap e hmax
  have hnew := new_at w.drew (.cells (xs.toArray ++ news.toArray ++ Builtin.zeroCells z.cells (grownCap w (rows.length + rows2.length) cap e - (rows.length + rows2.length))) e)
  refine fin _ _ (fun y => (S y ∨ S2 y) ∨ y = w.heap.size) ?_ (by simp) (fun b hb _ => Below.heap_alloc w.drew _ b hb) (fun b hb => ?_) rfl ?_
  ·exact (h.bel.drew).alloc (by simpa using h.bel.size) _
  ·rcases hb with (hb | hb) | rfl
   ·exact .inl hb
   ·exact .inr (.inl hb)
   ·exact .inr (.inr ⟨Nat.le_refl _, by simp⟩)
  ·have hw' := hall.world (w' := w.drew.alloc (.cells (xs.toArray ++ news.toArray ++ Builtin.zeroCells z.cells (grownCap w (rows.length + rows2.length) cap e - (rows.length + rows2.length))) e)) (fun b hb => Below.heap_alloc w.drew _ b (hb.elim (hlt b) (h.ilt b)))
   have := hw'.own (b := w.heap.size) (cap := grownCap w (rows.length + rows2.length) cap e) hpos hnew (by rw [List.length_append]; exact hge) hle (by
    rw [List.length_append] at hlen
    simp only [Array.size_append, List.size_toArray, size_zeroCells, hzs]
    rw [hlen, ← Nat.add_mul]
    congr 1
    omega) (fun k hk => by
    rw [show xs.toArray ++ news.toArray = (xs ++ news).toArray by simp, Array.getElem?_append_left (by simpa using hk), List.getElem?_toArray]) (fun y hy he => by have := hlt y hy; omega)
   rw [List.length_append] at this
   exact this
 cases hv with
 | nil _ _ _ ad cap hn =>
  obtain rfl := hn rfl
  by_cases hm : rows2.length = 0
  ·-- nothing behind nothing
   have h2 : rows2 = [] := List.eq_nil_of_length_eq_zero hm
   subst h2
   obtain ⟨D', hD', hDi⟩ := hs.notInt
   have hz' : (match D' with | .int _ => true | _ => false) = false := by cases D' <;> first | rfl | exact absurd rfl (hDi _)
   have hrun : (Builtin.append_ #[t, u] ty #[.slice ad 0 0, x]).run P w = .ok (.slice ad 0 0) w := by
    have hl := hs.len
    have hf := hs.first
    simp only [List.length_nil] at hl hf
    have hnews : news = [] := List.length_eq_zero_iff.1 (by have := hr2.len; simpa using this)
    subst hnews
    cases ad <;> simp [Builtin.append_, run_underlying ht, run_underlying hD', sizeOf, typeInfo, hi, hz', hl, hf, storeCells]
   exact ⟨_, _, hrun, fin _ _ (fun _ => False) h.bel (Nat.le_refl _) (fun _ _ _ => rfl) (fun _ h => h.elim) rfl (.nil _ _ _ _ _ (fun _ => rfl))⟩
  ·exact grow ad 0 rfl (by simp only [List.length_nil]; omega)
 | own _ _ _ b cap cs e' cv D0 hS hlen0 hcap hb0 hcs hsz hcv hD hdis hrep =>
  by_cases hroom : rows.length + rows2.length ≤ cap
  ·have hfit : rows.length * i.size + news.length ≤ cs.size := by
    rw [hr2.len, hcs, ← Nat.add_mul]
    exact Nat.mul_le_mul_right _ hroom
   have hrun := append_room (P := P) (ty := ty) ht hi hs hb0 hroom hfit
   refine ⟨_, _, hrun, ?_⟩
   generalize hcs' : (cs.toList.take (rows.length * i.size) ++ news ++ cs.toList.drop (rows.length * i.size + news.length)).toArray = cs'
   have hb' : (w.setRow b cs').heap[b]? = some (.cells cs' e' (0, 0)) := setRow_heap w b cs cs' e' _ hb0
   have hoth : ∀ k, k ≠ b → (w.setRow b cs').heap[k]? = w.heap[k]? := fun k hk => setRow_other w b k cs' hk
   have hcsz : cs'.size = cap * i.size := by
    rw [← hcs', ← hcs]
    simp only [List.size_toArray, List.length_append, List.length_take, List.length_drop, Array.length_toList]
    omega
   -- the block's own rows, nested blocks apart
   let S0 : Nat → Prop := fun y => S y ∧ y ≠ b
   have hxs0 : xs = cs.toList.take (rows.length * i.size) := by
    obtain ⟨g1, ad, cap2, g2, g3⟩ := hxs
    simp only [Value.slice.injEq] at g2
    obtain ⟨rfl, _, rfl⟩ := g2
    apply List.ext_getElem?
    intro k
    by_cases hk : k < rows.length * i.size
    ·have hkx : k < xs.length := by omega
     rcases g3 with g3 | ⟨b2, q2, g4, g5⟩
     ·rw [g3] at hk; simp at hk
     ·simp only [Option.some.injEq, Addr.mk.injEq] at g4
      obtain ⟨rfl, rfl, _⟩ := g4
      have := g5 k _ (List.getElem?_eq_getElem hkx)
      rw [Nat.zero_add, cell_of hb0] at this
      rw [List.getElem?_eq_getElem hkx, List.getElem?_take_of_lt hk, Array.getElem?_toList, this]
    ·rw [List.getElem?_eq_none (by omega), List.getElem?_eq_none (by rw [List.length_take]; omega)]
   have hr0 : Rows2 w I i.size rows xs S0 := by
    refine ⟨hxs.1, hone, D0, fun i' j y hy => hD i' j y hy, hdis, hsz, fun i' j r l hr hl => ⟨cv i' j, ?_, hrep i' j r l hr hl⟩⟩
    have hi' := (List.getElem?_eq_some_iff.1 hr).1
    have hj : j < i.size := by rw [← hsz i' r hr]; exact (List.getElem?_eq_some_iff.1 hl).1
    have hk : i' * i.size + j < rows.length * i.size := by
     have : (i' + 1) * i.size ≤ rows.length * i.size := Nat.mul_le_mul_right _ hi'
     rw [Nat.add_mul, Nat.one_mul] at this
     omega
    rw [hxs0, List.getElem?_take_of_lt hk, Array.getElem?_toList]
    exact (hcv i' j hi' hj).1
   have hbS : b < w.heap.size := hlt b (.inl hS)
   have hall0 := hr0.append hpos hr2 (fun y hy hs => hd2 y hy hs.1)
   have hw' := hall0.world (w' := w.setRow b cs') (fun y hy => hoth y fun he => by
    rcases hy with (hy | hy) | hy
    ·exact hy.2 he
    ·exact hd2 y hy (he ▸ hS)
    ·exact hnI b (.inl hS) (he ▸ hy))
   refine fin _ _ (fun y => (S0 y ∨ S2 y) ∨ y = b) ?_ (by simp) (fun y _ hno => hoth y fun he => hno (.inl (he ▸ hS))) (fun y hy => ?_) rfl ?_
   ·exact below_setRow h.bel b (Nat.le_of_not_lt fun hlt' => hnI b (.inl hS) (h.old b hlt')) cs'
   ·rcases hy with (hy | hy) | rfl
    ·exact .inl hy.1
    ·exact .inr (.inl hy)
    ·exact .inl hS
   ·have := hw'.own (b := b) (cap := cap) hpos hb' (by rw [List.length_append]; exact hroom) hcap hcsz (fun k hk => by
     rw [List.length_append] at hk
     have hxl : xs.length = rows.length * i.size := hxs.1
     rw [← hcs', List.getElem?_toArray, ← hxs0, List.getElem?_append_left (by rw [List.length_append]; exact hk)]) (fun y hy he => by
     rcases hy with hy | hy
     ·exact hy.2 he
     ·exact hd2 y hy (he ▸ hS))
    rw [List.length_append] at this
    exact this
  ·exact grow _ _ rfl (by omega)

theorem strRows_rows2 (b : ByteArray) : Rows2 w I 1 (strRows b) (b.data.toList.map fun x => Value.int .u8 x.toNat) (fun _ => False) := by
 refine ⟨by simp [strRows], fun v hv => ?_, fun _ _ _ => False, fun _ _ _ h => h.elim, fun _ _ _ _ _ h => h.elim, fun i r hr => ?_, fun i j r l hr hl => ?_⟩
 ·obtain ⟨x, _, rfl⟩ := List.mem_map.1 hv
  rfl
 ·simp only [strRows, List.getElem?_map, Option.map_eq_some_iff] at hr
  obtain ⟨x, _, rfl⟩ := hr
  rfl
 ·simp only [strRows, List.getElem?_map, Option.map_eq_some_iff] at hr
  obtain ⟨x, hx, rfl⟩ := hr
  cases j with
  | zero =>
   simp at hl
   subst hl
   exact ⟨.int .u8 x.toNat, by simp [hx], .int ..⟩
  | succ j => simp at hl

theorem sound_app {o : Oper} {d : Tmp} {t u e : TypeId} {i : TypeInfo} {z : Value} {x y : Operand} {X Y : VS.X} {str : Bool} (ho : o.op = .call { callee := .builtin .append, args := #[x, y], argTypes := #[t, u] }) (hd : o.dst = some d) (hx : compX P t x = some X) (hy : compX P t y = some Y)
  (ht : P.underlying t = some (.slice e)) (hi : P.info? e = some i) (hz : i.zero = some z) (hzs : z.cells.size = i.size) (hpos : 0 < i.size) (hby : 0 < i.bytes) (hu : if str then P.underlying u = some .string else ∃ e', P.underlying u = some (.slice e')) :
  Sound1 P arg W G F o (.app d X Y i.size i.bytes str) := by
 intro I O s s' a w K Q h hdl hv hk
 replace hdl := hdl d rfl
 have hX := compX_val hx a
 have hY := compX_val hy a
 have hmx : ∀ k, k * i.bytes ≤ 140737488355328 → k ≤ maxLen := fun k hk => by have := Nat.le_trans (Nat.le_mul_of_pos_right k hby) hk; unfold maxLen; omega
 simp only [vop] at hv
 have key : ∀ (s2 : RS) (O2 : Tmp → Nat → Prop) (rows rows2 : List (List L)) (news : List Value) (S S2 : Nat → Prop), RepL w I (.sl true i.size rows) (a.eval x) S → Rel arg W I O2 s2 a.tmps w → Out O O2 (fun y => S y ∨ S2 y) → (∀ y, S2 y → ¬ S y) →
   Source P u (a.eval y) rows2.length i.size news w → Rows2 w I i.size rows2 news S2 → (rows.length + rows2.length) * i.bytes ≤ 140737488355328 → rows.length + rows2.length ≤ maxLen → s' = s2.put d (.v (.leaf (.sl true i.size (rows ++ rows2)))) → o.wp P a w K Q := by
  intro s2 O2 rows rows2 news S S2 r1 r2 r3 r4 r5 r6 r7 r8 r9
  obtain ⟨v', w', hrun, hg⟩ := good_app (P := P) (t := t) (u := u) (x := a.eval y) h hdl ht hi hz hzs hpos r1 r2 r3 r4 r5 r6 r7 r8 o.type
  have hex : (execOp a.eval o).run P w = .ok (.value v') w' := by
   simp only [execOp, ho, resolve, invoke, builtin, Sem.run_bind, Sem.run_pure, Result.andThen_ok, List.map_toArray, List.map_cons, List.map_nil, hrun]
  refine oper_value hex (hk _ _ ?_)
  rw [hd, r9]
  exact hg
 split at hv
 ·rename_i sz' rows s1 htk
  obtain ⟨S, O1, ⟨_, r1⟩, r2, r3⟩ := h.take hX htk
  split at hv
  ·rename_i b hlk
   split at hv
   ·rename_i hc
    obtain ⟨rfl, rfl, hsz1, hb⟩ := hc
    have hyv := look_str r2 hY hlk
    have hlen : (strRows b).length = b.size := by simp [strRows]
    refine key s1 O1 rows (strRows b) (b.data.toList.map fun x => Value.int .u8 x.toNat) S (fun _ => False) r1 r2 ⟨fun y hy => hy.elim (r3.1 y) (fun h => h.elim), r3.2.1, fun t y h1 h2 => h2.elim (r3.2.2 t y h1) id⟩ (fun _ h => h.elim) ?_ ?_ (by rw [hlen]; exact hb) ?_ (Option.some.inj hv).symm
    ·rw [hyv, hlen, hsz1]
     exact source_str hu
    ·rw [hsz1]; exact strRows_rows2 b
    ·rw [hlen]; exact hmx _ hb
   ·cases hv
  ·rename_i sz2 rows2 hlk
   split at hv
   ·rename_i hc
    obtain ⟨rfl, rfl, rfl, hb⟩ := hc
    obtain ⟨_, S2, _, q2, _⟩ := look_leaf r2 hY hlk
    have q3 := q2.unowned (S' := fun _ => False) rfl
    obtain ⟨xs2, x1, x2, D, d1, d2, d3, d4⟩ := sl_list q3 hpos
    obtain ⟨e2, hu⟩ := hu
    exact key s1 O1 rows rows2 xs2 S (fun _ => False) r1 r2 ⟨fun y hy => hy.elim (r3.1 y) (fun h => h.elim), r3.2.1, fun t y h1 h2 => h2.elim (r3.2.2 t y h1) id⟩ (fun _ h => h.elim) (source_slice hu x1 x2) ⟨x1.1, x2, D, d1, d2, d3, d4⟩ hb (hmx _ hb) (Option.some.inj hv).symm
   ·cases hv
  ·rename_i hlk
   split at hv
   ·rename_i o2 sz2 rows2 s2 htk2
    split at hv
    ·rename_i hc
     obtain ⟨rfl, rfl, rfl, hb⟩ := hc
     obtain ⟨S2, O2, ⟨_, q1⟩, q2, q3⟩ := r2.take hY htk2
     obtain ⟨xs2, x1, x2, D, d1, d2, d3, d4⟩ := sl_list q1 hpos
     obtain ⟨e2, hu⟩ := hu
     exact key s2 O2 rows rows2 xs2 S S2 r1 q2 (r3.trans q3) (r3.apart q3) (source_slice hu x1 x2) ⟨x1.1, x2, D, d1, d2, d3, d4⟩ hb (hmx _ hb) (Option.some.inj hv).symm
    ·cases hv
   ·cases hv
  ·cases hv
 ·cases hv

end Go.VS
