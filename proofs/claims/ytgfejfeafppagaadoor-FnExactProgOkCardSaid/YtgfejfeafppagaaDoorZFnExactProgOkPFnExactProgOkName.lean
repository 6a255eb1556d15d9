/- Names of the program and of the reference: what they tell. -/
import Derived.Test.YtgfejfeafppagaaDoorZFnExactProgOkPFnExactProgOkSym
namespace Go.Proofs.YtgfejfeafppagaaDoor.PFnExactProgOk
open Go.RowKit Go.Lib Go.Proofs.YtgfejfeafppagaaDoor.Aux Go.Proofs.YtgfejfeafppagaaDoorW.PrintWords Go.Proofs.YtgfejfeafppagaaDoorW.PrintLast Go.Proofs.YtgfejfeafppagaaDoorW.PrintMore

def twos : List (List UInt8) := [[43], [45], [42], [60], [61], [101, 113, 63], [99, 111, 110, 115]]
def ones : List (List UInt8) := [[99, 97, 114], [99, 100, 114], [110, 117, 108, 108, 63], [112, 97, 105, 114, 63], [110, 111, 116], [112, 114, 105, 110, 116], [101, 114, 114, 111, 114], [102, 105, 101, 108, 100], [105, 115]]
def words : List (List UInt8) := [[113, 117, 111, 116, 101], [105, 102], [108, 97, 109, 98, 100, 97], [98, 101, 103, 105, 110], [115, 101, 116, 33], [108, 101, 116], [108, 101, 116, 42], [99, 111, 110, 100], [101, 108, 115, 101], [97, 110, 100], [111, 114], [119, 104, 101, 110], [100, 101, 102, 105, 110, 101]]
/-- How many arguments a primitive takes. -/
def ar (l : List UInt8) : Int := if l ∈ twos then 2 else if l ∈ ones then 1 else if l = [109, 97, 107, 101] then 0 else -1

theorem spaced_data (a : ByteArray) : (spaced a).data.toList = 32 :: (a.data.toList ++ [32]) := by
  unfold spaced
  rw [ByteArray.data_append, ByteArray.data_append, Array.toList_append, Array.toList_append]
  rfl

theorem isOneOf_is (a row : ByteArray) (ws : List (List UInt8)) (hs : a.size < 4294967200) (hs1 : row.size < 4294967200) (hrow : 32 :: (row.data.toList ++ [32]) = joinT ws) (hws : ∀ v ∈ ws, (32 : UInt8) ∉ v ∧ v ≠ []) :
    impl_isOneOf.f a row = some (decide (a.toList ∈ ws)) := by
  unfold impl_isOneOf.f
  rw [if_pos ⟨hs, hs1⟩, spaced_data, spaced_data, ByteArray.toList_eq, oneOf _ _ ws hrow hws]

theorem impl_arity_is (a : ByteArray) (hs : a.size < 4294967200) : impl_Arity.f a = some (ar a.toList) := by
  unfold impl_Arity.f
  rw [isOneOf_is a _ twos hs (by decide) (by decide) (by decide), isOneOf_is a _ ones hs (by decide) (by decide) (by decide)]
  simp only [Option.bind_some, ar, decide_eq_true_eq]
  split
  · rfl
  · split
    · rfl
    · split <;> rfl

theorem spec_arity_is (a : ByteArray) : Ev (fun k => spec_Arity.f k a) (ar a.toList) := by
  have j1 : ∀ b : Bool, Ev (fun k => spec_Arity.j1 k a b) (if b = true then 1 else if a.toList = [109, 97, 107, 101] then 0 else -1) := by
    intro b
    refine Ev.step (fun k => ?_) (Ev.now _)
    simp only [spec_Arity.j1]
    split
    · rfl
    · split <;> rfl
  have j0 : ∀ b : Bool, Ev (fun k => spec_Arity.j0 k a b) (if b = true then 2 else if a.toList ∈ ones then 1 else if a.toList = [109, 97, 107, 101] then 0 else -1) := by
    intro b
    cases b with
    | true => exact Ev.step (fun k => by simp only [spec_Arity.j0]; rfl) (Ev.now _)
    | false =>
      have hj := j1 (decide (a.toList ∈ ones))
      simp only [decide_eq_true_eq] at hj
      refine Ev.step (fun k => ?_) hj
      simp only [spec_Arity.j0, ones, List.mem_cons, List.not_mem_nil, or_false]
      repeat' split
      all_goals simp_all
      all_goals rw [beq_dec]
  have h := j0 (decide (a.toList ∈ twos))
  simp only [decide_eq_true_eq] at h
  refine Ev.congr (fun k => ?_) h
  simp only [spec_Arity.f, twos, List.mem_cons, List.not_mem_nil, or_false]
  repeat' split
  all_goals simp_all
  all_goals rw [beq_dec]

theorem spec_l3In_loop (l : List ByteArray) (a : ByteArray) (hl : l.length < 1000000000000000) : ∀ d i : Nat, i + d = l.length → Ev (fun k => spec_l3In.l0 k l a i) (decide (a.toList ∈ (l.drop i).map ByteArray.toList)) := by
  intro d
  induction d with
  | zero =>
    intro i hi
    refine Ev.step (f := fun _ => some false) (fun k => ?_) ?_
    · simp only [spec_l3In.l0]
      rw [if_neg (by omega)]
    · rw [show decide (a.toList ∈ (l.drop i).map ByteArray.toList) = false from by rw [List.drop_eq_nil_of_le (by omega)]; rfl]
      exact Ev.now _
  | succ d ih =>
    intro i hi
    have hd : l.drop i = l[i]'(by omega) :: l.drop (i + 1) := List.drop_eq_getElem_cons (by omega)
    have hr : rdOf ByteArray.empty l i = l[i]'(by omega) := by
      unfold rdOf
      rw [Int.toNat_natCast, List.getD_eq_getElem?_getD, List.getElem?_eq_getElem (by omega)]
      rfl
    refine Ev.step (f := fun k => if (l[i]'(by omega)).toList = a.toList then some true else spec_l3In.l0 k l a ((i + 1 : Nat) : Int)) (fun k => ?_) ?_
    · simp only [spec_l3In.l0]
      rw [if_pos (show (i : Int) < (l.length : Int) by omega), if_pos (by omega), w64 (n := (i : Int) + 1) (by omega) (by omega), hr]
      rfl
    · rw [hd]
      by_cases hh : (l[i]'(by omega)).toList = a.toList
      · refine ev_if_pos hh ?_
        rw [decide_eq_true (by rw [List.map_cons, hh]; exact List.mem_cons_self)]
        exact Ev.now _
      · refine ev_if_neg hh ?_
        rw [show decide (a.toList ∈ ((l[i]'(by omega)) :: l.drop (i + 1)).map ByteArray.toList) = decide (a.toList ∈ (l.drop (i + 1)).map ByteArray.toList) from decide_eq_decide.mpr (by rw [List.map_cons, List.mem_cons]; exact ⟨fun h => h.resolve_left (fun e => hh e.symm), .inr⟩)]
        exact ih (i + 1) (by omega)
theorem spec_l3In_is (l : List ByteArray) (a : ByteArray) (hl : l.length < 1000000000000000) : Ev (fun k => spec_l3In.f k l a) (decide (a.toList ∈ l.map ByteArray.toList)) := by
  have h := spec_l3In_loop l a hl l.length 0 (by omega)
  rwa [List.drop_zero] at h
theorem spec_word_is (a : ByteArray) : Ev (fun k => spec_l3Word.f k a) (decide (a.toList ∈ words)) := by
  unfold spec_l3Word.f
  refine Ev.bind (a := decide (a.toList ∈ words)) ?_ (Ev.now _)
  have h := fun l hl => spec_l3In_is l a hl
  have e : words = List.map ByteArray.toList [(⟨#[113, 117, 111, 116, 101]⟩ : ByteArray), ⟨#[105, 102]⟩, ⟨#[108, 97, 109, 98, 100, 97]⟩, ⟨#[98, 101, 103, 105, 110]⟩, ⟨#[115, 101, 116, 33]⟩, ⟨#[108, 101, 116]⟩, ⟨#[108, 101, 116, 42]⟩, ⟨#[99, 111, 110, 100]⟩, ⟨#[101, 108, 115, 101]⟩, ⟨#[97, 110, 100]⟩, ⟨#[111, 114]⟩, ⟨#[119, 104, 101, 110]⟩, ⟨#[100, 101, 102, 105, 110, 101]⟩] := by simp only [List.map_cons, List.map_nil, ByteArray.toList_eq]; rfl
  rw [e]
  exact h _ (by decide)

/-- Is it a name, where s is whether it is a symbol? -/
def nameS (a : ByteArray) (s : Bool) : Bool := decide (a.toList = [37, 116]) || (s && !decide (a.toList ∈ words) && decide (ar a.toList < 0))
theorem spec_name_is (a : ByteArray) (s : Bool) (h : Ev (fun k => spec_l2Sym.f k a) s) : Ev (fun k => spec_IsName.f k a) (nameS a s) := by
  unfold spec_IsName.f nameS
  by_cases h0 : a.toList = [37, 116]
  · rw [decide_eq_true h0]
    exact ev_if_pos h0 (Ev.now _)
  · rw [decide_eq_false h0, Bool.false_or]
    refine ev_if_neg h0 (Ev.bind h ?_)
    cases s with
    | false => exact ev_if_neg (by decide) (Ev.now _)
    | true =>
      refine ev_if_pos rfl (Ev.bind (spec_word_is a) ?_)
      cases decide (a.toList ∈ words) with
      | true => exact ev_if_pos rfl (Ev.now _)
      | false => exact ev_if_neg (by decide) (Ev.bind (spec_arity_is a) (Ev.now _))
theorem impl_name_is (a : ByteArray) (s : Bool) (hs : a.size < 4294967200) (h : Ev (fun k => impl_symOk.f k a) s) : Ev (fun k => impl_IsName.f k a) (nameS a s) := by
  unfold impl_IsName.f nameS
  rw [isOneOf_is a _ words hs (by decide) (by decide) (by decide), impl_arity_is a hs]
  by_cases h0 : a.toList = [37, 116]
  · rw [decide_eq_true h0]
    exact ev_if_pos h0 (Ev.now _)
  · rw [decide_eq_false h0, Bool.false_or]
    refine ev_if_neg h0 (Ev.bind h ?_)
    cases s with
    | false => exact ev_if_neg (by decide) (Ev.now _)
    | true =>
      refine ev_if_pos rfl (ev_some ?_)
      cases decide (a.toList ∈ words) with
      | true => exact ev_if_pos rfl (Ev.now _)
      | false => exact ev_if_neg (by decide) (Ev.now _)
/-- The two alike. -/
theorem name_same (a : ByteArray) (ha : a.size < 4294967200) : ∃ b, Ev (fun k => spec_IsName.f k a) b ∧ Ev (fun k => impl_IsName.f k a) b ∧ (b = true → a.size ≤ 16) := by
  obtain ⟨b, h1, h2, h3⟩ := sym_same a (by omega)
  refine ⟨nameS a b, spec_name_is a b h1, impl_name_is a b ha h2, fun h => ?_⟩
  unfold nameS at h
  by_cases h0 : a.toList = [37, 116]
  · have := congrArg List.length h0
    rw [ByteArray.toList_eq, Array.length_toList] at this
    have e : a.size = a.data.size := rfl
    simp at this
    omega
  · rw [decide_eq_false h0, Bool.false_or] at h
    simp only [Bool.and_eq_true] at h
    exact h3 h.1.1

end Go.Proofs.YtgfejfeafppagaaDoor.PFnExactProgOk
