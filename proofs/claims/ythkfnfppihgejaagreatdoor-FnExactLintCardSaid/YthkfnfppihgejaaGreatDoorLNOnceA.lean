/- Rows without two alike; types: the program's and the reference's tell the same. -/
import Derived.Test.YthkfnfppihgejaaGreatDoorLNSetsA
namespace Go.Proofs.YthkfnfppihgejaaGreatDoor.LN
open Go Go.VS Go.Lib
set_option maxRecDepth 10000
set_option maxHeartbeats 8000000
set_option linter.unusedSimpArgs false
set_option linter.unusedVariables false
theorem split_at {α : Type} {l : List α} {i : Nat} {x : α} (h : l[i]? = some x) : l = l.take i ++ x :: l.drop (i + 1) := by
 obtain ⟨hi, rfl⟩ := List.getElem?_eq_some_iff.1 h
 rw [← List.drop_eq_getElem_cons hi, List.take_append_drop]
theorem take_len {α : Type} {l : List α} {i : Nat} {x : α} (h : l[i]? = some x) : (l.take i).length = i := by
 have := (List.getElem?_eq_some_iff.1 h).1
 rw [List.length_take]
 omega
@[simp] theorem freezeRR_strs {α : Type} (f : α → ByteArray) : ∀ l : List α, freezeRR (l.map ((fun s : ByteArray => [L.str s]) ∘ f)) = l.map ((fun s : ByteArray => [L.str s]) ∘ f)
 | [] => rfl
 | x :: l => by simp only [List.map_cons, freezeRR, freezeRR_strs f l, Function.comp, VS.freezeR, L.freeze]
@[simp] theorem freeRR_strs {α : Type} (f : α → ByteArray) : ∀ l : List α, freeRR (l.map ((fun s : ByteArray => [L.str s]) ∘ f)) = true
 | [] => rfl
 | x :: l => by simp only [List.map_cons, freeRR, freeRR_strs f l, Function.comp, VS.freeR, L.free, Bool.and_self]
/-- No two alike. -/
def onceF (s : List ByteArray) (x : ByteArray) : Option (List ByteArray) := if x ∈ s then none else some (s ++ [x])
def onceB (l : List ByteArray) : Bool := (l.foldlM onceF []).isSome
theorem once_state : ∀ (l s r : List ByteArray), l.foldlM onceF s = some r → r = s ++ l
 | [], s, r, h => by
  simp only [List.foldlM_nil] at h
  obtain rfl := Option.some.inj h
  simp
 | x :: l, s, r, h => by
  rw [List.foldlM_cons] at h
  unfold onceF at h
  split at h
  ·cases h
  ·have := once_state l (s ++ [x]) r h
   simpa using this
theorem goodNames_eq : ∀ (l done : List ByteArray), goodNames done l = (l.all isName && (l.foldlM onceF done).isSome)
 | [], done => rfl
 | x :: l, done => by
  rw [goodNames, goodNames_eq l (done ++ [x]), List.foldlM_cons, List.all_cons]
  unfold onceF
  by_cases h : x ∈ done
  ·simp [h]
  ·simp [h]
   cases isName x <;> simp
theorem namesAll (l : List ByteArray) (most : Int) : (goodNames [] l && decide ((l.length : Int) ≤ most)) = ((l.all isName && onceB l) && decide ((l.length : Int) ≤ most)) := by rw [goodNames_eq]; rfl
theorem implOnce (l : List ByteArray) (hl : (l.length : Int) ≤ 1048576) : A 79 [.leaf (Kstrs false l)] = some ([.leaf (.bool (onceB l))], [.gone]) := by
 refine run_impl_isOnce ?_
 simp (maxSteps := 1000000) (disch := omega) [ip, wr, impl_isOnce.b]
 refine at_foldM (fun e i (s : List ByteArray) => e.put 7 (.v (.leaf (.int .i64 i)))) impl_isOnce.l0.eq_1 onceF l [] (by simp) (fun s g => ?_) (fun i x s s' hx hi hs hf ih => ?_) (fun i x s hx hi hs hf g => ?_)
 ·simp (maxSteps := 1000000) (disch := omega) [ip, wr, onceB, g]
 ·have hst := once_state _ _ _ hs
  rw [List.nil_append] at hst
  have h1 := sIndex l x hl
  have h2 := strIdx_at (l.take i) x (l.drop (i + 1)) 0
  rw [← split_at hx, take_len hx] at h2
  unfold onceF at hf
  split at hf
  ·cases hf
  ·rename_i hm
   rw [hst] at hm
   have h3 := h2.2 hm
   rw [h3] at h1
   simp (maxSteps := 1000000) (disch := omega) [ip, wr, hx, at_get hx, h1]
   refine run_env ih ?_
   simp
 ·have hst := once_state _ _ _ hs
  rw [List.nil_append] at hst
  have h1 := sIndex l x hl
  have h2 := strIdx_at (l.take i) x (l.drop (i + 1)) 0
  rw [← split_at hx, take_len hx] at h2
  unfold onceF at hf
  split at hf
  ·rename_i hm
   rw [hst] at hm
   generalize strIdx l x 0 = j at h1 h2
   have h3 : ¬ j = (i : Int) := fun h => h2.1 (by omega) hm
   simp (maxSteps := 1000000) (disch := omega) [ip, wr, hx, at_get hx, h1, h3, onceB, g]
  ·cases hf
theorem l11Twice (l : List ByteArray) (hl : (l.length : Int) ≤ 1048576) : A 73 [.leaf (Kstrs false l)] = some ([.leaf (.bool (!onceB l))], [.gone]) := by
 refine run_spec_l11Twice ?_
 simp (maxSteps := 1000000) (disch := omega) [ip, wr, spec_l11Twice.b]
 refine at_foldM (fun e i (s : List ByteArray) => e.put 3 (.v (.leaf (.int .i64 i)))) spec_l11Twice.l0.eq_1 onceF l [] (by simp) (fun s g => ?_) (fun i x s s' hx hi hs hf ih => ?_) (fun i x s hx hi hs hf g => ?_)
 ·simp (maxSteps := 1000000) (disch := omega) [ip, wr, onceB, g]
 ·have hst := once_state _ _ _ hs
  rw [List.nil_append] at hst
  have h1 := l3In x (l.take i) (by rw [take_len hx]; omega)
  unfold onceF at hf
  split at hf
  ·cases hf
  ·rename_i hm
   rw [hst] at hm
   rw [decide_eq_false hm] at h1
   have h2 := List.map_take (f := fun s : ByteArray => [L.str s]) (l := l) (i := i)
   simp only [Kstrs, h2] at h1
   simp (maxSteps := 1000000) (disch := omega) [ip, wr, hx, at_get hx, h1]
   refine run_env ih ?_
   simp
 ·have hst := once_state _ _ _ hs
  rw [List.nil_append] at hst
  have h1 := l3In x (l.take i) (by rw [take_len hx]; omega)
  unfold onceF at hf
  split at hf
  ·rename_i hm
   rw [hst] at hm
   rw [decide_eq_true hm] at h1
   have h2 := List.map_take (f := fun s : ByteArray => [L.str s]) (l := l) (i := i)
   simp only [Kstrs, h2] at h1
   simp (maxSteps := 1000000) (disch := omega) [ip, wr, hx, at_get hx, h1, onceB, g]
  ·cases hf
theorem app_map {α : Type} (f : α → ByteArray) : ∀ (l : List α) (s : List ByteArray), l.foldl (fun s d => s ++ [f d]) s = s ++ l.map f
 | [], s => by simp
 | x :: l, s => by rw [List.foldl_cons, app_map f l]; simp
theorem typeNames_us : ∀ l : List KType, strsU (l.map KType.name) ≤ KType.us l
 | [] => Nat.le_refl _
 | x :: l => by have := typeNames_us l; simp only [List.map_cons, strsU, KType.us, KType.w]; omega
def sizesB (l : List KType) : Bool := l.all fun t => within 0 8 t.size
theorem types_at {l : List KType} {i : Nat} {x : KType} (h : l[i]? = some x) : KType.w x ≤ KType.us l := by
 induction l generalizing i with
 | nil => simp at h
 | cons a l ih =>
  simp only [KType.us]
  cases i with
  | zero => simp at h; subst h; omega
  | succ i => have := ih (by simpa using h); omega
def sizeStep (s : List ByteArray) (t : KType) : Option (List ByteArray) := if within 0 8 t.size = true then some (s ++ [t.name]) else none
theorem sizes_state : ∀ (l : List KType) (s : List ByteArray) (r : Option (List ByteArray)), l.foldlM sizeStep s = r → (sizesB l = true → r = some (s ++ l.map KType.name)) ∧ (sizesB l = false → r = none)
 | [], s, r, h => by
  rw [← h]
  simp [sizesB]
 | x :: l, s, r, h => by
  rw [List.foldlM_cons] at h
  unfold sizeStep at h
  by_cases hx : within 0 8 x.size = true
  ·simp [hx] at h
   have := sizes_state l (s ++ [x.name]) r h
   simp [sizesB] at this ⊢
   simp [hx]
   exact this
  ·simp [hx] at h
   rw [← h]
   have hx : within 0 8 x.size = false := by simpa using hx
   simp [sizesB, hx]
theorem implTypesOk (l : List KType) (hl : (l.length : Int) ≤ 1048576) (hu : (KType.us l : Int) ≤ 1048576) : A 59 [.leaf (KType.sl false l)] = some ([.leaf (.bool (sizesB l && (((l.map KType.name).all isName && onceB (l.map KType.name)) && decide ((l.length : Int) ≤ 8))))], [.gone]) := by
 have hnu := typeNames_us l
 have hN := namesOk (l.map KType.name) 8 (by simp; omega) (by omega)
 rw [namesAll] at hN
 simp only [List.length_map] at hN
 generalize ((l.map KType.name).all isName && onceB (l.map KType.name)) = b at *
 simp only [Kstrs, List.map_map] at hN
 refine run_impl_typesOk ?_
 simp (maxSteps := 1000000) (disch := omega) [ip, wr, impl_typesOk.b]
 refine at_foldM (fun e i (s : List ByteArray) => (e.put 8 (.v (.leaf (.int .i64 i)))).put 3 (.v (.leaf (Kstrs true s)))) impl_typesOk.l0.eq_1 sizeStep l [] (by simp) (fun s g => ?_) (fun i x s s' hx hi hs hf ih => ?_) (fun i x s hx hi hs hf g => ?_)
 ·have hst := sizes_state l [] _ g
  cases hz : sizesB l with
  | false => have := hst.2 hz; cases this
  | true =>
   have := hst.1 hz
   simp only [List.nil_append, Option.some.injEq] at this
   subst this
   simp (maxSteps := 1000000) (disch := omega) [ip, wr, hN]
 ·have hst := sizes_state _ [] _ hs
  have hsl : (s.length : Int) ≤ 1048576 := by
   cases hz : sizesB (l.take i) with
   | false => have := hst.2 hz; cases this
   | true =>
    have := hst.1 hz
    simp only [List.nil_append, Option.some.injEq] at this
    subst this
    simp
    omega
  have h1 := inRange' x.size 0 8
  unfold sizeStep at hf
  split at hf
  ·rename_i hw
   obtain rfl := (Option.some.inj hf).symm
   rw [hw] at h1
   simp (maxSteps := 1000000) (disch := omega) [ip, wr, hx, at_get hx, h1]
   refine run_env ih ?_
   simp
  ·cases hf
 ·have hst := sizes_state _ [] _ hs
  have hsl : (s.length : Int) ≤ 1048576 := by
   cases hz : sizesB (l.take i) with
   | false => have := hst.2 hz; cases this
   | true =>
    have := hst.1 hz
    simp only [List.nil_append, Option.some.injEq] at this
    subst this
    simp
    omega
  have hall : sizesB l = false := by
   cases hz : sizesB l with
   | false => rfl
   | true => have := (sizes_state l [] _ g).1 hz; cases this
  have h1 := inRange' x.size 0 8
  unfold sizeStep at hf
  split at hf
  ·cases hf
  ·rename_i hw
   have hw : within 0 8 x.size = false := by simpa using hw
   rw [hw] at h1
   simp (maxSteps := 1000000) (disch := omega) [ip, wr, hx, at_get hx, h1, hall]
end Go.Proofs.YthkfnfppihgejaaGreatDoor.LN
