/- Rows without two alike; types: the program's and the reference's tell the same. -/
import Derived.Test.YticecjjfbjnaaaaGreatDoorFRSetsA
namespace Go.Proofs.YticecjjfbjnaaaaGreatDoor.FR
open Go Go.VS Go.Lib
set_option maxRecDepth 10000
set_option maxHeartbeats 8000000
set_option linter.unusedSimpArgs false
set_option linter.unusedVariables false
theorem split_at {α : Type} {l : List α} {i : Nat} {x : α} (h : l[i]? = some x) : l = l.take i ++ x :: l.drop (i + 1) := by
  obtain ⟨hi, rfl⟩ := List.getElem?_eq_some_iff.1 h
  rw [← List.drop_eq_getElem_cons hi, List.take_append_drop]
theorem take_len {α : Type} {l : List α} {i : Nat} {x : α} (h : l[i]? = some x) : (l.take i).length = i := by
  have := (List.getElem?_eq_some_iff.1 h).1
  rw [List.length_take]
  omega
@[simp] theorem freezeRR_strs {α : Type} (f : α → ByteArray) : ∀ l : List α, freezeRR (l.map ((fun s : ByteArray => [L.str s]) ∘ f)) = l.map ((fun s : ByteArray => [L.str s]) ∘ f)
  | [] => rfl
  | x :: l => by simp only [List.map_cons, freezeRR, freezeRR_strs f l, Function.comp, VS.freezeR, L.freeze]
@[simp] theorem freeRR_strs {α : Type} (f : α → ByteArray) : ∀ l : List α, freeRR (l.map ((fun s : ByteArray => [L.str s]) ∘ f)) = true
  | [] => rfl
  | x :: l => by simp only [List.map_cons, freeRR, freeRR_strs f l, Function.comp, VS.freeR, L.free, Bool.and_self]
/-- No two alike. -/
def onceF (s : List ByteArray) (x : ByteArray) : Option (List ByteArray) := if x ∈ s then none else some (s ++ [x])
def onceB (l : List ByteArray) : Bool := (l.foldlM onceF []).isSome
theorem once_state : ∀ (l s r : List ByteArray), l.foldlM onceF s = some r → r = s ++ l
  | [], s, r, h => by
    simp only [List.foldlM_nil] at h
    obtain rfl := Option.some.inj h
    simp
  | x :: l, s, r, h => by
    rw [List.foldlM_cons] at h
    unfold onceF at h
    split at h
    · cases h
    · have := once_state l (s ++ [x]) r h
      simpa using this
theorem goodNames_eq : ∀ (l done : List ByteArray), goodNames done l = (l.all isName && (l.foldlM onceF done).isSome)
  | [], done => rfl
  | x :: l, done => by
    rw [goodNames, goodNames_eq l (done ++ [x]), List.foldlM_cons, List.all_cons]
    unfold onceF
    by_cases h : x ∈ done
    · simp [h]
    · simp [h]
      cases isName x <;> simp
theorem namesAll (l : List ByteArray) (most : Int) : (goodNames [] l && decide ((l.length : Int) ≤ most)) = ((l.all isName && onceB l) && decide ((l.length : Int) ≤ most)) := by rw [goodNames_eq]; rfl
theorem app_map {α : Type} (f : α → ByteArray) : ∀ (l : List α) (s : List ByteArray), l.foldl (fun s d => s ++ [f d]) s = s ++ l.map f
  | [], s => by simp
  | x :: l, s => by rw [List.foldl_cons, app_map f l]; simp
def sizesB (l : List KType) : Bool := l.all fun t => within 0 8 t.size
end Go.Proofs.YticecjjfbjnaaaaGreatDoor.FR
