/- Facts used all over: wrapping, lists behind a map, comparison of texts. -/
import Derived.Test.YtdoelepflcaijaaEngKinds
namespace Go.VS
open Go Go.RowKit
set_option linter.unusedSimpArgs false
set_option linter.unusedVariables false

theorem wrap_i64 {n : Int} (h1 : -9223372036854775808 ≤ n) (h2 : n ≤ 9223372036854775807) : IntKind.i64.wrap n = n := by
  have e : IntKind.i64.wrap n = if n % 18446744073709551616 ≥ 9223372036854775808 then n % 18446744073709551616 - 18446744073709551616 else n % 18446744073709551616 := by
    simp [IntKind.wrap, IntKind.bits, IntKind.signed]
  rw [e]
  split <;> omega
theorem wrap_u8 {n : Int} (h1 : 0 ≤ n) (h2 : n ≤ 255) : IntKind.u8.wrap n = n := by
  have e : IntKind.u8.wrap n = n % 256 := by simp [IntKind.wrap, IntKind.bits, IntKind.signed]
  rw [e]; omega
@[simp] theorem get_mid {α β : Type} (a : List α) (f : α → β) (x : β) (b : List β) : (a.map f ++ x :: b)[a.length]? = some x := by
  rw [List.getElem?_append_right (by simp)]; simp
@[simp] theorem set_mid {α β : Type} (a : List α) (f : α → β) (x y : β) (b : List β) : (a.map f ++ x :: b).set a.length y = a.map f ++ y :: b := by
  rw [List.set_append_right _ _ (by simp)]; simp
@[simp] theorem ba_size (a : Array UInt8) : (ByteArray.mk a).size = a.size := rfl
@[simp] theorem ba_append_size (a b : ByteArray) : (a ++ b).size = a.size + b.size := ByteArray.size_append
attribute [simp] bytesOf
theorem run_env {G : Sigs} {F : Fns} {c : VC} {e e' : Env} {ks : List Fr} {Q : VX → Env → Prop} (h : Run G F c e' ks Q) (he : e = e') : Run G F c e ks Q := he ▸ h
theorem toList_inj {a b : ByteArray} : a.toList = b.toList ↔ a = b := by
  rw [ByteArray.toList_eq, ByteArray.toList_eq]
  exact ⟨fun h => ByteArray.ext (Array.toList_inj.mp h), fun h => h ▸ rfl⟩
@[simp] theorem toList_beq (a b : ByteArray) : (a.toList == b.toList) = decide (a = b) := by
  rw [Bool.eq_iff_iff]
  simp only [beq_iff_eq, decide_eq_true_eq, toList_inj]
end Go.VS
