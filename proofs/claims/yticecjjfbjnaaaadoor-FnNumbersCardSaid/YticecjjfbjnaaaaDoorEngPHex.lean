/- The hex digits of a text, by the kit's contracts of strings.Builder. -/
import Derived.Test.YticecjjfbjnaaaaDoorEngDoor
import Derived.Test.YticecjjfbjnaaaaDoorEngPItoa
import Derived.Test.YticecjjfbjnaaaaDoorEngBuilder
import Derived.Laws.BitsLemmas
import Derived.Lib.Hide
namespace Go.Proofs.YticecjjfbjnaaaaDoor
open Go Go.VS Go.RowKit Go.Lib
set_option linter.unusedVariables false
set_option linter.unusedSimpArgs false
def hexd (n : Nat) : UInt8 := ([48, 49, 50, 51, 52, 53, 54, 55, 56, 57, 97, 98, 99, 100, 101, 102] : List UInt8).getD n 0
theorem hexd_at : ∀ m : Fin 16, ((⟨#[48, 49, 50, 51, 52, 53, 54, 55, 56, 57, 97, 98, 99, 100, 101, 102]⟩ : ByteArray)[m.val]'m.isLt) = hexd m.val := by decide
/-- The hex digits of bytes. -/
def hexL : List UInt8 → List UInt8
  | [] => []
  | b :: l => hexd (b.toNat / 16) :: hexd (b.toNat % 16) :: hexL l
theorem hexL_append : ∀ a b : List UInt8, hexL (a ++ b) = hexL a ++ hexL b
  | [], b => rfl
  | x :: a, b => by simp [hexL, hexL_append a b]
theorem hexL_length : ∀ l : List UInt8, (hexL l).length = 2 * l.length
  | [] => rfl
  | x :: l => by simp only [hexL, List.length_cons, hexL_length l]; omega
/-- The hex digits of the first so many bytes. -/
def hexN (s : ByteArray) (k : Nat) : List UInt8 := hexL (s.data.toList.take k)
theorem hexN_step (s : ByteArray) (k : Nat) (h : k < s.size) (h1 : s[k].toNat / 16 < 16) (h2 : s[k].toNat % 16 < 16) :
    Lib.byteCells (hexN s (k + 1)) = Lib.byteCells (hexN s k) ++ [Value.int .u8 (((⟨#[48, 49, 50, 51, 52, 53, 54, 55, 56, 57, 97, 98, 99, 100, 101, 102]⟩ : ByteArray)[s[k].toNat / 16]'h1).toNat)] ++ [Value.int .u8 (((⟨#[48, 49, 50, 51, 52, 53, 54, 55, 56, 57, 97, 98, 99, 100, 101, 102]⟩ : ByteArray)[s[k].toNat % 16]'h2).toNat)] := by
  have e : s.data.toList.take (k + 1) = s.data.toList.take k ++ [s[k]] := by
    rw [List.take_add_one, List.getElem?_eq_getElem (show k < s.data.toList.length by simpa using h)]
    rfl
  unfold hexN
  rw [e, hexL_append, Lib.byteCells_append, hexd_at ⟨_, h1⟩, hexd_at ⟨_, h2⟩]
  simp [Lib.byteCells, hexL]
set_option maxRecDepth 100000 in
theorem hex_calls (s : ByteArray) (hs : s.size ≤ 1048576) (w : World) : Calls Tryd.prog 14 #[.string s] w fun e w' => e = .returned (.string ⟨(hexN s s.size).toArray⟩) ∧ Below w.heap.size w w' := by
  go_enter Tryd.func14, Tryd.ntmps14
  go_wp2_with fail
  go_loopw [4] (fun i W => ∃ k : Nat, k ≤ s.size ∧ i = .int .i64 k ∧ Lib.IsBuilder 50 5 w.heap.size w.heap.size (Lib.byteCells (hexN s k)) W ∧ Below w.heap.size w W ∧ w.heap.size ≤ W.heap.size) (fun i _ => s.size - (RowKit.intOf i).toNat)
  case atStart => exact ⟨0, Nat.zero_le _, rfl, Lib.fresh_isBuilder 50 5 w, (Below.refl _ _).alloc (Nat.le_refl _) _, by simp⟩
  case round =>
    obtain ⟨k, hk, rfl, hb, hB, hz⟩ := hrel
    have HBd := Lib.hid hb; clear hb
    have HBl := Lib.hid hB; clear hB
    by_cases hlt : k < s.size
    · have hlt2 : decide (k < s.size) = true := by simp; omega
      have hu := s[k].toNat_lt
      have h1 : s[k].toNat / 16 < 16 := by omega
      have h2 : s[k].toNat % 16 < 16 := by omega
      have hl : (hexN s k).length = 2 * k := by unfold hexN; rw [hexL_length, List.length_take, Array.length_toList]; have : s.data.size = s.size := rfl; omega
      have HL := Lib.hid hl; clear hl
      have HS := Lib.hid (hexN_step s k hlt h1 h2)
      have ea : (0 ≤ (s[k].toNat : Int) / 16 ∧ (s[k].toNat : Int) / 16 < 16) = True := eq_true ⟨by omega, by omega⟩
      have em : Go.bits .and .u8 (s[k].toNat : Int) 15 = (s[k].toNat : Int) % 16 := bits_mask .u8 8 (by decide) wraps_u8 4 (by decide) _ (by omega) (by omega)
      have eb : (0 ≤ (s[k].toNat : Int) % 16 ∧ (s[k].toNat : Int) % 16 < 16) = True := eq_true ⟨by omega, by omega⟩
      go_wp2_with fail
      refine (Tryd.WriteByte w.heap.size w.heap.size (Lib.byteCells (hexN s k)) _ wr HBd.out (by rw [Lib.byteCells_length, HL.out]; omega) hz).mono ?_
      rintro e W1 ⟨rfl, hb1, hB1⟩
      have HBd1 := Lib.hid hb1; clear hb1
      have HBl1 := Lib.hid (HBl.out.trans hB1)
      have hz1 := Nat.le_trans hz hB1.size
      clear hB1
      go_wp2_with fail
      refine (Tryd.WriteByte w.heap.size w.heap.size _ _ W1 (.inr HBd1.out) (by rw [List.length_append, Lib.byteCells_length, HL.out]; simp; omega) (by omega)).mono ?_
      rintro e W2 ⟨rfl, hb2, hB2⟩
      have HBd2 := Lib.hid hb2; clear hb2
      have HBl2 := Lib.hid (HBl1.out.trans hB2)
      have hz2 := hB2.size
      clear hB2
      go_wp2_with fail
      go_roundw
      case rel => exact ⟨k + 1, by omega, by go_num, by rw [HS.out]; exact .inr HBd2.out, HBl2.out, by omega⟩
      case measure => simp [RowKit.intOf]; omega
    · have hlt2 : decide (k < s.size) = false := by simp; omega
      obtain rfl : k = s.size := by omega
      go_wp2_with fail
      refine (Tryd.BString w.heap.size w.heap.size (hexN s s.size) wr HBd.out hz).mono ?_
      rintro e W1 ⟨rfl, hB1⟩
      have HBl1 := Lib.hid (HBl.out.trans hB1)
      clear hB1
      go_wp2_with fail
      go_ret
      exact ⟨rfl, HBl1.out⟩
theorem hexN_all (s : ByteArray) : hexN s s.size = hexL s.data.toList := by unfold hexN; rw [List.take_of_length_le (by simp)]
def runHex : List CV → Option (List CV × List CV)
  | [.leaf (.str s)] => if s.size ≤ 1048576 then some ([.leaf (.str ⟨(hexL s.data.toList).toArray⟩)], [.gone]) else none
  | _ => none
theorem okHex : ∀ W, LaidX W → ∀ cs res outs, runHex cs = some (res, outs) → Answers Tryd.prog W 14 cs res outs ∧ ((⟨[.V], true⟩ : Sig).own = true → res.all CV.free = true ∧ outs.all CV.free = true) := by
  intro W hX cs res outs h
  unfold runHex at h
  split at h
  · rename_i s
    split at h
    · rename_i hs
      simp only [Option.some.injEq, Prod.mk.injEq] at h
      obtain ⟨rfl, rfl⟩ := h
      refine ⟨answers_scal (cs := [.leaf (.str s)]) (vs := [.string s]) (rs := [.string ⟨(hexL s.data.toList).toArray⟩]) rfl rfl fun w hw => ?_, fun _ => ⟨rfl, rfl⟩⟩
      refine (hex_calls s hs w).mono ?_
      rintro e w' ⟨rfl, hb⟩
      rw [hexN_all]
      exact ⟨rfl, hb⟩
    · cases h
  · cases h
def prim_impl_Hex : PEntry Tryd.prog LaidX := ⟨14, ⟨[.V], true⟩, runHex, by kernel_rfl, okHex⟩
end Go.Proofs.YticecjjfbjnaaaaDoor
