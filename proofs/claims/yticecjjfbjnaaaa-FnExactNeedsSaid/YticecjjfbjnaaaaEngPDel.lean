/- slices.DeleteFunc of texts, by the kit's contract. -/
import Derived.Test.YticecjjfbjnaaaaEngDoor
import Derived.Test.YticecjjfbjnaaaaShelfB
import Derived.Test.YticecjjfbjnaaaaEngDelR
namespace Go.Proofs.Yticecjjfbjnaaaa
open Go Go.VS Go.RowKit Go.Sort
set_option linter.unusedVariables false
set_option linter.unusedSimpArgs false
/-- The closure asks whether a text is the one that it captured. -/
theorem needs1_gives (s : ByteArray) (x : List UInt8) (B : Nat) (W : World) (hc : W.cell? ⟨B, 0, none⟩ = some (.string s)) : FnGives Try.prog 24 #[.pointer (some ⟨B, 0, none⟩)] #[encStr x] (.bool (decide (x = s.toList))) W := by
  show Calls Try.prog 24 #[encStr x, .pointer (some ⟨B, 0, none⟩)] W _
  have e : (x == s.toList) = decide (x = s.toList) := by by_cases h : x = s.toList <;> simp [h]
  go_enter Try.func24, Try.ntmps24
  go_wp2
  all_goals (go_ret; exact ⟨by simp_all, 0, rfl⟩)
theorem needs1_enters : ∀ args w, (callFunc 24 args).run Try.prog w = .ok (.enter 24 args) w := enters_of Try.func24 (by kernel_rfl) rfl
theorem del_empty (a : Option Addr) (c : Nat) (fv : Value) (w : World) : Calls Try.prog 23 #[.slice a 0 c, fv] w fun e w' => e = .returned (.slice a 0 c) ∧ w' = w := by
  go_enter Try.func23, Try.ntmps23
  go_wp2_with (go_at_call 39; refine (Try.slices_IndexFunc_string_empty a c fv _).mono ?_; rintro e w' ⟨rfl, rfl⟩)
  go_ret
  exact ⟨rfl, rfl⟩
theorem okDelS : ∀ W, LaidX W → ∀ cs res outs, runDelS 24 cs = some (res, outs) → Answers Try.prog W 23 cs res outs ∧ ((⟨[.O, .O], true⟩ : Sig).own = true → res.all CV.free = true ∧ outs.all CV.free = true) := by
  intro W hX cs res outs h
  obtain ⟨h1, h2⟩ := runDelS_ok (fun b b2 cap s d w hH hc hne hb2 hcap hsz => Try.slices_DeleteFunc_string (fun x => decide (x = s.toList)) 24 #[.pointer (some ⟨b2, 0, none⟩)] needs1_enters Try.zeroValue9 b 0 cap d w
    (fun W x hb => needs1_gives s x b2 W ((hb.cell (p := ⟨b2, 0, none⟩) hb2).trans hc))
    (fun n os dk x _ => needs1_gives s x b2 _ (by
      unfold sortWorld
      rw [cell?_grow _ _ _ (by show b2 < (putRow _ _ _ _ _).heap.size; rw [size_putRow]; exact hb2), cell?_putRow_other _ _ b 0 _ _ (Or.inl (Ne.symm hne))]
      exact hc)) hH (by omega) hcap) del_empty h
  exact ⟨h1, fun _ => h2⟩
def prim_slices_DeleteFunc_string_string : PEntry Try.prog LaidX := ⟨23, ⟨[.O, .O], true⟩, runDelS 24, by kernel_rfl, okDelS⟩
end Go.Proofs.Yticecjjfbjnaaaa
