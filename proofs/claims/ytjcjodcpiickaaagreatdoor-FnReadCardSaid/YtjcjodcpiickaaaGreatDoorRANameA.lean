/- Signs, symbols, words, names: the program's and the reference's tell the same. -/
import Derived.Test.YtjcjodcpiickaaaGreatDoorEngM7
import Derived.Test.YtjcjodcpiickaaaGreatDoorRANumA
namespace Go.Proofs.YtjcjodcpiickaaaGreatDoor.RA
open Go Go.VS Go.Lib
set_option maxRecDepth 10000
set_option linter.unusedSimpArgs false
set_option linter.unusedVariables false
theorem data_mid (s : ByteArray) (done rest : List UInt8) (b : UInt8) (h : s.data.toList = done ++ b :: rest) : s.data[done.length]? = some b := by
 rw [← Array.getElem?_toList, h, List.getElem?_append_right (by simp)]
 simp
theorem l2Digit (b : UInt8) : A 172 [.leaf (.int .u8 b.toNat)] = some ([.leaf (.bool (digit b))], [.gone]) := by
 refine run_spec_l2Digit ?_
 by_cases h : 48 ≤ b.toNat
 ·have g : (48 : Int) ≤ b.toNat := by omega
  by_cases h2 : b.toNat ≤ 57
  ·have g2 : (b.toNat : Int) ≤ 57 := by omega
   simp (maxSteps := 1000000) (disch := omega) [ip, wr, spec_l2Digit.b, digit, h, g, h2, g2]
  ·have g2 : ¬ (b.toNat : Int) ≤ 57 := by omega
   simp (maxSteps := 1000000) (disch := omega) [ip, wr, spec_l2Digit.b, digit, h, g, h2, g2]
 ·have g : ¬ (48 : Int) ≤ b.toNat := by omega
  simp (maxSteps := 1000000) (disch := omega) [ip, wr, spec_l2Digit.b, digit, h, g]
theorem l2In_loop (b : UInt8) (s : ByteArray) (hs : (s.size : Int) ≤ 140737488351232) (ks : List Fr) (Q : VX → Env → Prop) : ∀ (rest done : List UInt8) (i : Int), s.data.toList = done ++ rest → i = done.length →
  (b ∉ rest → Run G A (.exit 0) [(0, .v (.leaf (.int .u8 b.toNat))), (1, .v (.leaf (.str s))), (5, .v (.leaf (.int .i64 s.size))), (9, .v (.leaf (.bool false)))] ks Q) →
  (b ∈ rest → Run G A .ret [(4, .v (.leaf (.bool true)))] ks Q) →
  Run G A (.loop spec_l2In.l0) [(0, .v (.leaf (.int .u8 b.toNat))), (1, .v (.leaf (.str s))), (5, .v (.leaf (.int .i64 i)))] ks Q := by
 intro rest
 induction rest with
 | nil =>
  intro done i hd hi hq hr
  have hl : done.length = s.size := by have := congrArg List.length hd; simp at this; exact this.symm
  subst hi
  refine run_loop_at spec_l2In.l0.eq_1 ?_
  simp (maxSteps := 1000000) (disch := omega) [ip, wr, hl]
  exact hq (by simp)
 | cons c rest ih =>
  intro done i hd hi hq hr
  have hl : done.length + (rest.length + 1) = s.size := by have := congrArg List.length hd; simp at this; exact this.symm
  subst hi
  have hb := data_mid s done rest c hd
  refine run_loop_at spec_l2In.l0.eq_1 ?_
  by_cases hc : b = c
  ·subst hc
   simp (maxSteps := 1000000) (disch := omega) [ip, wr, hb]
   exact hr (by simp)
  ·have ih := ih (done ++ [c]) (done.length + 1) (by simp [hd]) (by simp) (fun h => hq (by simp [hc, h])) (fun h => hr (by simp [h]))
   have hne : ¬ c.toNat = b.toNat := fun h => hc (UInt8.toNat_inj.mp h).symm
   simp (maxSteps := 1000000) (disch := omega) [ip, wr, hb, hne]
   exact ih
theorem l2In (b : UInt8) (s : ByteArray) (hs : (s.size : Int) ≤ 140737488351232) : A 217 [.leaf (.int .u8 b.toNat), .leaf (.str s)] = some ([.leaf (.bool (decide (b ∈ s.data.toList)))], [.gone, .gone]) := by
 refine run_spec_l2In ?_
 simp (maxSteps := 1000000) (disch := omega) [ip, wr, spec_l2In.b]
 refine l2In_loop b s hs _ _ s.data.toList [] 0 rfl rfl (fun h => ?_) (fun h => ?_)
 ·have h' : ¬ b ∈ s.data := by simpa using h
  simp [h']
 ·have h' : b ∈ s.data := by simpa using h
  simp [h']
theorem l2Sign (b : UInt8) : A 173 [.leaf (.int .u8 b.toNat)] = some ([.leaf (.bool (sign b))], [.gone]) := by
 refine run_spec_l2Sign ?_
 have hd := l2Digit b
 have hi := l2In b ⟨#[33, 63, 42, 47, 60, 61, 62, 43, 45, 95]⟩ (by decide)
 have e : decide (b ∈ (⟨#[33, 63, 42, 47, 60, 61, 62, 43, 45, 95]⟩ : ByteArray).data.toList) = decide (b ∈ signs) := rfl
 rw [e] at hi
 have f : (decide (97 ≤ b.toNat ∧ b.toNat ≤ 122) || digit b || decide (b ∈ signs)) = sign b := rfl
 rw [← f]
 by_cases h : 97 ≤ b.toNat
 ·have g : (97 : Int) ≤ b.toNat := by omega
  by_cases h2 : b.toNat ≤ 122
  ·have g2 : (b.toNat : Int) ≤ 122 := by omega
   simp (maxSteps := 1000000) (disch := omega) [ip, wr, spec_l2Sign.b, h, g, h2, g2]
  ·have g2 : ¬ (b.toNat : Int) ≤ 122 := by omega
   cases hdd : digit b <;> rw [hdd] at hd <;> simp (maxSteps := 1000000) (disch := omega) [ip, wr, spec_l2Sign.b, h, g, h2, g2, hd, hi]
 ·have g : ¬ (97 : Int) ≤ b.toNat := by omega
  cases hdd : digit b <;> rw [hdd] at hd <;> simp (maxSteps := 1000000) (disch := omega) [ip, wr, spec_l2Sign.b, h, g, hd, hi]
theorem isSymByte (b : UInt8) : A 221 [.leaf (.int .u8 b.toNat)] = some ([.leaf (.bool (sign b))], [.gone]) := by
 refine run_impl_isSymByte ?_
 have hp : A 211 [.leaf (.str ⟨#[33, 63, 42, 47, 60, 61, 62, 43, 45, 95]⟩), .leaf (.int .u8 b.toNat)] = some ([.leaf (.int .i64 (Lib.indexByte [33, 63, 42, 47, 60, 61, 62, 43, 45, 95] b))], [.gone, .gone]) :=
  P_strings_IndexByte (by simp [prim_strings_IndexByte, runIndexByte])
 have hk := idx_signs b
 have f : (decide (97 ≤ b.toNat ∧ b.toNat ≤ 122) || decide (48 ≤ b.toNat ∧ b.toNat ≤ 57) || decide (b ∈ signs)) = sign b := rfl
 rw [← f]
 generalize Lib.indexByte [33, 63, 42, 47, 60, 61, 62, 43, 45, 95] b = k at hp hk
 have e : decide (b ∈ signs) = decide (0 ≤ k) := decide_eq_decide.mpr hk.symm
 rw [e]
 by_cases h : 97 ≤ b.toNat
 ·have g : (97 : Int) ≤ b.toNat := by omega
  have h48 : (48 : Int) ≤ b.toNat := by omega
  have g48 : 48 ≤ b.toNat := by omega
  have h57 : ¬ (b.toNat : Int) ≤ 57 := by omega
  have g57 : ¬ b.toNat ≤ 57 := by omega
  by_cases h2 : b.toNat ≤ 122
  ·have g2 : (b.toNat : Int) ≤ 122 := by omega
   simp (maxSteps := 1000000) (disch := omega) [ip, wr, impl_isSymByte.b, h, g, h2, g2]
  ·have g2 : ¬ (b.toNat : Int) ≤ 122 := by omega
   simp (maxSteps := 1000000) (disch := omega) [ip, wr, impl_isSymByte.b, h, g, h2, g2, hp, h48, g48, h57, g57]
 ·have g : ¬ (97 : Int) ≤ b.toNat := by omega
  by_cases h3 : 48 ≤ b.toNat
  ·have g3 : (48 : Int) ≤ b.toNat := by omega
   by_cases h4 : b.toNat ≤ 57
   ·have g4 : (b.toNat : Int) ≤ 57 := by omega
    simp (maxSteps := 1000000) (disch := omega) [ip, wr, impl_isSymByte.b, h, g, h3, g3, h4, g4]
   ·have g4 : ¬ (b.toNat : Int) ≤ 57 := by omega
    simp (maxSteps := 1000000) (disch := omega) [ip, wr, impl_isSymByte.b, h, g, h3, g3, h4, g4, hp]
  ·have g3 : ¬ (48 : Int) ≤ b.toNat := by omega
   simp (maxSteps := 1000000) (disch := omega) [ip, wr, impl_isSymByte.b, h, g, h3, g3, hp]
theorem l2Sym_loop (s : ByteArray) (hs : (s.size : Int) ≤ 140737488351232) (ks : List Fr) (Q : VX → Env → Prop) : ∀ (rest done : List UInt8) (i : Int), s.data.toList = done ++ rest → i = done.length →
  (rest.all sign = true → Run G A (.exit 0) [(0, .v (.leaf (.str s))), (3, .v (.leaf (.int .i64 s.size))), (18, .v (.leaf (.bool false)))] ks Q) →
  (rest.all sign = false → Run G A .ret [(2, .v (.leaf (.bool false)))] ks Q) →
  Run G A (.loop spec_l2Sym.l0) [(0, .v (.leaf (.str s))), (3, .v (.leaf (.int .i64 i)))] ks Q := by
 intro rest
 induction rest with
 | nil =>
  intro done i hd hi hq hr
  have hl : done.length = s.size := by have := congrArg List.length hd; simp at this; exact this.symm
  subst hi
  refine run_loop_at spec_l2Sym.l0.eq_1 ?_
  simp (maxSteps := 1000000) (disch := omega) [ip, wr, hl]
  exact hq rfl
 | cons c rest ih =>
  intro done i hd hi hq hr
  have hl : done.length + (rest.length + 1) = s.size := by have := congrArg List.length hd; simp at this; exact this.symm
  subst hi
  have hb := data_mid s done rest c hd
  have hsg := l2Sign c
  refine run_loop_at spec_l2Sym.l0.eq_1 ?_
  cases hc : sign c with
  | false =>
   rw [hc] at hsg
   simp (maxSteps := 1000000) (disch := omega) [ip, wr, hb, hsg]
   exact hr (by simp [hc])
  | true =>
   rw [hc] at hsg
   have ih := ih (done ++ [c]) (done.length + 1) (by simp [hd]) (by simp) (fun h => hq (by simp [hc]; simpa using h)) (fun h => hr (by simp [hc]; simpa using h))
   simp (maxSteps := 1000000) (disch := omega) [ip, wr, hb, hsg]
   exact ih
theorem l2Sym (s : ByteArray) (hs : (s.size : Int) ≤ 140737488351232) : A 86 [.leaf (.str s)] = some ([.leaf (.bool (sym s))], [.gone]) := by
 refine run_spec_l2Sym ?_
 have hin := l1In s.size 1 16
 have hrd := specReadDec s hs
 by_cases h1 : 1 ≤ s.size ∧ s.size ≤ 16
 ·have g1 : (1 : Int) ≤ s.size ∧ (s.size : Int) ≤ 16 := by omega
  rw [decide_eq_true g1] at hin
  obtain ⟨b, t, hbt⟩ : ∃ b t, s.data.toList = b :: t := by
   cases h : s.data.toList with
   | nil => have hz : s.data.toList.length = s.size := Array.length_toList; rw [h] at hz; simp at hz; omega
   | cons b t => exact ⟨b, t, rfl⟩
  have hb : s.data[0]? = some b := data_mid s [] t b hbt
  have hd := l2Digit b
  have e : sym s = (s.data.toList.all sign && (!(digit b) && !(rd s).2)) := by
   unfold sym
   rw [decide_eq_true h1, hbt]
   simp
  cases hdg : digit b with
  | true =>
   rw [hdg] at hd
   have e2 : sym s = false := by rw [e, hdg]; simp
   simp (maxSteps := 1000000) (disch := omega) [ip, wr, spec_l2Sym.b, hin, hb, hd, e2]
  | false =>
   rw [hdg] at hd
   simp (maxSteps := 1000000) (disch := omega) [ip, wr, spec_l2Sym.b, hin, hb, hd]
   refine l2Sym_loop s hs _ _ s.data.toList [] 0 rfl rfl (fun h => ?_) (fun h => ?_)
   ·have e2 : sym s = !(rd s).2 := by rw [e, hdg, h]; rfl
    simp (maxSteps := 1000000) (disch := omega) [ip, wr, e2, hrd]
   ·have e2 : sym s = false := by rw [e, hdg, h]; rfl
    simp (maxSteps := 1000000) (disch := omega) [ip, wr, e2, hrd]
 ·have g1 : ¬ ((1 : Int) ≤ s.size ∧ (s.size : Int) ≤ 16) := by omega
  rw [decide_eq_false g1] at hin
  have e : sym s = false := by
   unfold sym
   rw [decide_eq_false h1]
   simp
  simp (maxSteps := 1000000) (disch := omega) [ip, wr, spec_l2Sym.b, hin, e]
theorem symOk_loop (s : ByteArray) (hs : (s.size : Int) ≤ 140737488351232) (ks : List Fr) (Q : VX → Env → Prop) : ∀ (rest done : List UInt8) (i : Int), s.data.toList = done ++ rest → i = done.length →
  (rest.all sign = true → Run G A (.exit 0) [(0, .v (.leaf (.str s))), (3, .v (.leaf (.int .i64 s.size))), (9, .v (.leaf (.bool false)))] ks Q) →
  (rest.all sign = false → Run G A .ret [(2, .v (.leaf (.bool false)))] ks Q) →
  Run G A (.loop impl_symOk.l0) [(0, .v (.leaf (.str s))), (3, .v (.leaf (.int .i64 i)))] ks Q := by
 intro rest
 induction rest with
 | nil =>
  intro done i hd hi hq hr
  have hl : done.length = s.size := by have := congrArg List.length hd; simp at this; exact this.symm
  subst hi
  refine run_loop_at impl_symOk.l0.eq_1 ?_
  simp (maxSteps := 1000000) (disch := omega) [ip, wr, hl]
  exact hq rfl
 | cons c rest ih =>
  intro done i hd hi hq hr
  have hl : done.length + (rest.length + 1) = s.size := by have := congrArg List.length hd; simp at this; exact this.symm
  subst hi
  have hb := data_mid s done rest c hd
  have hsg := isSymByte c
  refine run_loop_at impl_symOk.l0.eq_1 ?_
  cases hc : sign c with
  | false =>
   rw [hc] at hsg
   simp (maxSteps := 1000000) (disch := omega) [ip, wr, hb, hsg]
   exact hr (by simp [hc])
  | true =>
   rw [hc] at hsg
   have ih := ih (done ++ [c]) (done.length + 1) (by simp [hd]) (by simp) (fun h => hq (by simp [hc]; simpa using h)) (fun h => hr (by simp [hc]; simpa using h))
   simp (maxSteps := 1000000) (disch := omega) [ip, wr, hb, hsg]
   exact ih
theorem symOk (s : ByteArray) (hs : (s.size : Int) ≤ 140737488351232) : A 167 [.leaf (.str s)] = some ([.leaf (.bool (sym s))], [.gone]) := by
 refine run_impl_symOk ?_
 have hin := inRange s.size 1 16
 have hrd := implReadDec s hs
 simp (maxSteps := 1000000) (disch := omega) [ip, wr, impl_symOk.b]
 refine symOk_loop s hs _ _ s.data.toList [] 0 rfl rfl (fun h => ?_) (fun h => ?_)
 ·by_cases h1 : 1 ≤ s.size ∧ s.size ≤ 16
  ·have g1 : (1 : Int) ≤ s.size ∧ (s.size : Int) ≤ 16 := by omega
   rw [decide_eq_true g1] at hin
   obtain ⟨b, t, hbt⟩ : ∃ b t, s.data.toList = b :: t := by
    cases h : s.data.toList with
    | nil => have hz : s.data.toList.length = s.size := Array.length_toList; rw [h] at hz; simp at hz; omega
    | cons b t => exact ⟨b, t, rfl⟩
   have hb : s.data[0]? = some b := data_mid s [] t b hbt
   have e : sym s = (!(decide (48 ≤ b.toNat ∧ b.toNat ≤ 57)) && !(rd s).2) := by
    unfold sym digit
    rw [decide_eq_true h1, h, hbt]
    simp
   rw [e]
   by_cases h48 : 48 ≤ b.toNat
   ·have g48 : (48 : Int) ≤ b.toNat := by omega
    by_cases h57 : b.toNat ≤ 57
    ·have g57 : (b.toNat : Int) ≤ 57 := by omega
     simp (maxSteps := 1000000) (disch := omega) [ip, wr, hin, hb, h48, g48, h57, g57, hrd]
    ·have g57 : ¬ (b.toNat : Int) ≤ 57 := by omega
     simp (maxSteps := 1000000) (disch := omega) [ip, wr, hin, hb, h48, g48, h57, g57, hrd]
   ·have g48 : ¬ (48 : Int) ≤ b.toNat := by omega
    simp (maxSteps := 1000000) (disch := omega) [ip, wr, hin, hb, h48, g48, hrd]
  ·have g1 : ¬ ((1 : Int) ≤ s.size ∧ (s.size : Int) ≤ 16) := by omega
   rw [decide_eq_false g1] at hin
   have e : sym s = false := by
    unfold sym
    rw [decide_eq_false h1]
    simp
   simp (maxSteps := 1000000) (disch := omega) [ip, wr, hin, e]
 ·have e : sym s = false := by
   unfold sym
   rw [h]
   rfl
  simp (maxSteps := 1000000) (disch := omega) [ip, wr, e]
end Go.Proofs.YtjcjodcpiickaaaGreatDoor.RA
