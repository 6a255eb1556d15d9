/- strings.Join, by the kit's contract. -/
import Derived.Test.YticecjjfbjnaaaaGreatDoorEngDoor
import Derived.Test.YticecjjfbjnaaaaGreatDoorShelf
namespace Go.Proofs.YticecjjfbjnaaaaGreatDoor
open Go Go.VS Go.RowKit
set_option linter.unusedVariables false
set_option linter.unusedSimpArgs false
/-- A contract on what is only seen, with scalars for results. -/
theorem answers_flat {P : Program} {W : World} {f : FuncId} {cs res : List CV} {rs : List Value} (hr : scals res = some rs)
    (h : ∀ (w : World) (I : Nat → Prop) (us : Array Value), Below W.heap.size W w → (∀ b, I b → b < w.heap.size) → us.size = cs.length → (∀ (j : Nat) c, cs[j]? = some c → ∃ S, RepC (fun _ => undef) w I c (us.getD j undef) S) →
      Calls P f us w fun e w' => e = .returned (resV rs) ∧ Below w.heap.size w w') : Answers P W f cs res (cs.map fun _ => .gone) := by
  intro w I A us Q hbel hold hilt hlen hA hAd hrep hQ
  refine (h w I us hbel hilt hlen fun j c hj => ⟨_, hrep j c hj _⟩).mono fun e w' ⟨he, hb⟩ => ?_
  subst he
  refine hQ (resV rs) w' I (fun _ => False) (fun _ _ => False) ⟨hbel.trans ⟨hb.os, hb.tape, hb.output, hb.size, fun k hk => hb.block k (Nat.lt_of_lt_of_le hk hbel.size)⟩, fun _ h => h, fun b hI => Nat.lt_of_lt_of_le (hilt b hI) hb.size, hb.size, fun b hlt _ => hb.block b hlt, fun b hh => ?_, fun _ h => h.elim, fun _ _ h => h.elim, fun _ _ _ h => h.elim, fun arg => rep_res hr, fun j c hj arg => ?_⟩
  · rcases hh with hh | ⟨_, hh⟩ | hh
    · exact hh.elim
    · exact hh.elim
    · exact .inr (.inl hh)
  · rw [List.getElem?_map] at hj
    cases hcj : cs[j]? with
    | none => rw [hcj] at hj; cases hj
    | some c0 => rw [hcj] at hj; obtain rfl := Option.some.inj hj; trivial
def strOf : List L → Option ByteArray
  | [.str s] => some s
  | _ => none
theorem strOf_some {r : List L} {s : ByteArray} (h : strOf r = some s) : r = [.str s] := by
  unfold strOf at h
  split at h
  · obtain rfl := Option.some.inj h; rfl
  · cases h
def strsOf : List (List L) → Option (List ByteArray)
  | [] => some []
  | r :: l => match strOf r, strsOf l with
    | some s, some ss => some (s :: ss)
    | _, _ => none
theorem strsOf_map : ∀ l : List ByteArray, strsOf (l.map fun s => [L.str s]) = some l
  | [] => rfl
  | s :: l => by simp only [List.map_cons, strsOf, strOf, strsOf_map l]
theorem strsOf_get : ∀ {rows : List (List L)} {xs : List ByteArray}, strsOf rows = some xs → rows.length = xs.length ∧ ∀ (j : Nat) x, xs[j]? = some x → rows[j]? = some [.str x]
  | [], xs, h => by simp [strsOf] at h; subst h; exact ⟨rfl, fun j x h => by simp at h⟩
  | r :: l, xs, h => by
    simp only [strsOf] at h
    split at h
    · rename_i s ss h1 h2
      obtain rfl := Option.some.inj h
      obtain rfl := strOf_some h1
      obtain ⟨k1, k2⟩ := strsOf_get h2
      refine ⟨by simp [k1], fun j x hj => ?_⟩
      cases j with
      | zero => simp at hj; subst hj; rfl
      | succ j => simp at hj; simpa using k2 j x hj
    · cases h
/-- Texts, one behind the other, with another one between. -/
def joinU (xs : List ByteArray) (sep : ByteArray) : List UInt8 := Lib.join (xs.map (·.data.toList)) sep.data.toList
def runJoin : List CV → Option (List CV × List CV)
  | [.leaf (.sl false 1 rows), .leaf (.str sep)] => match strsOf rows with
    | some xs => if (joinU xs sep).length ≤ 1000000000 ∧ xs.length ≤ 1000000000 then some ([.leaf (.str ⟨(joinU xs sep).toArray⟩)], [.gone, .gone]) else none
    | none => none
  | _ => none
theorem okJoin : ∀ W, LaidX W → ∀ cs res outs, runJoin cs = some (res, outs) → Answers Tryz.prog W 145 cs res outs ∧ ((⟨[.V, .V], true⟩ : Sig).own = true → res.all CV.free = true ∧ outs.all CV.free = true) := by
  intro W hX cs res outs h
  unfold runJoin at h
  split at h
  · rename_i rows sep
    split at h
    · rename_i xs hxs
      split at h
      · rename_i hb
        simp only [Option.some.injEq, Prod.mk.injEq] at h
        obtain ⟨rfl, rfl⟩ := h
        refine ⟨answers_flat (cs := [.leaf (.sl false 1 rows), .leaf (.str sep)]) (rs := [.string ⟨(joinU xs sep).toArray⟩]) rfl fun w I us hw hilt hlen hrep => ?_, fun _ => ⟨rfl, rfl⟩⟩
        obtain ⟨S0, h0⟩ := hrep 0 _ rfl
        obtain ⟨S1, h1⟩ := hrep 1 _ rfl
        have e1 := scal_rep (v := .string sep) rfl h1
        have hus : us = #[us.getD 0 undef, us.getD 1 undef] := by
          refine Array.ext (by simpa using hlen) fun i h1 h2 => ?_
          match i, h1, h2 with
          | 0, h1, _ => simp [Array.getD, h1]
          | 1, h1, _ => simp [Array.getD, h1]
        rw [hus, e1]
        obtain ⟨g1, g2⟩ := strsOf_get hxs
        have h0 := h0.2
        generalize us.getD 0 undef = u at h0
        cases h0 with
        | nil o sz S a cap hn =>
          have : xs = [] := List.eq_nil_of_length_eq_zero (by rw [← g1]; rfl)
          subst this
          refine (Tryz.strings_Join_none a cap sep w).mono ?_
          rintro e w' ⟨rfl, rfl⟩
          exact ⟨rfl, Below.refl _ _⟩
        | imm sz rows S b o cap cv hI hsz hcv hrep hlc =>
          rw [g1] at hlc ⊢
          refine (Tryz.strings_Join b o cap xs sep w (fun j x hj => ?_) (hilt b hI) (by omega) hlc (by unfold joinU at hb; omega)).mono ?_
          · have hr := g2 j x hj
            have hjl : j < rows.length := (List.getElem?_eq_some_iff.1 hr).1
            have k1 := (hcv j 0 hjl (by decide)).1
            have k2 := hrep j 0 _ (.str x) hr rfl
            rw [Nat.mul_one, Nat.add_zero] at k1
            rw [k1]
            generalize cv j 0 = q at k2
            cases k2
            rfl
          · rintro e w' ⟨rfl, hB⟩
            exact ⟨rfl, hB⟩
      · cases h
    · cases h
  · cases h
def prim_strings_Join : PEntry Tryz.prog LaidX := ⟨145, ⟨[.V, .V], true⟩, runJoin, by kernel_rfl, okJoin⟩
end Go.Proofs.YticecjjfbjnaaaaGreatDoor
