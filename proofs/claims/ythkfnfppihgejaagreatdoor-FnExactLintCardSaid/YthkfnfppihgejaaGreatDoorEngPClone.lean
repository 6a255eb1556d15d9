/- slices.Clone and slices.Grow of texts, by the kit's contracts. -/
import Derived.Test.YthkfnfppihgejaaGreatDoorEngDoor
import Derived.Test.YthkfnfppihgejaaGreatDoorShelfB
namespace Go.Proofs.YthkfnfppihgejaaGreatDoor
open Go Go.VS Go.RowKit
set_option linter.unusedVariables false
set_option linter.unusedSimpArgs false
def strOf : List L → Option ByteArray
  | [.str s] => some s
  | _ => none
theorem strOf_some {r : List L} {s : ByteArray} (h : strOf r = some s) : r = [.str s] := by
  unfold strOf at h
  split at h
  · obtain rfl := Option.some.inj h; rfl
  · cases h
def strsOf : List (List L) → Option (List ByteArray)
  | [] => some []
  | r :: l => match strOf r, strsOf l with
    | some s, some ss => some (s :: ss)
    | _, _ => none
theorem strsOf_map : ∀ l : List ByteArray, strsOf (l.map fun s => [L.str s]) = some l
  | [] => rfl
  | s :: l => by simp only [List.map_cons, strsOf, strOf, strsOf_map l]
theorem strsOf_eq : ∀ {rows : List (List L)} {xs : List ByteArray}, strsOf rows = some xs → rows = xs.map fun s => [L.str s]
  | [], xs, h => by simp [strsOf] at h; subst h; rfl
  | r :: l, xs, h => by
    simp only [strsOf] at h
    split at h
    · rename_i s ss h1 h2
      obtain rfl := Option.some.inj h
      obtain rfl := strOf_some h1
      rw [strsOf_eq h2]
      rfl
    · cases h
/-- An answer that is one leaf of one's own. -/
theorem answer_own {W w w' : World} {I : Nat → Prop} {A : Nat → Nat → Prop} {us : Array Value} {Q : Ending → World → Prop} {sz : Nat} {rows : List (List L)} {v : Value} {outs : List CV} {R : Nat → Prop}
    (hQ : ∀ v w' I' R A', After W w I A us [.leaf (.sl true sz rows)] outs v w' I' R A' → Q (.returned v) w') (hbel : Below W.heap.size W w) (hilt : ∀ b, I b → b < w.heap.size) (hA : ∀ j b, A j b → b < w.heap.size ∧ ¬ I b) (hg : ∀ c ∈ outs, c = .gone)
    (hb : Below w.heap.size w w') (hR : ∀ b, R b → ((∃ j, A j b) ∨ w.heap.size ≤ b) ∧ b < w'.heap.size) (hl : RepL w' I (.sl true sz rows) v R) : Q (.returned v) w' := by
  have h1 : v.oneCell' = true := by cases hl <;> rfl
  refine hQ v w' I R (fun _ _ => False) ⟨hbel.trans ⟨hb.os, hb.tape, hb.output, hb.size, fun k hk => hb.block k (Nat.lt_of_lt_of_le hk hbel.size)⟩, fun _ h => h, fun b hI => Nat.lt_of_lt_of_le (hilt b hI) hb.size, hb.size, fun b hlt _ => hb.block b hlt, fun b hh => ?_, fun b hr => ⟨(hR b hr).2, fun hi => ?_, fun _ h => h⟩, fun _ _ h => h.elim, fun _ _ _ h => h.elim, fun arg => ⟨h1, hl⟩, fun j c hj arg => ?_⟩
  · rcases hh with hh | ⟨_, hh⟩ | hh
    · rcases (hR b hh).1 with h | h
      · exact .inl h
      · exact .inr (.inr h)
    · exact hh.elim
    · exact .inr (.inl hh)
  · rcases (hR b hr).1 with ⟨j, h⟩ | h
    · exact (hA j b h).2 hi
    · have := hilt b hi; omega
  · rw [hg c (List.mem_of_getElem? hj)]
    trivial
theorem own_of_row {w' : World} {I : Nat → Prop} {base : Nat} {e : TypeId} {v : Value} {n : Nat} {xs : List ByteArray} (hn : xs.length = n) (h : w'.ownsRow base e 1 v n (xs.map Value.string)) (hsz : ∀ g, (∃ cur, w'.heap[g]? = some cur) → g < w'.heap.size) :
    ∃ R : Nat → Prop, RepL w' I (.sl true 1 (xs.map fun s => [L.str s])) v R ∧ ∀ b, R b → base ≤ b ∧ b < w'.heap.size := by
  subst hn
  obtain ⟨_, h⟩ := h
  rcases h with ⟨rfl, h0⟩ | ⟨g, cap, cur, rfl, hb, hg, hc, hm, hcs, ht⟩
  · have : xs = [] := List.eq_nil_of_length_eq_zero h0
    subst this
    exact ⟨fun _ => False, .nil _ _ _ _ _ (fun _ => rfl), fun _ h => h.elim⟩
  · refine ⟨fun b => b = g, ?_, fun b hb' => hb' ▸ ⟨hb, hsz g ⟨_, hg⟩⟩⟩
    have hlen : (xs.map fun s => [L.str s]).length = xs.length := by simp
    rw [show xs.length = (xs.map fun s => [L.str s]).length from hlen.symm]
    refine .own 1 _ _ g cap cur e (fun i _ => .string (xs.getD i ByteArray.empty)) (fun _ _ _ => False) rfl (by rw [hlen]; exact hc) hm hg hcs (fun i r hr => ?_) (fun i j hi hj => ?_) (fun _ _ _ h => h.elim) (fun _ _ _ _ _ h => h.elim) (fun i j r l hr hl => ?_)
    · rw [List.getElem?_map] at hr
      cases hx : xs[i]? with
      | none => rw [hx] at hr; cases hr
      | some x => rw [hx] at hr; obtain rfl := Option.some.inj hr; rfl
    · rw [hlen] at hi
      obtain rfl : j = 0 := by omega
      refine ⟨?_, rfl⟩
      have h1 : (cur.toList.take (xs.length * 1))[i]? = (xs.map Value.string)[i]? := by rw [ht]
      rw [List.getElem?_take_of_lt (by omega), Array.getElem?_toList, List.getElem?_map, List.getElem?_eq_getElem hi] at h1
      rw [Nat.mul_one, Nat.add_zero, h1, List.getD_eq_getElem?_getD, List.getElem?_eq_getElem hi]
      rfl
    · rw [List.getElem?_map] at hr
      cases hx : xs[i]? with
      | none => rw [hx] at hr; cases hr
      | some x =>
        rw [hx] at hr
        obtain rfl := (Option.some.inj hr).symm
        cases j with
        | zero =>
          obtain rfl := (Option.some.inj hl).symm
          rw [List.getD_eq_getElem?_getD, hx]
          exact .str ..
        | succ j => simp at hl
theorem heap_lt' {w : World} {g : Nat} (h : ∃ cur, w.heap[g]? = some cur) : g < w.heap.size := by
  obtain ⟨cur, h⟩ := h
  rcases Nat.lt_or_ge g w.heap.size with hh | hh
  · exact hh
  · rw [Array.getElem?_eq_none hh] at h; cases h
def runGrowS : List CV → Option (List CV × List CV)
  | [.leaf (.sl true 1 []), .leaf (.int .i64 n)] => if 0 ≤ n ∧ n ≤ 1000000000 then some ([.leaf (.sl true 1 [])], [.gone, .gone]) else none
  | _ => none
theorem okGrowS : ∀ W, LaidX W → ∀ cs res outs, runGrowS cs = some (res, outs) → Answers Tryz.prog W 112 cs res outs ∧ ((⟨[.O, .V], true⟩ : Sig).own = true → res.all CV.free = true ∧ outs.all CV.free = true) := by
  intro W hX cs res outs h
  unfold runGrowS at h
  split at h
  · rename_i n
    split at h
    · rename_i hn
      simp only [Option.some.injEq, Prod.mk.injEq] at h
      obtain ⟨rfl, rfl⟩ := h
      refine ⟨?_, fun _ => ⟨rfl, rfl⟩⟩
      intro w I A us Q hbel hold hilt hlen hA hAd hrep hQ
      obtain ⟨m, rfl⟩ : ∃ m : Nat, n = (m : Int) := ⟨n.toNat, by omega⟩
      have h0 := (hrep 0 _ rfl (fun _ => undef)).2
      have e1 := scal_rep (v := .int .i64 m) rfl (hrep 1 _ rfl (fun _ => undef))
      have hus : us = #[us.getD 0 undef, us.getD 1 undef] := by
        refine Array.ext (by simpa using hlen) fun i h1 h2 => ?_
        match i, h1, h2 with
        | 0, h1, _ => simp [Array.getD, h1]
        | 1, h1, _ => simp [Array.getD, h1]
      have fin := fun {w' : World} {v : Value} {R : Nat → Prop} => @answer_own W w w' I A us Q 1 [] v [.gone, .gone] R hQ hbel hilt hA (fun c hc => by simpa using hc)
      obtain ⟨i0, hi0, hs0, hb0, z, hz0, hzc⟩ : ∃ i0, Tryz.prog.info? 9 = some i0 ∧ i0.size = 1 ∧ i0.bytes = 16 ∧ ∃ z, i0.zero = some z ∧ z.cells.size = 1 := by
        obtain ⟨i0, h⟩ : ∃ i0, Tryz.prog.info? 9 = some i0 := Option.isSome_iff_exists.1 (by kernel_rfl)
        have a1 : (Tryz.prog.info? 9).map (·.size) = some 1 := by kernel_rfl
        have a2 : (Tryz.prog.info? 9).map (·.bytes) = some 16 := by kernel_rfl
        have a3 : (Tryz.prog.info? 9).bind (·.zero) = some (.string ⟨#[]⟩) := by kernel_rfl
        rw [h] at a1 a2 a3
        exact ⟨i0, h, Option.some.inj a1, Option.some.inj a2, _, a3, rfl⟩
      -- a new block
      have grow : ∀ (base : Option Addr) (c : Nat) (cs : List Value), c < m → cs.length = c → (base = none → c = 0) → (∀ a, base = some a → ∀ j v, cs[j]? = some v → w.cell? (a.add j) = some v) → Calls Tryz.prog 112 #[.slice base 0 c, .int .i64 m] w Q := by
        intro base c cs hc hcl hnil hcs
        refine (Tryz.slices_Grow_grow i0 z hi0 hz0 (by omega) base 0 c m cs w (Nat.zero_le _) (by omega) (by rw [hb0]; omega) (by omega) (by rw [hs0]; omega) hnil hcs).mono ?_
        rintro e w' ⟨rfl, rfl⟩
        have hmax : 0 + m ≤ maxLen := by unfold maxLen; omega
        have hge := grownCap_ge w (0 + m) c 9
        have hle := grownCap_le_maxLen w (0 + m) c 9 hmax
        refine fin (R := fun b => b = w.heap.size) ((Below.refl _ w).drew.alloc (Nat.le_refl _) _) (fun b hb => ⟨.inr (by omega), by subst hb; simp⟩) ?_
        refine .own 1 [] _ w.heap.size _ _ 9 (fun _ _ => undef) (fun _ _ _ => False) rfl (Nat.zero_le _) hle (new_at w.drew _) ?_ (fun i r hr => by simp at hr) (fun i j hi => by simp at hi) (fun _ _ _ h => h.elim) (fun _ _ _ _ _ h => h.elim) (fun i j r l hr => by simp at hr)
        simp only [Array.size_append, List.size_toArray, size_zeroCells, hzc, hcl]
        omega
      rw [hus, e1]
      generalize us.getD 0 undef = u at h0
      cases h0 with
      | nil o sz S a cap hn0 =>
        obtain rfl := hn0 rfl
        by_cases h0 : m = 0
        · subst h0
          refine (Tryz.slices_Grow_room a 0 0 0 w (Nat.le_refl _) (by omega) (by omega) (Nat.le_refl _)).mono ?_
          rintro e w' ⟨rfl, rfl⟩
          exact fin (R := fun _ => False) (Below.refl _ _) (fun _ h => h.elim) (.nil _ _ _ _ _ (fun _ => rfl))
        · exact grow a 0 [] (by omega) rfl (fun _ => rfl) (fun _ _ j v hj => by simp at hj)
      | own sz rows S b cap cs e cv D hS hl hcap hb hcs hsz hcv hD hdis hr =>
        by_cases hroom : m ≤ cap
        · refine (Tryz.slices_Grow_room _ 0 cap m w (Nat.zero_le _) (by unfold maxLen at hcap; omega) (by omega) (by omega)).mono ?_
          rintro e w' ⟨rfl, rfl⟩
          exact fin (R := A 0) (Below.refl _ _) (fun b hb => ⟨.inl ⟨0, hb⟩, (hA 0 b hb).1⟩) (.own 1 [] _ b cap cs _ cv D hS hl hcap hb hcs hsz hcv hD hdis hr)
        · refine grow _ cap cs.toList (by omega) (by simpa using hcs) (fun h => by cases h) (fun a ha j v hj => ?_)
          obtain rfl := (Option.some.inj ha).symm
          rw [Array.getElem?_toList] at hj
          rw [add_at, Nat.zero_add, cell_of hb]
          exact hj
    · cases h
  · cases h
def prim_slices_Grow_string_string : PEntry Tryz.prog LaidX := ⟨112, ⟨[.O, .V], true⟩, runGrowS, by kernel_rfl, okGrowS⟩
end Go.Proofs.YthkfnfppihgejaaGreatDoor
