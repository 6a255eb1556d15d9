/- slices.Grow of no Defs, by the kit's contract. -/
import Derived.Test.YthkfnfppihgejaaGreatDoorEngPClone
namespace Go.Proofs.YthkfnfppihgejaaGreatDoor
open Go Go.VS Go.RowKit
set_option linter.unusedVariables false
set_option linter.unusedSimpArgs false
def runGrowDef : List CV → Option (List CV × List CV)
  | [.leaf (.sl true 3 []), .leaf (.int .i64 n)] => if 0 ≤ n ∧ n ≤ 1000000000 then some ([.leaf (.sl true 3 [])], [.gone, .gone]) else none
  | _ => none
theorem okGrowDef : ∀ W, LaidX W → ∀ cs res outs, runGrowDef cs = some (res, outs) → Answers Tryz.prog W 85 cs res outs ∧ ((⟨[.O, .V], true⟩ : Sig).own = true → res.all CV.free = true ∧ outs.all CV.free = true) := by
  intro W hX cs res outs h
  unfold runGrowDef at h
  split at h
  · rename_i n
    split at h
    · rename_i hn
      simp only [Option.some.injEq, Prod.mk.injEq] at h
      obtain ⟨rfl, rfl⟩ := h
      refine ⟨?_, fun _ => ⟨rfl, rfl⟩⟩
      intro w I A us Q hbel hold hilt hlen hA hAd hrep hQ
      obtain ⟨m, rfl⟩ : ∃ m : Nat, n = (m : Int) := ⟨n.toNat, by omega⟩
      have h0 := (hrep 0 _ rfl (fun _ => undef)).2
      have e1 := scal_rep (v := .int .i64 m) rfl (hrep 1 _ rfl (fun _ => undef))
      have hus : us = #[us.getD 0 undef, us.getD 1 undef] := by
        refine Array.ext (by simpa using hlen) fun i h1 h2 => ?_
        match i, h1, h2 with
        | 0, h1, _ => simp [Array.getD, h1]
        | 1, h1, _ => simp [Array.getD, h1]
      have fin := fun {w' : World} {v : Value} {R : Nat → Prop} => @answer_own W w w' I A us Q 3 [] v [.gone, .gone] R hQ hbel hilt hA (fun c hc => by simpa using hc)
      obtain ⟨i0, hi0, hs0, hb0, z, hz0, hzc⟩ : ∃ i0, Tryz.prog.info? 86 = some i0 ∧ i0.size = 3 ∧ i0.bytes = 48 ∧ ∃ z, i0.zero = some z ∧ z.cells.size = 3 := by
        obtain ⟨i0, h⟩ : ∃ i0, Tryz.prog.info? 86 = some i0 := Option.isSome_iff_exists.1 (by kernel_rfl)
        have a1 : (Tryz.prog.info? 86).map (·.size) = some 3 := by kernel_rfl
        have a2 : (Tryz.prog.info? 86).map (·.bytes) = some 48 := by kernel_rfl
        have a3 : ((Tryz.prog.info? 86).bind (·.zero)).map (fun z => z.cells.size) = some 3 := by kernel_rfl
        rw [h] at a1 a2 a3
        rw [Option.bind_some, Option.map_eq_some_iff] at a3
        obtain ⟨z, hz, hc⟩ := a3
        exact ⟨i0, h, Option.some.inj a1, Option.some.inj a2, z, hz, hc⟩
      -- a new block
      have grow : ∀ (base : Option Addr) (c : Nat) (cs : List Value), c < m → cs.length = c * 3 → (base = none → c = 0) → (∀ a, base = some a → ∀ j v, cs[j]? = some v → w.cell? (a.add j) = some v) → Calls Tryz.prog 85 #[.slice base 0 c, .int .i64 m] w Q := by
        intro base c cs hc hcl hnil hcs
        refine (Tryz.slices_GrowDef_grow i0 z hi0 hz0 (by omega) base 0 c m cs w (Nat.zero_le _) (by omega) (by rw [hb0]; omega) (by omega) (by rw [hs0]; omega) hnil hcs).mono ?_
        rintro e w' ⟨rfl, rfl⟩
        have hmax : 0 + m ≤ maxLen := by unfold maxLen; omega
        have hge := grownCap_ge w (0 + m) c 86
        have hle := grownCap_le_maxLen w (0 + m) c 86 hmax
        refine fin (R := fun b => b = w.heap.size) ((Below.refl _ w).drew.alloc (Nat.le_refl _) _) (fun b hb => ⟨.inr (by omega), by subst hb; simp⟩) ?_
        refine .own 3 [] _ w.heap.size _ _ 86 (fun _ _ => undef) (fun _ _ _ => False) rfl (Nat.zero_le _) hle (new_at w.drew _) ?_ (fun i r hr => by simp at hr) (fun i j hi => by simp at hi) (fun _ _ _ h => h.elim) (fun _ _ _ _ _ h => h.elim) (fun i j r l hr => by simp at hr)
        simp only [Array.size_append, List.size_toArray, size_zeroCells, hzc, hcl]
        omega
      rw [hus, e1]
      generalize us.getD 0 undef = u at h0
      cases h0 with
      | nil o sz S a cap hn0 =>
        obtain rfl := hn0 rfl
        by_cases h0 : m = 0
        · subst h0
          refine (Tryz.slices_GrowDef_room a 0 0 0 w (Nat.le_refl _) (by omega) (by omega) (Nat.le_refl _)).mono ?_
          rintro e w' ⟨rfl, rfl⟩
          exact fin (R := fun _ => False) (Below.refl _ _) (fun _ h => h.elim) (.nil _ _ _ _ _ (fun _ => rfl))
        · exact grow a 0 [] (by omega) rfl (fun _ => rfl) (fun _ _ j v hj => by simp at hj)
      | own sz rows S b cap cs e cv D hS hl hcap hb hcs hsz hcv hD hdis hr =>
        by_cases hroom : m ≤ cap
        · refine (Tryz.slices_GrowDef_room _ 0 cap m w (Nat.zero_le _) (by unfold maxLen at hcap; omega) (by omega) (by omega)).mono ?_
          rintro e w' ⟨rfl, rfl⟩
          exact fin (R := A 0) (Below.refl _ _) (fun b hb => ⟨.inl ⟨0, hb⟩, (hA 0 b hb).1⟩) (.own 3 [] _ b cap cs _ cv D hS hl hcap hb hcs hsz hcv hD hdis hr)
        · refine grow _ cap cs.toList (by omega) (by simpa using hcs) (fun h => by cases h) (fun a ha j v hj => ?_)
          obtain rfl := (Option.some.inj ha).symm
          rw [Array.getElem?_toList] at hj
          rw [add_at, Nat.zero_add, cell_of hb]
          exact hj
    · cases h
  · cases h
def prim_slices_Grow_impl_Def_impl_Def : PEntry Tryz.prog LaidX := ⟨85, ⟨[.O, .V], true⟩, runGrowDef, by kernel_rfl, okGrowDef⟩
end Go.Proofs.YthkfnfppihgejaaGreatDoor
