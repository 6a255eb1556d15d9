/- slices.DeleteFunc of texts of one's own, from the kit's contract. -/
import Derived.Test.YticecjjfbjnaaaaEngSortR
namespace Go.VS
open Go Go.RowKit Go.Proofs
set_option linter.unusedVariables false
set_option linter.unusedSimpArgs false
/-- What is left of texts without one. -/
def delS (s : ByteArray) (xs : List ByteArray) : List ByteArray := xs.filter fun x => !decide (x = s)
theorem delS_map (s : ByteArray) : ∀ xs : List ByteArray, ((xs.map ByteArray.toList).filter fun x => !decide (x = s.toList)) = (delS s xs).map ByteArray.toList
  | [] => rfl
  | x :: xs => by
    have ih := delS_map s xs
    unfold delS at ih ⊢
    by_cases h : x = s
    · subst h; simp [ih]
    · have h2 : ¬ x.toList = s.toList := fun e => h (baList_inj e)
      simp [h, h2, ih]
theorem delS_le (s : ByteArray) (xs : List ByteArray) : (delS s xs).length ≤ xs.length := List.length_filter_le _ _
theorem del_answers {P : Program} {W : World} {f g : FuncId}
    (hc : ∀ (b b2 cap : Nat) (s : ByteArray) (d : Array (List UInt8)) (w : World), Go.Sort.Holds encStr w b 0 d → w.cell? ⟨b2, 0, none⟩ = some (.string s) → b ≠ b2 → b2 < w.heap.size → d.size ≤ cap → d.size ≤ 1000000000 → Calls P f #[.slice (some ⟨b, 0, none⟩) d.size cap, .func (.func g) #[] #[.pointer (some ⟨b2, 0, none⟩)]] w fun e w' => e = .returned (.slice (some ⟨b, 0, none⟩) (d.toList.filter fun x => !decide (x = s.toList)).length cap) ∧ ∃ q, w' = Go.Sort.putRow encStr (Go.Sort.ahead w q) b 0 ((d.toList.filter fun x => !decide (x = s.toList)) ++ List.replicate (d.size - (d.toList.filter fun x => !decide (x = s.toList)).length) []).toArray)
    (hn : ∀ (p : Option Addr) (cap : Nat) (u : Value) (w : World), Calls P f #[.slice p 0 cap, u] w fun e w' => e = .returned (.slice p 0 cap) ∧ w' = w)
    (xs : List ByteArray) (s : ByteArray) (hx : xs.length ≤ 1000000000) : Answers P W f [.leaf (Kstrs true xs), .leaf (.clo g [.string s])] [.leaf (Kstrs true (delS s xs))] [.gone, .gone] := by
  intro w I A us Q hbel hold hilt hlen hA hAd hrep hQ
  have h0 := (hrep 0 _ rfl (fun _ => undef)).2
  have h1 := (hrep 1 _ rfl (fun _ => undef)).2
  have hus : us = #[us.getD 0 undef, us.getD 1 undef] := by
    refine Array.ext (by simpa using hlen) fun i h1 h2 => ?_
    match i, h1, h2 with
    | 0, h1, _ => simp [Array.getD, h1]
    | 1, h1, _ => simp [Array.getD, h1]
  have fin : ∀ (v : Value) (w' : World), w'.os = w.os → w'.tape = w.tape → w'.output = w.output → w.heap.size ≤ w'.heap.size → (∀ k, k < w.heap.size → ¬ A 0 k → w'.heap[k]? = w.heap[k]?) → v.oneCell' = true → RepL w' I (Kstrs true (delS s xs)) v (A 0) → Q (.returned v) w' := by
    intro v w' e1 e2 e3 e4 e5 hv e6
    refine hQ v w' I (A 0) (fun _ _ => False) ⟨⟨e1.trans hbel.os, e2.trans hbel.tape, e3.trans hbel.output, Nat.le_trans hbel.size e4, fun k hk => (e5 k (Nat.lt_of_lt_of_le hk hbel.size) fun ha => (hA 0 k ha).2 (hold k hk)).trans (hbel.block k hk)⟩, fun _ h => h, fun b hb => Nat.lt_of_lt_of_le (hilt b hb) e4, e4, fun b hb hno => e5 b hb (hno 0), fun b hb => ?_, fun b hb => ⟨Nat.lt_of_lt_of_le (hA 0 b hb).1 e4, (hA 0 b hb).2, fun _ h => h⟩, fun j b hb => hb.elim, fun j j' b h h' => h.elim, fun arg => ⟨hv, e6⟩, fun j c hj arg => ?_⟩
    · rcases hb with hb | ⟨j, hb⟩ | hb
      · exact .inl ⟨0, hb⟩
      · exact hb.elim
      · exact .inr (.inl hb)
    · match j, hj with
      | 0, hj => obtain rfl := (Option.some.inj hj).symm; trivial
      | 1, hj => obtain rfl := (Option.some.inj hj).symm; trivial
      | j + 2, hj => simp at hj
  have hd01 := hAd 0 1
  rw [hus]
  generalize us.getD 0 undef = u0 at h0
  generalize us.getD 1 undef = u1 at h1
  have e0 : Kstrs true xs = .sl true 1 (xs.map fun s => [L.str s]) := rfl
  rw [e0] at h0
  generalize hrows : (xs.map fun s => [L.str s]) = rows at h0
  cases h0 with
  | nil o sz S a cap hn0 =>
    have hx0 : xs = [] := by simpa using hrows
    subst hx0
    refine (hn a cap u1 w).mono ?_
    rintro e w' ⟨rfl, rfl⟩
    exact fin _ w' rfl rfl rfl (Nat.le_refl _) (fun _ _ _ => rfl) rfl (.nil _ _ _ _ _ hn0)
  | own sz rows S b cap cs e cv D hS hl hcap hb hcs hsz hcv hD hdis hr =>
    subst hrows
    have hbl : b < w.heap.size := (hA 0 b hS).1
    rw [List.length_map] at hl ⊢
    have hcell : ∀ j (hj : j < xs.length), cs[j]? = some (.string xs[j]) := by
      intro j hj
      have hjx : xs[j]? = some xs[j] := List.getElem?_eq_getElem hj
      have hjr : (xs.map fun s => [L.str s])[j]? = some [.str xs[j]] := by rw [List.getElem?_map, hjx]; rfl
      have k1 := (hcv j 0 (by rw [List.length_map]; exact hj) (by decide)).1
      have k2 := hr j 0 _ (.str xs[j]) hjr rfl
      rw [Nat.mul_one, Nat.add_zero] at k1
      rw [k1]
      generalize cv j 0 = q at k2
      cases k2
      rfl
    have hH : Go.Sort.Holds encStr w b 0 (xs.map ByteArray.toList).toArray := by
      intro j hj
      have hj' : j < xs.length := by simpa using hj
      refine ⟨?_, ?_⟩
      · rw [Nat.zero_add, cell_of hb, hcell j hj']
        simp only [List.getElem!_toArray, List.getElem!_eq_getElem?_getD, List.getElem?_map, List.getElem?_eq_getElem hj', Option.map_some, Option.getD_some, encStr, mk_toList]
      · simp [World.frozen?, hb]
    cases h1 with
    | clo _ _ _ b2 cs2 e2 hS2 hb2 hsz2 hv2 =>
      have hne : b ≠ b2 := fun h => by have := hd01 b hS (h ▸ hS2); cases this
      have hc2 : w.cell? ⟨b2, 0, none⟩ = some (.string s) := by rw [cell_of hb2]; exact (hv2 0 _ rfl).1
      have hq := hc b b2 cap s (xs.map ByteArray.toList).toArray w hH hc2 hne (hA 1 b2 hS2).1 (by simpa using hl) (by simpa using hx)
      simp only [List.size_toArray, List.length_map, List.toList_toArray] at hq
      rw [delS_map] at hq
      refine hq.mono ?_
      rintro e' w' ⟨rfl, n, rfl⟩
      generalize hzs : (((delS s xs).map ByteArray.toList ++ List.replicate (xs.length - ((delS s xs).map ByteArray.toList).length) [])) = zs
      have hzl : zs.length = xs.length := by rw [← hzs]; have := delS_le s xs; simp; omega
      have hheap : ∀ k, k < w.heap.size → (Go.Sort.putRow encStr (Go.Sort.ahead w n) b 0 zs.toArray).heap[k]? = (w.heap[k]?).map fun o => if b = k then Go.Sort.onCells (Go.Sort.putCells encStr 0 zs.toArray) o else o := by
        intro k hk
        simp only [Go.Sort.putRow, Go.Sort.mapBlock, Go.Sort.ahead, Array.getElem?_modify]
        by_cases hkb : b = k
        · simp [hkb]
        · simp [hkb]
      refine fin _ _ rfl rfl rfl (by simp [Go.Sort.ahead]) (fun k hk ha => ?_) rfl ?_
      · rw [hheap k hk]
        have : ¬ b = k := fun e => ha (e ▸ hS)
        simp [this]
      · have hb' := hheap b hbl
        rw [hb] at hb'
        simp only [Option.map_some, if_true, Go.Sort.onCells] at hb'
        have hdl := delS_le s xs
        have hlen2 : ((delS s xs).map fun s => [L.str s]).length = (delS s xs).length := by rw [List.length_map]
        have e1 : Kstrs true (delS s xs) = .sl true 1 ((delS s xs).map fun s => [L.str s]) := rfl
        rw [e1, show ((delS s xs).map ByteArray.toList).length = ((delS s xs).map fun s => [L.str s]).length by rw [List.length_map, List.length_map]]
        refine .own 1 _ _ b cap _ e (fun i _ => .string ((delS s xs).getD i ByteArray.empty)) (fun _ _ _ => False) hS (by rw [hlen2]; omega) hcap hb' (by simpa [Go.Sort.putCells] using hcs) (fun i r hr' => ?_) (fun i j hi hj => ?_) (fun _ _ _ h => h.elim) (fun _ _ _ _ _ h => h.elim) (fun i j r l hr' hl' => ?_)
        · rw [List.getElem?_map] at hr'
          cases hxi : (delS s xs)[i]? with
          | none => rw [hxi] at hr'; cases hr'
          | some x => rw [hxi] at hr'; obtain rfl := Option.some.inj hr'; rfl
        · rw [hlen2] at hi
          obtain rfl : j = 0 := by omega
          refine ⟨?_, rfl⟩
          have hix : i < xs.length := by omega
          have hzi : zs[i]? = some (((delS s xs)[i]'hi).toList) := by
            rw [← hzs, List.getElem?_append_left (by simpa using hi), List.getElem?_map, List.getElem?_eq_getElem hi]; rfl
          rw [Nat.mul_one, Nat.add_zero, Go.Sort.putCells, Array.getElem?_mapIdx, hcell i hix, Option.map_some, if_pos ⟨Nat.zero_le _, by simpa [hzl] using hix⟩, List.getD_eq_getElem?_getD, List.getElem?_eq_getElem hi]
          simp only [Nat.sub_zero, List.getElem!_toArray, List.getElem!_eq_getElem?_getD, hzi, Option.getD_some, encStr, mk_toList]
        · rw [List.getElem?_map] at hr'
          cases hxi : (delS s xs)[i]? with
          | none => rw [hxi] at hr'; cases hr'
          | some x =>
            rw [hxi] at hr'
            obtain rfl := (Option.some.inj hr').symm
            cases j with
            | zero =>
              obtain rfl := (Option.some.inj hl').symm
              rw [List.getD_eq_getElem?_getD, hxi]
              exact .str ..
            | succ j => simp at hl'
def runDelS (g : FuncId) : List CV → Option (List CV × List CV)
  | [.leaf (.sl true 1 rows), .leaf (.clo g' [.string s])] => match txsOf rows with
    | some xs => if g' = g ∧ xs.length ≤ 1000000000 then some ([.leaf (Kstrs true (delS s xs))], [.gone, .gone]) else none
    | none => none
  | _ => none
theorem runDelS_at (g : FuncId) (s : ByteArray) (xs : List ByteArray) (h : xs.length ≤ 1000000000) : runDelS g [.leaf (Kstrs true xs), .leaf (.clo g [.string s])] = some ([.leaf (Kstrs true (delS s xs))], [.gone, .gone]) := by
  simp only [runDelS, Kstrs, txsOf_map]
  rw [if_pos ⟨trivial, h⟩]
theorem runDelS_ok {P : Program} {W : World} {f g : FuncId}
    (hc : ∀ (b b2 cap : Nat) (s : ByteArray) (d : Array (List UInt8)) (w : World), Go.Sort.Holds encStr w b 0 d → w.cell? ⟨b2, 0, none⟩ = some (.string s) → b ≠ b2 → b2 < w.heap.size → d.size ≤ cap → d.size ≤ 1000000000 → Calls P f #[.slice (some ⟨b, 0, none⟩) d.size cap, .func (.func g) #[] #[.pointer (some ⟨b2, 0, none⟩)]] w fun e w' => e = .returned (.slice (some ⟨b, 0, none⟩) (d.toList.filter fun x => !decide (x = s.toList)).length cap) ∧ ∃ q, w' = Go.Sort.putRow encStr (Go.Sort.ahead w q) b 0 ((d.toList.filter fun x => !decide (x = s.toList)) ++ List.replicate (d.size - (d.toList.filter fun x => !decide (x = s.toList)).length) []).toArray)
    (hn : ∀ (p : Option Addr) (cap : Nat) (u : Value) (w : World), Calls P f #[.slice p 0 cap, u] w fun e w' => e = .returned (.slice p 0 cap) ∧ w' = w)
    {cs res outs : List CV} (h : runDelS g cs = some (res, outs)) : Answers P W f cs res outs ∧ (res.all CV.free = true ∧ outs.all CV.free = true) := by
  unfold runDelS at h
  split at h
  · split at h
    · rename_i xs hxs
      split at h
      · rename_i hb
        obtain ⟨rfl, hb⟩ := hb
        obtain rfl := txsOf_eq hxs
        simp only [Option.some.injEq, Prod.mk.injEq] at h
        obtain ⟨rfl, rfl⟩ := h
        exact ⟨del_answers hc hn xs _ hb, by simp [CV.free, L.free, free_txs]⟩
      · cases h
    · cases h
  · cases h
end Go.VS
