/- slices.Sort of texts of one's own, from the kit's contract. -/
import Derived.Test.YticecjjfbjnaaaaEngNeedP
import Derived.Sort.Grow
import Derived.Sort.EncStr
namespace Go.VS
open Go Go.RowKit Go.Proofs
set_option linter.unusedVariables false
set_option linter.unusedSimpArgs false
theorem sortS_length (xs : List ByteArray) : (sortS xs).length = xs.length := by simp [sortS]
theorem sortS_nil : sortS [] = [] := List.length_eq_zero_iff.1 (sortS_length [])
theorem sort_answers {P : Program} {W : World} {f : FuncId}
    (hc : ∀ (b cap : Nat) (ss : List (List UInt8)) (w : World), Go.Sort.Holds encStr w b 0 ss.toArray → b < w.heap.size → ss.length < 4611686018427387904 → Calls P f #[.slice (some ⟨b, 0, none⟩) ss.length cap] w fun e w' => e = .returned (.tuple #[]) ∧ ∃ n os, w' = Go.Sort.grow (Go.Sort.putRow encStr (Go.Sort.ahead w n) b 0 (ss.mergeSort fun x y => decide (x ≤ y)).toArray) os)
    (hn : ∀ (p : Option Addr) (cap : Nat) (w : World), Calls P f #[.slice p 0 cap] w fun e w' => e = .returned (.tuple #[]) ∧ w' = w)
    (xs : List ByteArray) (hx : xs.length ≤ 1000000000) : Answers P W f [.leaf (Kstrs true xs)] [] [.leaf (Kstrs true (sortS xs))] := by
  intro w I A us Q hbel hold hilt hlen hA hAd hrep hQ
  have h0 := (hrep 0 _ rfl (fun _ => undef)).2
  have hus : us = #[us.getD 0 undef] := by
    refine Array.ext (by simpa using hlen) fun i h1 h2 => ?_
    match i, h1, h2 with
    | 0, h1, _ => simp [Array.getD, h1]
  have fin : ∀ w' : World, w'.os = w.os → w'.tape = w.tape → w'.output = w.output → w.heap.size ≤ w'.heap.size → (∀ k, k < w.heap.size → ¬ A 0 k → w'.heap[k]? = w.heap[k]?) → RepL w' I (Kstrs true (sortS xs)) (us.getD 0 undef) (A 0) → Q (.returned (.tuple #[])) w' := by
    intro w' e1 e2 e3 e4 e5 e6
    have h1 : (us.getD 0 undef).oneCell' = true := (hrep 0 _ rfl (fun _ => undef)).1
    refine hQ _ w' I (fun _ => False) (fun j b => j = 0 ∧ A 0 b) ⟨⟨e1.trans hbel.os, e2.trans hbel.tape, e3.trans hbel.output, Nat.le_trans hbel.size e4, fun k hk => (e5 k (Nat.lt_of_lt_of_le hk hbel.size) fun ha => (hA 0 k ha).2 (hold k hk)).trans (hbel.block k hk)⟩, fun _ h => h, fun b hb => Nat.lt_of_lt_of_le (hilt b hb) e4, e4, fun b hb hno => e5 b hb (hno 0), fun b hb => ?_, fun b hb => hb.elim, fun j b hb => ⟨Nat.lt_of_lt_of_le (hA 0 b hb.2).1 e4, (hA 0 b hb.2).2⟩, fun j j' b h h' => h.1.trans h'.1.symm, fun arg => ⟨#[], rfl, rfl, fun _ _ => False, fun _ _ h => h, fun _ _ _ h => h.elim, fun j c hj => by simp at hj⟩, fun j c hj arg => ?_⟩
    · rcases hb with hb | ⟨j, hb⟩ | hb
      · exact hb.elim
      · exact .inl ⟨0, hb.2⟩
      · exact .inr (.inl hb)
    · cases j with
      | zero =>
        obtain rfl := (Option.some.inj hj).symm
        exact ⟨h1, e6.mono (fun _ h => h) fun b hb => ⟨rfl, hb⟩⟩
      | succ j => simp at hj
  rw [hus]
  generalize us.getD 0 undef = u at h0 fin
  have e0 : Kstrs true xs = .sl true 1 (xs.map fun s => [L.str s]) := rfl
  rw [e0] at h0
  generalize hrows : (xs.map fun s => [L.str s]) = rows at h0
  cases h0 with
  | nil o sz S a cap hn0 =>
    have hx0 : xs = [] := by simpa using hrows
    subst hx0
    refine (hn a cap w).mono ?_
    rintro e w' ⟨rfl, rfl⟩
    exact fin w' rfl rfl rfl (Nat.le_refl _) (fun _ _ _ => rfl) (by rw [sortS_nil]; exact .nil _ _ _ _ _ hn0)
  | own sz rows S b cap cs e cv D hS hl hcap hb hcs hsz hcv hD hdis hr =>
    subst hrows
    have hbl : b < w.heap.size := (hA 0 b hS).1
    rw [List.length_map] at hl ⊢
    have hcell : ∀ j (hj : j < xs.length), cs[j]? = some (.string xs[j]) := by
      intro j hj
      have hjx : xs[j]? = some xs[j] := List.getElem?_eq_getElem hj
      have hjr : (xs.map fun s => [L.str s])[j]? = some [.str xs[j]] := by rw [List.getElem?_map, hjx]; rfl
      have k1 := (hcv j 0 (by rw [List.length_map]; exact hj) (by decide)).1
      have k2 := hr j 0 _ (.str xs[j]) hjr rfl
      rw [Nat.mul_one, Nat.add_zero] at k1
      rw [k1]
      generalize cv j 0 = q at k2
      cases k2
      rfl
    have hH : Go.Sort.Holds encStr w b 0 (xs.map ByteArray.toList).toArray := by
      intro j hj
      have hj' : j < xs.length := by simpa using hj
      refine ⟨?_, ?_⟩
      · rw [Nat.zero_add, cell_of hb, hcell j hj']
        simp only [List.getElem!_toArray, List.getElem!_eq_getElem?_getD, List.getElem?_map, List.getElem?_eq_getElem hj', Option.map_some, Option.getD_some, encStr, mk_toList]
      · simp [World.frozen?, hb]
    have hq := hc b cap (xs.map ByteArray.toList) w hH hbl (by rw [List.length_map]; omega)
    rw [List.length_map] at hq
    refine hq.mono ?_
    rintro e' w' ⟨rfl, n, os, rfl⟩
    generalize hys : ((xs.map ByteArray.toList).mergeSort fun x y => decide (x ≤ y)) = ys
    have hyl : ys.length = xs.length := by rw [← hys]; simp
    have hso : sortS xs = ys.map fun x => ⟨x.toArray⟩ := by rw [← hys]; rfl
    have hheap : ∀ k, k < w.heap.size → (Go.Sort.grow (Go.Sort.putRow encStr (Go.Sort.ahead w n) b 0 ys.toArray) os).heap[k]? = (w.heap[k]?).map fun o => if b = k then Go.Sort.onCells (Go.Sort.putCells encStr 0 ys.toArray) o else o := by
      intro k hk
      rw [Go.Sort.heap_grow_old _ _ (by simpa using hk)]
      simp only [Go.Sort.putRow, Go.Sort.mapBlock, Go.Sort.ahead, Array.getElem?_modify]
      by_cases hkb : b = k
      · simp [hkb]
      · simp [hkb]
    refine fin _ rfl rfl rfl (by simp [Go.Sort.ahead]) (fun k hk ha => ?_) ?_
    · rw [hheap k hk]
      have : ¬ b = k := fun e => ha (e ▸ hS)
      simp [this]
    · have hb' := hheap b hbl
      rw [hb] at hb'
      simp only [Option.map_some, if_true, Go.Sort.onCells] at hb'
      have hlen2 : ((sortS xs).map fun s => [L.str s]).length = xs.length := by rw [List.length_map, sortS_length]
      have e1 : Kstrs true (sortS xs) = .sl true 1 ((sortS xs).map fun s => [L.str s]) := rfl
      rw [e1, show (xs.map fun s => [L.str s]).length = ((sortS xs).map fun s => [L.str s]).length by rw [hlen2, List.length_map]]
      refine .own 1 _ _ b cap _ e (fun i _ => .string ((sortS xs).getD i ByteArray.empty)) (fun _ _ _ => False) hS (by rw [hlen2]; exact hl) hcap hb' (by simpa [Go.Sort.putCells] using hcs) (fun i r hr' => ?_) (fun i j hi hj => ?_) (fun _ _ _ h => h.elim) (fun _ _ _ _ _ h => h.elim) (fun i j r l hr' hl' => ?_)
      · rw [List.getElem?_map] at hr'
        cases hxi : (sortS xs)[i]? with
        | none => rw [hxi] at hr'; cases hr'
        | some x => rw [hxi] at hr'; obtain rfl := Option.some.inj hr'; rfl
      · rw [hlen2] at hi
        obtain rfl : j = 0 := by omega
        refine ⟨?_, rfl⟩
        have hiy : i < ys.length := by omega
        rw [Nat.mul_one, Nat.add_zero, Go.Sort.putCells, Array.getElem?_mapIdx, hcell i hi, Option.map_some, if_pos ⟨Nat.zero_le _, by simpa using hiy⟩, hso, List.getD_eq_getElem?_getD, List.getElem?_map, List.getElem?_eq_getElem hiy]
        simp only [Nat.sub_zero, List.getElem!_toArray, List.getElem!_eq_getElem?_getD, List.getElem?_eq_getElem hiy, Option.map_some, Option.getD_some, encStr]
      · rw [List.getElem?_map] at hr'
        cases hxi : (sortS xs)[i]? with
        | none => rw [hxi] at hr'; cases hr'
        | some x =>
          rw [hxi] at hr'
          obtain rfl := (Option.some.inj hr').symm
          cases j with
          | zero =>
            obtain rfl := (Option.some.inj hl').symm
            rw [List.getD_eq_getElem?_getD, hxi]
            exact .str ..
          | succ j => simp at hl'
def txOf : List L → Option ByteArray
  | [.str s] => some s
  | _ => none
theorem txOf_some {r : List L} {s : ByteArray} (h : txOf r = some s) : r = [.str s] := by
  unfold txOf at h
  split at h
  · obtain rfl := Option.some.inj h; rfl
  · cases h
def txsOf : List (List L) → Option (List ByteArray)
  | [] => some []
  | r :: l => match txOf r, txsOf l with
    | some s, some ss => some (s :: ss)
    | _, _ => none
theorem txsOf_map : ∀ l : List ByteArray, txsOf (l.map fun s => [L.str s]) = some l
  | [] => rfl
  | s :: l => by simp only [List.map_cons, txsOf, txOf, txsOf_map l]
theorem txsOf_eq : ∀ {rows : List (List L)} {xs : List ByteArray}, txsOf rows = some xs → rows = xs.map fun s => [L.str s]
  | [], xs, h => by simp [txsOf] at h; subst h; rfl
  | r :: l, xs, h => by
    simp only [txsOf] at h
    split at h
    · rename_i s ss h1 h2
      obtain rfl := Option.some.inj h
      obtain rfl := txOf_some h1
      rw [txsOf_eq h2]
      rfl
    · cases h
theorem free_txs : ∀ xs : List ByteArray, freeRR (xs.map fun s => [L.str s]) = true
  | [] => rfl
  | x :: xs => by simp only [List.map_cons, freeRR, free_txs xs, freeR, L.free, Bool.and_self]
def runSortS : List CV → Option (List CV × List CV)
  | [.leaf (.sl true 1 rows)] => match txsOf rows with
    | some xs => if xs.length ≤ 1000000000 then some ([], [.leaf (Kstrs true (sortS xs))]) else none
    | none => none
  | _ => none
theorem runSortS_at (xs : List ByteArray) (h : xs.length ≤ 1000000000) : runSortS [.leaf (Kstrs true xs)] = some ([], [.leaf (Kstrs true (sortS xs))]) := by
  simp only [runSortS, Kstrs, txsOf_map, if_pos h]
theorem runSortS_ok {P : Program} {W : World} {f : FuncId}
    (hc : ∀ (b cap : Nat) (ss : List (List UInt8)) (w : World), Go.Sort.Holds encStr w b 0 ss.toArray → b < w.heap.size → ss.length < 4611686018427387904 → Calls P f #[.slice (some ⟨b, 0, none⟩) ss.length cap] w fun e w' => e = .returned (.tuple #[]) ∧ ∃ n os, w' = Go.Sort.grow (Go.Sort.putRow encStr (Go.Sort.ahead w n) b 0 (ss.mergeSort fun x y => decide (x ≤ y)).toArray) os)
    (hn : ∀ (p : Option Addr) (cap : Nat) (w : World), Calls P f #[.slice p 0 cap] w fun e w' => e = .returned (.tuple #[]) ∧ w' = w)
    {cs res outs : List CV} (h : runSortS cs = some (res, outs)) : Answers P W f cs res outs ∧ (res.all CV.free = true ∧ outs.all CV.free = true) := by
  unfold runSortS at h
  split at h
  · split at h
    · rename_i xs hxs
      split at h
      · rename_i hb
        obtain rfl := txsOf_eq hxs
        simp only [Option.some.injEq, Prod.mk.injEq] at h
        obtain ⟨rfl, rfl⟩ := h
        exact ⟨sort_answers hc hn xs hb, by simp [CV.free, L.free, free_txs]⟩
      · cases h
    · cases h
  · cases h
end Go.VS
