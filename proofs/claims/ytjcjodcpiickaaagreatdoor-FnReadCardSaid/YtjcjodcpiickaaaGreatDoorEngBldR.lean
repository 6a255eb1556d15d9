/- Builders: what an appending does to their bytes; what a box that holds one says. -/
import Derived.Test.YtjcjodcpiickaaaGreatDoorEngM7
namespace Go.VS
open Go Go.RowKit
set_option linter.unusedSimpArgs false
set_option linter.unusedVariables false
variable {P : Program} {w w' : World}
/-- Nothing has turned but blocks of these; what has these now has had them, or they are new. -/
structure Turn (w w' : World) (o o' : Nat → Prop) : Prop where
  os : w'.os = w.os
  tape : w'.tape = w.tape
  output : w'.output = w.output
  size : w.heap.size ≤ w'.heap.size
  kept : ∀ k, k < w.heap.size → ¬ o k → w'.heap[k]? = w.heap[k]?
  got : ∀ k, o' k → o k ∨ w.heap.size ≤ k ∧ k < w'.heap.size
theorem Turn.refl (o : Nat → Prop) : Turn w w o o := ⟨rfl, rfl, rfl, Nat.le_refl _, fun _ _ _ => rfl, fun _ h => .inl h⟩
theorem Turn.trans {w2 : World} {o o1 o2 : Nat → Prop} (h : Turn w w' o o1) (k : Turn w' w2 o1 o2) : Turn w w2 o o2 := by
  refine ⟨k.os.trans h.os, k.tape.trans h.tape, k.output.trans h.output, Nat.le_trans h.size k.size, fun j hj hno => ?_, fun j hj => ?_⟩
  · refine (k.kept j (Nat.lt_of_lt_of_le hj h.size) fun ho => ?_).trans (h.kept j hj hno)
    rcases h.got j ho with h2 | h2
    · exact hno h2
    · omega
  · rcases k.got j hj with h2 | h2
    · rcases h.got j h2 with h3 | h3
      · exact .inl h3
      · exact .inr ⟨h3.1, Nat.lt_of_lt_of_le h3.2 k.size⟩
    · exact .inr ⟨Nat.le_trans h.size h2.1, h2.2⟩
theorem Turn.mono {o o1 o2 : Nat → Prop} (h : Turn w w' o o1) (h1 : ∀ k, o k → o2 k) : Turn w w' o2 fun k => o1 k ∨ o2 k :=
  ⟨h.os, h.tape, h.output, h.size, fun k hk hno => h.kept k hk fun ho => hno (h1 k ho), fun k hk => hk.elim (fun hk => (h.got k hk).imp (h1 k) id) .inl⟩
theorem Turn.to {o o1 o2 : Nat → Prop} (h : Turn w w' o o1) (h1 : ∀ k, o2 k → o1 k) : Turn w w' o o2 :=
  ⟨h.os, h.tape, h.output, h.size, h.kept, fun k hk => h.got k (h1 k hk)⟩
def ownB (v : Value) (k : Nat) : Prop := v.ownBlock = some k
theorem app_bts {t u e ty : TypeId} {i : TypeInfo} {z x v : Value} {n m : Nat} {xs news : List Value} (ht : P.underlying t = some (.slice e)) (hi : P.info? e = some i) (hz : i.zero = some z) (hzs : z.cells.size = 1) (hs1 : i.size = 1)
    (hs : Source P u x m 1 news w) (hv : w.ownsRow 0 e 1 v n xs) (hmax : n + m ≤ maxLen) (hb : (n + m) * i.bytes ≤ 140737488355328) (hlt : ∀ k, ownB v k → k < w.heap.size) :
    ∃ v' w', (Builtin.append_ #[t, u] ty #[v, x]).run P w = .ok v' w' ∧ w'.ownsRow 0 e 1 v' (n + m) (xs ++ news) ∧ Turn w w' (ownB v) (ownB v') := by
  have hs' : Source P u x m i.size news w := by rw [hs1]; exact hs
  have hnl : news.length = m := by have := hs.cells; omega
  have grow : ∀ (ad : Option Addr) (cap : Nat), v = .slice ad n cap → cap < n + m → CellsAt w v n 1 xs → ∃ v' w', (Builtin.append_ #[t, u] ty #[v, x]).run P w = .ok v' w' ∧ w'.ownsRow 0 e 1 v' (n + m) (xs ++ news) ∧ Turn w w' (ownB v) (ownB v') := by
    intro ad cap hvv hcap hx
    have hfo := run_first (P := P) hx.drew
    rw [hvv] at hfo
    have hrun := append_grow (P := P) (ty := ty) (v := v) ht hi hz hs' (by rw [hs1]; exact hfo) hcap hmax hb
    have hge := grownCap_ge w (n + m) cap e
    have hle := grownCap_le_maxLen w (n + m) cap e hmax
    have hxl : xs.length = n := by have := hx.1; omega
    refine ⟨_, _, by rw [hvv]; exact hrun, ⟨by simp [hxl, hnl], .inr ⟨w.heap.size, _, _, rfl, Nat.zero_le _, new_at w.drew _, hge, hle, ?_, ?_⟩⟩, ⟨rfl, rfl, rfl, by simp, fun k hk _ => Below.heap_alloc w.drew _ k hk, fun k hk => ?_⟩⟩
    · simp only [Array.size_append, List.size_toArray, size_zeroCells, hzs, hxl, hnl]
      omega
    · simp only [Array.toList_append, List.append_assoc]
      rw [← List.append_assoc, List.take_append_of_le_length (by simp [hxl, hnl])]
      rw [Nat.mul_one]
      exact List.take_of_length_le (by simp [hxl, hnl])
    · unfold ownB at hk
      simp only [Value.ownBlock, Option.some.injEq] at hk
      subst hk
      exact .inr ⟨Nat.le_refl _, by simp⟩
  rcases hv.2 with ⟨hv0, hn0⟩ | ⟨g, cap, cur, hvv, _, hg, hc1, hc2, hc3, hc4⟩
  · have hxs : xs = [] := List.length_eq_zero_iff.1 (by have := hv.1; omega)
    subst hn0
    by_cases hm : m = 0
    · subst hm
      have hnews : news = [] := List.length_eq_zero_iff.1 hnl
      subst hnews
      subst hxs
      obtain ⟨D', hD', hDi⟩ := hs.notInt
      have hz' : (match D' with | .int _ => true | _ => false) = false := by cases D' <;> first | rfl | exact absurd rfl (hDi _)
      have hl := hs'.len
      have hf := hs'.first
      refine ⟨v, w, ?_, hv, Turn.refl _⟩
      rw [hv0]
      simp [Builtin.append_, run_underlying ht, run_underlying hD', sizeOf, typeInfo, hi, hz', hl, hf, storeCells]
    · exact grow none 0 hv0 (by omega) ⟨by rw [hxs]; rfl, none, 0, hv0, .inl rfl⟩
  · by_cases hroom : n + m ≤ cap
    · have hrun := append_room (P := P) (ty := ty) ht hi hs' hg hroom (by rw [hs1, hnl]; omega)
      have hxl : xs.length = n := by have := hv.1; omega
      have hcl : cur.toList.length = cap := by simp; omega
      refine ⟨_, _, by rw [hvv]; exact hrun, ⟨by simp [hxl, hnl], .inr ⟨g, cap, _, rfl, Nat.zero_le _, setRow_heap w g cur _ e _ hg, hroom, hc2, ?_, ?_⟩⟩, ⟨rfl, rfl, rfl, by simp, fun k hk hno => setRow_other w g k _ fun he => hno (by unfold ownB; rw [hvv, he]; rfl), fun k hk => .inl (by unfold ownB at hk ⊢; rw [hvv]; exact hk)⟩⟩
      · simp only [List.size_toArray, List.length_append, List.length_take, List.length_drop, hcl, hs1]
        omega
      · simp only [hs1, Nat.mul_one] at hc4 ⊢
        rw [hc4, List.take_append_of_le_length (by simp [hxl, hnl])]
        rw [List.take_of_length_le (by simp [hxl, hnl])]
    · refine grow _ cap hvv (by omega) ⟨hv.1, _, cap, hvv, .inr ⟨g, 0, rfl, fun j u hj => ?_⟩⟩
      rw [Nat.zero_add, cell_of hg, ← Array.getElem?_toList]
      rw [← hc4, List.getElem?_take] at hj
      split at hj
      · exact hj
      · cases hj
/-- What a box with a builder says. -/
structure Bld (w : World) (T e : TypeId) (b : Nat) (p v : Value) (l : List UInt8) : Prop where
  at_ : w.heap[b]? = some (.cells #[p, v] T (0, 0))
  ptr : p = .pointer none ∨ p = .pointer (some ⟨b, 0, none⟩)
  own : w.ownsRow 0 e 1 v l.length (Go.Lib.byteCells l)
  ne : v.ownBlock ≠ some b
theorem bld_open {arg : Tmp → Value} {I S : Nat → Prop} {T e : TypeId} {l : List UInt8} {u : Value} (h : RepC arg w I (.box [.self T, .bts e l]) u S) :
    ∃ b p v, u = .pointer (some ⟨b, 0, none⟩) ∧ S b ∧ (∀ k, ownB v k → S k) ∧ Bld w T e b p v l := by
  obtain ⟨b, cs, e0, rfl, h1, h2, h3, ⟨D, d1, d2, d3⟩, h4⟩ := h
  obtain ⟨q1, q2⟩ := h4 0 T rfl
  obtain ⟨v, v1, v2, v3⟩ := d3 1 _ rfl
  obtain ⟨p, p1⟩ : ∃ p, cs[0]? = some p := ⟨_, Array.getElem?_eq_getElem (by rw [h3]; simp)⟩
  have hcs : cs = #[p, v] := by
    refine Array.ext' (List.ext_getElem? fun j => ?_)
    rw [Array.getElem?_toList]
    match j with
    | 0 => rw [p1]; rfl
    | 1 => rw [show cs[1]? = some v from v1]; rfl
    | j + 2 => rw [Array.getElem?_eq_none (by rw [h3]; simp)]; rfl
  subst hcs
  subst q1
  cases v3 with
  | bts _ _ _ _ o1 o2 =>
    refine ⟨b, p, v, rfl, h1, fun k hk => (d1 1 k (o2 k hk)).1, h2, ?_, o1, fun he => (d1 1 b (o2 b he)).2 rfl⟩
    rw [p1] at q2
    simpa using q2
theorem bld_close {arg : Tmp → Value} {I S : Nat → Prop} {T e : TypeId} {b : Nat} {p v : Value} {l : List UInt8} (h : Bld w T e b p v l) (hb : S b) (hv : ∀ k, ownB v k → S k) : RepC arg w I (.box [.self T, .bts e l]) (.pointer (some ⟨b, 0, none⟩)) S := by
  refine ⟨b, _, T, rfl, hb, h.at_, rfl, ⟨fun j k => j = 1 ∧ ownB v k, fun j k hk => ⟨hv k hk.2, fun he => h.ne (he ▸ hk.2)⟩, fun j j' k hk hk' => hk.1.trans hk'.1.symm, fun j l' hj => ?_⟩, fun j t hj => ?_⟩
  · match j, hj with
    | 0, hj =>
      obtain rfl := (Option.some.inj hj).symm
      exact ⟨p, rfl, by rcases h.ptr with rfl | rfl <;> rfl, .self ..⟩
    | 1, hj =>
      obtain rfl := (Option.some.inj hj).symm
      refine ⟨v, rfl, ?_, .bts _ _ _ _ h.own fun g hg => ⟨rfl, hg⟩⟩
      rcases h.own.2 with ⟨rfl, _⟩ | ⟨g, cap, cur, rfl, _⟩ <;> rfl
    | j + 2, hj => simp at hj
  · match j, hj with
    | 0, hj =>
      simp only [List.getElem?_cons_zero, Option.some.injEq, L.self.injEq] at hj
      refine ⟨hj, ?_⟩
      rcases h.ptr with rfl | rfl
      · exact .inl rfl
      · exact .inr rfl
    | 1, hj => simp at hj
    | j + 2, hj => simp at hj
theorem Bld.lt {T e : TypeId} {b : Nat} {p v : Value} {l : List UInt8} (h : Bld w T e b p v l) : b < w.heap.size := by
  rcases Nat.lt_or_ge b w.heap.size with h' | h'
  · exact h'
  · have := h.at_
    simp [Array.getElem?_eq_none h'] at this
theorem Bld.own_lt {T e : TypeId} {b : Nat} {p v : Value} {l : List UInt8} (h : Bld w T e b p v l) : ∀ k, ownB v k → k < w.heap.size := by
  intro k hk
  rcases h.own.2 with ⟨rfl, _⟩ | ⟨g, cap, cur, rfl, _, hg, _⟩
  · cases hk
  · unfold ownB at hk
    simp only [Value.ownBlock, Option.some.injEq] at hk
    subst hk
    rcases Nat.lt_or_ge g w.heap.size with h' | h'
    · exact h'
    · simp [Array.getElem?_eq_none h'] at hg
/-- Another buffer is laid into the box. -/
theorem Bld.put {T e : TypeId} {b : Nat} {v v' : Value} {l l' : List UInt8} {w2 : World} (h : Bld w T e b (.pointer (some ⟨b, 0, none⟩)) v l) (ht : Turn w w2 (ownB v) (ownB v')) (ho : w2.ownsRow 0 e 1 v' l'.length (Go.Lib.byteCells l')) :
    Bld (w2.setCell ⟨b, 1, none⟩ v') T e b (.pointer (some ⟨b, 0, none⟩)) v' l' ∧ Turn w (w2.setCell ⟨b, 1, none⟩ v') (fun k => k = b ∨ ownB v k) (fun k => k = b ∨ ownB v' k) := by
  have hlt := h.lt
  have hb2 : w2.heap[b]? = some (.cells #[.pointer (some ⟨b, 0, none⟩), v] T (0, 0)) := (ht.kept b hlt h.ne).trans h.at_
  have hne : v'.ownBlock ≠ some b := fun he => by
    rcases ht.got b he with h1 | h1
    · exact h.ne h1
    · omega
  refine ⟨⟨?_, .inr rfl, owns_world ho fun g hg => Below.heap_setCell _ _ _ _ fun he => hne (by rw [hg]; exact congrArg some he), hne⟩, ht.os, ht.tape, ht.output, ?_, fun k hk hno => ?_, fun k hk => ?_⟩
  · simp [World.setCell, Array.getElem?_modify, hb2]
  · have := ht.size
    simpa [World.setCell] using this
  · refine (Below.heap_setCell _ _ _ _ fun he => hno (.inl he)).trans (ht.kept k hk fun ho => hno (.inr ho))
  · rcases hk with hk | hk
    · exact .inl (.inl hk)
    · rcases ht.got k hk with h1 | h1
      · exact .inl (.inr h1)
      · exact .inr ⟨h1.1, by simpa [World.setCell] using h1.2⟩
theorem Turn.alloc {w : World} (o : Nat → Prop) (x : Obj) : Turn w (w.alloc x) o o := ⟨rfl, rfl, rfl, by simp, fun k hk _ => Below.heap_alloc w x k hk, fun _ h => .inl h⟩
theorem Bld.world {T e : TypeId} {b : Nat} {p v : Value} {l : List UInt8} {w w' : World} (h : Bld w T e b p v l) (hb : ∀ k, k = b ∨ ownB v k → w'.heap[k]? = w.heap[k]?) : Bld w' T e b p v l :=
  ⟨(hb b (.inl rfl)).trans h.at_, h.ptr, owns_world h.own fun g hg => hb g (.inr hg), h.ne⟩
/-- What is handed on behind a call that turns a builder. -/
theorem bld_answers {W : World} {f : FuncId} {res : List CV} {T e : TypeId} {l l' : List UInt8} {more : List CV} {rv : Value} {vs : List Value} (hsc : scals more = some vs)
    (hcalls : ∀ (b : Nat) (p v : Value) (w : World), Bld w T e b p v l → Calls P f (.pointer (some ⟨b, 0, none⟩) :: vs).toArray w fun r w' => r = .returned rv ∧ ∃ v', Bld w' T e b (.pointer (some ⟨b, 0, none⟩)) v' l' ∧ Turn w w' (fun k => k = b ∨ ownB v k) (fun k => k = b ∨ ownB v' k))
    (hres : ∀ (arg : Tmp → Value) (w : World) (I S : Nat → Prop), RepR arg w I res rv S) : Answers P W f (.box [.self T, .bts e l] :: more) res (.box [.self T, .bts e l'] :: more.map fun _ => .gone) := by
  intro w I A us Q hbel hold hilt hlen hA hAd hrep hQ
  obtain ⟨b, p, v, hu, hb, hv, hB⟩ := bld_open (hrep 0 _ rfl (fun _ => undef))
  obtain ⟨k1, k2⟩ := scals_get hsc
  have hus : us = (.pointer (some ⟨b, 0, none⟩) :: vs).toArray := by
    refine Array.ext (by rw [hlen]; simp [k1]) fun i h1 h2 => ?_
    cases i with
    | zero =>
      simp only [Array.getD, h1, dif_pos] at hu
      simpa using hu
    | succ i =>
      have hi : i < more.length := by rw [hlen] at h1; simpa using h1
      obtain ⟨v1, e1, e2⟩ := k2 i _ (List.getElem?_eq_getElem hi)
      have := scal_rep e2 (hrep (i + 1) _ (by simp) (fun _ => undef))
      simp only [Array.getD, h1, dif_pos] at this
      rw [show us[i + 1] = v1 from this]
      have := (List.getElem?_eq_some_iff.1 e1).2
      simpa using this.symm
  rw [hus]
  refine (hcalls b p v w hB).mono ?_
  rintro r w' ⟨rfl, v', h1, h2⟩
  have hA0 : ∀ k, (k = b ∨ ownB v k) → A 0 k := fun k hk => hk.elim (fun h => h ▸ hb) (hv k)
  have hkeep : ∀ k, k < w.heap.size → (∀ j, ¬ A j k) → w'.heap[k]? = w.heap[k]? := fun k hk hno => h2.kept k hk fun ho => hno 0 (hA0 k ho)
  refine hQ rv w' I (fun _ => False) (fun j k => j = 0 ∧ (k = b ∨ ownB v' k)) ⟨⟨h2.os.trans hbel.os, h2.tape.trans hbel.tape, h2.output.trans hbel.output, Nat.le_trans hbel.size h2.size, fun k hk => (hkeep k (Nat.lt_of_lt_of_le hk hbel.size) fun j ha => (hA j k ha).2 (hold k hk)).trans (hbel.block k hk)⟩, fun _ h => h, fun k hk => Nat.lt_of_lt_of_le (hilt k hk) h2.size, h2.size, fun k hk hno => hkeep k hk hno, fun k hk => ?_, fun k hk => hk.elim, fun j k hk => ?_, fun j j' k hk hk' => hk.1.trans hk'.1.symm, fun arg => hres arg w' I _, fun j c hj arg => ?_⟩
  · rcases hk with hk | ⟨j, hk⟩ | hk
    · exact hk.elim
    · rcases h2.got k hk.2 with h3 | h3
      · exact .inl ⟨0, hA0 k h3⟩
      · exact .inr (.inr h3.1)
    · exact .inr (.inl hk)
  · rcases h2.got k hk.2 with h3 | h3
    · exact ⟨Nat.lt_of_lt_of_le (hA 0 k (hA0 k h3)).1 h2.size, (hA 0 k (hA0 k h3)).2⟩
    · exact ⟨h3.2, fun hi => by have := hilt k hi; omega⟩
  · cases j with
    | zero =>
      obtain rfl := (Option.some.inj hj).symm
      have hu0 : us.getD 0 undef = .pointer (some ⟨b, 0, none⟩) := hu
      rw [hu0]
      exact bld_close h1 (S := fun k => 0 = 0 ∧ (k = b ∨ ownB v' k)) ⟨rfl, .inl rfl⟩ fun k hk => ⟨rfl, .inr hk⟩
    | succ j =>
      simp only [List.getElem?_cons_succ, List.getElem?_map] at hj
      cases hcj : more[j]? with
      | none => rw [hcj] at hj; cases hj
      | some c0 => rw [hcj] at hj; obtain rfl := Option.some.inj hj; trivial
theorem turn_freeze (w : World) (g n : Nat) {o : Nat → Prop} (ho : o g) : Turn w (w.freeze ⟨g, 0, none⟩ n) o (fun _ => False) := by
  unfold World.freeze
  split
  · exact ⟨rfl, rfl, rfl, Nat.le_refl _, fun _ _ _ => rfl, fun _ h => h.elim⟩
  · refine ⟨rfl, rfl, rfl, by simp, fun k hk hno => ?_, fun _ h => h.elim⟩
    simp only [Array.getElem?_modify]
    rw [if_neg]
    intro e
    exact hno (e ▸ ho)
/-- A builder's text is taken; its bytes are given up. -/
theorem bstr_answers {W : World} {f : FuncId} {T e : TypeId} {l : List UInt8} {s : ByteArray}
    (hcalls : ∀ (b : Nat) (p v : Value) (w : World), Bld w T e b p v l → Calls P f #[.pointer (some ⟨b, 0, none⟩)] w fun r w' => r = .returned (.string s) ∧ Turn w w' (ownB v) (fun _ => False)) : Answers P W f [.box [.self T, .bts e l]] [.leaf (.str s)] [.box [.self T, .bad]] := by
  intro w I A us Q hbel hold hilt hlen hA hAd hrep hQ
  obtain ⟨b, p, v, hu, hb, hv, hB⟩ := bld_open (hrep 0 _ rfl (fun _ => undef))
  have hus : us = #[.pointer (some ⟨b, 0, none⟩)] := by
    refine Array.ext (by simpa using hlen) fun i h1 h2 => ?_
    match i, h1, h2 with
    | 0, h1, _ =>
      simp only [Array.getD, h1, dif_pos] at hu
      simpa using hu
  rw [hus]
  refine (hcalls b p v w hB).mono ?_
  rintro r w' ⟨rfl, h2⟩
  have hkeep : ∀ k, k < w.heap.size → (∀ j, ¬ A j k) → w'.heap[k]? = w.heap[k]? := fun k hk hno => h2.kept k hk fun ho => hno 0 (hv k ho)
  have hat : w'.heap[b]? = some (.cells #[p, v] T (0, 0)) := (h2.kept b hB.lt fun ho => hB.ne ho).trans hB.at_
  refine hQ _ w' I (fun _ => False) (fun j k => j = 0 ∧ k = b) ⟨⟨h2.os.trans hbel.os, h2.tape.trans hbel.tape, h2.output.trans hbel.output, Nat.le_trans hbel.size h2.size, fun k hk => (hkeep k (Nat.lt_of_lt_of_le hk hbel.size) fun j ha => (hA j k ha).2 (hold k hk)).trans (hbel.block k hk)⟩, fun _ h => h, fun k hk => Nat.lt_of_lt_of_le (hilt k hk) h2.size, h2.size, fun k hk hno => hkeep k hk hno, fun k hk => ?_, fun k hk => hk.elim, fun j k hk => ?_, fun j j' k hk hk' => hk.1.trans hk'.1.symm, fun arg => ⟨rfl, .str ..⟩, fun j c hj arg => ?_⟩
  · rcases hk with hk | ⟨j, hk⟩ | hk
    · exact hk.elim
    · exact .inl ⟨0, hk.2 ▸ hb⟩
    · exact .inr (.inl hk)
  · rw [hk.2]
    exact ⟨Nat.lt_of_lt_of_le (hA 0 b hb).1 h2.size, (hA 0 b hb).2⟩
  · cases j with
    | zero =>
      obtain rfl := (Option.some.inj hj).symm
      have hu0 : us.getD 0 undef = .pointer (some ⟨b, 0, none⟩) := hu
      rw [hu0]
      refine ⟨b, _, T, rfl, ⟨rfl, rfl⟩, hat, rfl, ⟨fun _ _ => False, fun _ _ h => h.elim, fun _ _ _ h => h.elim, fun j l' hj => ?_⟩, fun j t hj => ?_⟩
      · match j, hj with
        | 0, hj =>
          obtain rfl := (Option.some.inj hj).symm
          exact ⟨p, rfl, by rcases hB.ptr with rfl | rfl <;> rfl, .self ..⟩
        | 1, hj =>
          obtain rfl := (Option.some.inj hj).symm
          refine ⟨v, rfl, ?_, .bad ..⟩
          rcases hB.own.2 with ⟨rfl, _⟩ | ⟨g, cap, cur, rfl, _⟩ <;> rfl
        | j + 2, hj => simp at hj
      · match j, hj with
        | 0, hj =>
          simp only [List.getElem?_cons_zero, Option.some.injEq, L.self.injEq] at hj
          exact ⟨hj, by rcases hB.ptr with rfl | rfl; exact .inl rfl; exact .inr rfl⟩
        | 1, hj => simp at hj
        | j + 2, hj => simp at hj
    | succ j => simp at hj
end Go.VS
