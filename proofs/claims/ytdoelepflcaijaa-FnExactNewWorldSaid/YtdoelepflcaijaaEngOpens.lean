/- What a row's argument reads as: leaves, immutable. No program in sight. -/
import Derived.Test.YtdoelepflcaijaaEngTable
import Derived.DataElems
import Derived.DataReads
import Derived.ChangeReads
import Derived.ChangeOld
import Derived.ShutString
import Derived.HandedShaped
import Derived.SizedLaws
import Derived.OpenShut
namespace Go.VS
open Go Go.RowKit
set_option linter.unusedSimpArgs false
set_option linter.unusedVariables false

abbrev Old (w : World) : Nat → Prop := fun b => b < w.heap.size
abbrev Nobody : Nat → Prop := fun _ => False

/-- Every value of type t that can be read is a row of leaves 'enc a', sz cells wide, and G holds of a. -/
def OpensE (P : Program) {α : Type} (t : TypeId) (enc : α → List L) (sz : Nat) (G : α → Prop) : Prop :=
  ∀ {H : Type} (e : TypeId × Value → H) (w : World) (base : Nat) (spare : Nat → Bool) (held : Bool) (fuel : Nat) (cs : List Value) (x : DataW H × List MemPlace),
    DataW.trod e P w base spare held fuel t cs = some x → (∀ n ∈ x.1.weights P t, n ≤ reachBytes) → ∃ a, cs.length = sz ∧ RepRow w (Old w) (enc a) (fun j => cs[j]?) Nobody ∧ G a

theorem row_one {w : World} {I : Nat → Prop} {l : L} {v : Value} (h1 : v.oneCell' = true) (h : RepL w I l v Nobody) : RepRow w I [l] (fun j => [v][j]?) Nobody := by
  refine ⟨fun _ _ => False, fun _ _ h => h, fun _ _ _ h => h.elim, fun j l' hl => ?_⟩
  cases j with
  | zero => simp at hl; subst hl; exact ⟨v, rfl, h1, h⟩
  | succ j => simp at hl

theorem opensE_int {P : Program} {t : TypeId} {k : IntKind} (ht : P.underlying t = some (.int k)) : OpensE P t (fun n : Int => [L.int k n]) 1 (fun n => (Lit.int k n).wf = true) := by
  intro H enc w base spare held fuel cs x h _
  cases fuel with
  | zero => simp [DataW.trod] at h
  | succ fuel =>
    rw [DataW.trod_step] at h
    unfold DataW.trodStep at h
    rw [ht] at h
    split at h <;> rename_i h1 <;> try (cases h1)
    · rename_i n _
      split at h
      · rename_i hk
        obtain ⟨rfl, hw⟩ := hk
        exact ⟨_, rfl, row_one rfl (.int ..), hw⟩
      · cases h
    all_goals first | cases h | simp_all
theorem opensE_bool {P : Program} {t : TypeId} (ht : P.underlying t = some .bool) : OpensE P t (fun b : Bool => [L.bool b]) 1 (fun _ => True) := by
  intro H enc w base spare held fuel cs x h _
  cases fuel with
  | zero => simp [DataW.trod] at h
  | succ fuel =>
    rw [DataW.trod_step] at h
    unfold DataW.trodStep at h
    rw [ht] at h
    split at h <;> rename_i h1 <;> try (cases h1)
    · exact ⟨_, rfl, row_one rfl (.bool ..), trivial⟩
    all_goals first | cases h | simp_all
theorem opensE_string {P : Program} {t : TypeId} (ht : P.underlying t = some .string) : OpensE P t (fun s : ByteArray => [L.str s]) 1 (fun s => s.size ≤ 140737488351232) := by
  intro H enc w base spare held fuel cs x h hw
  cases fuel with
  | zero => simp [DataW.trod] at h
  | succ fuel =>
    rw [DataW.trod_step] at h
    unfold DataW.trodStep at h
    rw [ht] at h
    split at h <;> rename_i h1 <;> try (cases h1)
    · split at h
      · obtain rfl := Option.some.inj h
        refine ⟨_, rfl, row_one rfl (.str ..), ?_⟩
        simp [DataW.weights] at hw
        exact hw
      · cases h
    all_goals first | cases h | simp_all

theorem mem_weightsAllE {H : Type} {P : Program} {e : TypeId} : ∀ {l : List (DataW H)} {d : DataW H} {n : Nat}, d ∈ l → n ∈ d.weights P e → n ∈ DataW.weightsAll P e l
  | [], _, _, h, _ => by cases h
  | _ :: l, d, n, h, hn => by
    simp only [DataW.weightsAll, List.mem_append]
    rcases List.mem_cons.1 h with rfl | h
    · exact .inl hn
    · exact .inr (mem_weightsAllE h hn)

theorem opensE_slice {P : Program} {α : Type} {t e : TypeId} {enc : α → List L} {sz : Nat} {G : α → Prop} (ht : P.underlying t = some (.slice e)) (hd : OpensE P e enc sz G) (hlen : ∀ a, (enc a).length = sz) (hpos : 0 < sz) (hsz : P.cellsOf e = sz) {B : Nat} (hB : P.bytesOf e = B) :
    OpensE P t (fun xs : List α => [L.sl false sz (xs.map enc)]) 1 (fun xs => (∀ x ∈ xs, G x) ∧ xs.length * B ≤ 140737488351232) := by
  intro H encH w base spare held fuel cs x h hw
  cases fuel with
  | zero => simp [DataW.trod] at h
  | succ fuel =>
    rw [DataW.trod_step] at h
    unfold DataW.trodStep at h
    rw [ht] at h
    split at h <;> rename_i h1 <;> try (cases h1)
    · exact ⟨[], rfl, row_one rfl (.nil _ _ _ _ _ (fun h => by cases h)), (fun _ hx => by cases hx), (by simp)⟩
    · rename_i ad len cap
      simp only at h
      split at h
      · rename_i hb
        obtain ⟨hb1, hb2, hb3⟩ := hb
        simp only [Option.bind_eq_some_iff, Option.map_eq_some_iff] at h
        obtain ⟨elems, he, rest, _, rfl⟩ := h
        have hlen' : elems.length = len := by rw [mapM_some_length he, List.length_range]
        have hcap : len ≤ cap := hb2
        have one : ∀ j (y : DataW H × List MemPlace), elems[j]? = some y → ∃ cs', w.cells? base (ad.add (j * P.cellsOf e)) (P.cellsOf e) = some cs' ∧ DataW.trod encH P w base spare held fuel e cs' = some y := by
          intro j y hy
          have hj : j < len := by have := (List.getElem?_eq_some_iff.1 hy).1; omega
          have := mapM_some_get he j j (by simp [hj])
          rw [hy] at this
          simpa [Option.bind_eq_some_iff] using this
        have hwt : ∀ y ∈ elems, ∀ n ∈ y.1.weights P e, n ≤ reachBytes := by
          intro y hy n hn
          refine hw n ?_
          simp only [DataW.weights, ht, List.mem_cons, List.mem_append]
          exact .inr (.inl (mem_weightsAllE (List.mem_map_of_mem hy) hn))
        have hex : ∀ j, j < len → ∃ a, (∃ cs', w.cells? base (ad.add (j * sz)) sz = some cs' ∧ RepRow w (Old w) (enc a) (fun j => cs'[j]?) Nobody) ∧ G a := by
          intro j hj
          have hje : j < elems.length := by omega
          obtain ⟨cs', hc, ht'⟩ := one j elems[j] (List.getElem?_eq_getElem hje)
          obtain ⟨a, ha, hr, hg⟩ := hd encH w base spare held fuel cs' _ ht' (hwt _ (List.getElem_mem _))
          rw [hsz] at hc
          exact ⟨a, ⟨cs', hc, hr⟩, hg⟩
        have hlist : ∀ m, m ≤ len → ∃ xs : List α, xs.length = m ∧ (∀ j a, xs[j]? = some a → ∃ cs', w.cells? base (ad.add (j * sz)) sz = some cs' ∧ RepRow w (Old w) (enc a) (fun j => cs'[j]?) Nobody) ∧ ∀ a ∈ xs, G a := by
          intro m
          induction m with
          | zero => intro _; exact ⟨[], rfl, fun j a hj => by simp at hj, fun a ha => by cases ha⟩
          | succ m ih =>
            intro hm
            obtain ⟨xs, hl, hx, hg⟩ := ih (by omega)
            obtain ⟨a, ha, hga⟩ := hex m (by omega)
            refine ⟨xs ++ [a], by simp [hl], fun j b hj => ?_, fun b hb => ?_⟩
            · rcases Nat.lt_or_ge j xs.length with hlt | hge
              · rw [List.getElem?_append_left hlt] at hj
                exact hx j b hj
              · have hjm : j = m := by
                  have := (List.getElem?_eq_some_iff.1 hj).1
                  simp at this
                  omega
                subst hjm
                rw [List.getElem?_append_right hge, hl, Nat.sub_self] at hj
                obtain rfl := Option.some.inj hj
                exact ha
            · rcases List.mem_append.1 hb with hb | hb
              · exact hg b hb
              · rw [List.mem_singleton.1 hb]; exact hga
        obtain ⟨xs, hl, hx, hg⟩ := hlist len (Nat.le_refl _)
        subst hl
        have hbytes : xs.length * B ≤ 140737488351232 := by
          have := hw ((elems.length + rest.length) * P.bytesOf e) (by simp [DataW.weights, ht])
          rw [hB] at this
          exact Nat.le_trans (Nat.mul_le_mul_right B (show xs.length ≤ elems.length + rest.length by omega)) this
        refine ⟨xs, rfl, row_one rfl ?_, hg, hbytes⟩
        cases hxs : xs with
        | nil => exact .nil _ _ _ _ _ (fun h => by cases h)
        | cons x0 xs0 =>
          rw [← hxs]
          -- a cell of the row
          have hcellj : ∀ i j, i < xs.length → j < sz → ∃ v a l, xs[i]? = some a ∧ (enc a)[j]? = some l ∧ w.cell? (ad.add (i * sz + j)) = some v ∧ v.oneCell' = true ∧ RepL w (Old w) l v Nobody := by
            intro i j hi hj
            obtain ⟨cs', hc, hr⟩ := hx i xs[i] (List.getElem?_eq_getElem hi)
            obtain ⟨_, hcl, hcc⟩ := World.cells?_some hc
            obtain ⟨D, d1, d2, d3⟩ := hr
            have hjl : j < (enc xs[i]).length := by rw [hlen]; exact hj
            obtain ⟨v, v1, v2, v3⟩ := d3 j _ (List.getElem?_eq_getElem hjl)
            refine ⟨v, xs[i], _, List.getElem?_eq_getElem hi, List.getElem?_eq_getElem hjl, ?_, v2, v3.mono (fun _ h => h) fun x hx => d1 j x hx⟩
            have := hcc j hj
            rw [Addr.add_add] at this
            rw [this]; exact v1
          obtain ⟨b, o, spot⟩ := ad
          have hb0 := hcellj 0 0 (by rw [hxs]; simp) hpos
          obtain ⟨v0, _, _, _, _, hv0, _⟩ := hb0
          have hspot : spot = none := by
            cases spot with
            | none => rfl
            | some q =>
              simp only [World.cell?, Addr.add] at hv0
              split at hv0 <;> simp at hv0
          subst hspot
          have hadd : ∀ n, (⟨b, o, none⟩ : Addr).add n = ⟨b, o + n, none⟩ := fun n => add_at b o n
          have hblt : b < w.heap.size := by
            rw [hadd] at hv0
            simp only [World.cell?] at hv0
            split at hv0
            · rename_i hh; exact (Array.getElem?_eq_some_iff.1 hh).1
            · cases hv0
          have hl2 : xs.length = (xs.map enc).length := by simp
          rw [hl2]
          refine .imm sz (xs.map enc) _ b o cap (fun i j => (w.cell? ⟨b, o + (i * sz + j), none⟩).getD undef) hblt (fun i r hr => ?_) (fun i j hi hj => ?_) (fun i j r l hr hl => ?_) (by simpa using hcap)
          · rw [List.getElem?_map, Option.map_eq_some_iff] at hr
            obtain ⟨a, _, rfl⟩ := hr
            exact hlen a
          · obtain ⟨v, a, l, k1, k2, k3, k4, k5⟩ := hcellj i j (by simpa using hi) hj
            rw [hadd] at k3
            rw [k3]
            exact ⟨rfl, k4⟩
          · rw [List.getElem?_map, Option.map_eq_some_iff] at hr
            obtain ⟨a, ha, rfl⟩ := hr
            have hi : i < xs.length := (List.getElem?_eq_some_iff.1 ha).1
            have hj : j < sz := by rw [← hlen a]; exact (List.getElem?_eq_some_iff.1 hl).1
            obtain ⟨v, a', l', k1, k2, k3, k4, k5⟩ := hcellj i j hi hj
            rw [ha] at k1
            obtain rfl := Option.some.inj k1
            rw [hl] at k2
            obtain rfl := Option.some.inj k2
            rw [hadd] at k3
            rw [k3]
            exact k5
      · cases h
    all_goals first | cases h | simp_all

theorem row_append {w : World} {I : Nat → Prop} {l1 l2 : List L} {g1 g2 : Nat → Option Value} {get : Nat → Option Value} (h1 : RepRow w I l1 g1 Nobody) (h2 : RepRow w I l2 g2 Nobody) (e1 : ∀ j, j < l1.length → get j = g1 j) (e2 : ∀ j, j < l2.length → get (l1.length + j) = g2 j) : RepRow w I (l1 ++ l2) get Nobody := by
  obtain ⟨D1, a1, a2, a3⟩ := h1
  obtain ⟨D2, b1, b2, b3⟩ := h2
  refine ⟨fun _ _ => False, fun _ _ h => h, fun _ _ _ h => h.elim, fun j l hl => ?_⟩
  rcases Nat.lt_or_ge j l1.length with hlt | hge
  · rw [List.getElem?_append_left hlt] at hl
    obtain ⟨v, v1, v2, v3⟩ := a3 j l hl
    exact ⟨v, by rw [e1 j hlt]; exact v1, v2, v3.mono (fun _ h => h) fun x hx => a1 j x hx⟩
  · rw [List.getElem?_append_right hge] at hl
    have hj2 : j - l1.length < l2.length := (List.getElem?_eq_some_iff.1 hl).1
    obtain ⟨v, v1, v2, v3⟩ := b3 _ l hl
    refine ⟨v, ?_, v2, v3.mono (fun _ h => h) fun x hx => b1 _ x hx⟩
    have := e2 (j - l1.length) hj2
    rw [show l1.length + (j - l1.length) = j by omega] at this
    rw [this]; exact v1

/-- The fields of a struct, from a place on. -/
def OpensFE (P : Program) {α : Type} (fs : List Field) (off : Nat) (enc : α → List L) (sz : Nat) (G : α → Prop) : Prop :=
  ∀ {H : Type} (e : TypeId × Value → H) (w : World) (base : Nat) (spare : Nat → Bool) (held : Bool) (fuel : Nat) (cs : List Value) (ys : List (DataW H × List MemPlace)),
    fs.mapM (fun f => DataW.trod e P w base spare held fuel f.type ((cs.drop f.offset).take (P.cellsOf f.type))) = some ys → (∀ n ∈ DataW.weightsEach P (fs.map (·.type)) (ys.map (·.1)), n ≤ reachBytes) → off + sz ≤ cs.length →
      ∃ a, RepRow w (Old w) (enc a) (fun j => cs[off + j]?) Nobody ∧ G a
theorem row_shift {w : World} {I : Nat → Prop} {l : List L} {cs : List Value} {off sz : Nat} (hl : l.length = sz) (h : RepRow w I l (fun j => ((cs.drop off).take sz)[j]?) Nobody) : RepRow w I l (fun j => cs[off + j]?) Nobody := by
  refine h.world (fun j hj => ?_) (fun _ _ => rfl)
  simp only [List.getElem?_take, List.getElem?_drop]
  rw [if_pos (by omega)]
theorem opensFE_last {P : Program} {α : Type} {f : Field} {off sz : Nat} {enc : α → List L} {G : α → Prop} (ho : f.offset = off) (hsz : P.cellsOf f.type = sz) (hlen : ∀ a, (enc a).length = sz) (hd : OpensE P f.type enc sz G) : OpensFE P [f] off enc sz G := by
  intro H e w base spare held fuel cs ys h hw hl
  simp only [List.mapM_cons, List.mapM_nil, Option.bind_eq_bind, Option.bind_eq_some_iff, Option.pure_def, Option.some.injEq] at h
  obtain ⟨y, hy, _, rfl, rfl⟩ := h
  rw [ho, hsz] at hy
  obtain ⟨a, h1, h2, h3⟩ := hd e w base spare held fuel _ y hy (fun n hn => hw n (by
    simp only [List.map_cons, List.map_nil, DataW.weightsEach, List.mem_append]
    exact .inl hn))
  exact ⟨a, row_shift (hlen a) h2, h3⟩
theorem opensFE_cons {P : Program} {α β : Type} {f : Field} {fs : List Field} {off sz sz2 : Nat} {enc : α → List L} {enc2 : β → List L} {G : α → Prop} {K : β → Prop} (ho : f.offset = off) (hsz : P.cellsOf f.type = sz) (hlen : ∀ a, (enc a).length = sz) (hd : OpensE P f.type enc sz G) (he : OpensFE P fs (off + sz) enc2 sz2 K) :
    OpensFE P (f :: fs) off (fun x : α × β => enc x.1 ++ enc2 x.2) (sz + sz2) (fun x => G x.1 ∧ K x.2) := by
  intro H e w base spare held fuel cs ys h hw hl
  simp only [List.mapM_cons, Option.bind_eq_bind, Option.bind_eq_some_iff, Option.pure_def, Option.some.injEq] at h
  obtain ⟨y, hy, zs, hz, rfl⟩ := h
  rw [ho, hsz] at hy
  obtain ⟨a, _, ha, hga⟩ := hd e w base spare held fuel _ y hy (fun n hn => hw n (by
    simp only [List.map_cons, DataW.weightsEach, List.mem_append]
    exact .inl hn))
  obtain ⟨b, hb, hgb⟩ := he e w base spare held fuel cs zs hz (fun n hn => hw n (by
    simp only [List.map_cons, DataW.weightsEach, List.mem_append]
    exact .inr hn)) (by omega)
  refine ⟨(a, b), row_append (row_shift (hlen a) ha) hb (fun j _ => rfl) (fun j _ => ?_), hga, hgb⟩
  show cs[off + ((enc a).length + j)]? = cs[off + sz + j]?
  rw [hlen a, Nat.add_assoc]
theorem opensE_struct {P : Program} {α β : Type} {t : TypeId} {fs : Array Field} {enc : α → List L} {sz : Nat} {G : α → Prop} {enc2 : β → List L} {G2 : β → Prop} (g : α → β) (henc : ∀ a, enc2 (g a) = enc a) (hG : ∀ a, G a → G2 (g a)) (ht : P.underlying t = some (.struct fs)) (hsz : P.cellsOf t = sz) (hd : OpensFE P fs.toList 0 enc sz G) :
    OpensE P t enc2 sz G2 := by
  intro H e w base spare held fuel cs x h hw
  cases fuel with
  | zero => simp [DataW.trod] at h
  | succ fuel =>
    rw [DataW.trod_step] at h
    unfold DataW.trodStep at h
    rw [ht] at h
    split at h <;> rename_i h1 <;> try (cases h1)
    · split at h
      · rename_i hl
        simp only [Option.map_eq_some_iff] at h
        obtain ⟨xs, hx, rfl⟩ := h
        obtain ⟨a, ha, hga⟩ := hd e w base spare held fuel _ xs hx (fun n hn => hw n (by
          simp only [DataW.weights, ht]
          exact hn)) (by omega)
        refine ⟨g a, by omega, ?_, hG a hga⟩
        rw [henc]
        simpa using ha
      · cases h
    all_goals first | cases h | simp_all

/-- A row's argument, opened. -/
theorem openedE {H : Type} {enc : TypeId × Value → H} {P : Program} {W : World} {base : Nat} {spare : Nat → Bool} {held : Bool} {α : Type} {t : TypeId} {rowE : α → List L} {sz : Nat} {G : α → Prop} (hd : OpensE P t rowE sz G) {ts : List TypeId} {ds : List (DataW H)} {j : Nat} {x : DataW H} {v : Value} {ps : List MemPlace}
    (hsz : (DataW.weightsEach P ts ds).all (· ≤ reachBytes) = true) (ht : ts[j]? = some t) (hx : ds[j]? = some x) (h : DataW.Trod enc P W base spare held t v x ps) : ∃ a, v.cells.toList.length = sz ∧ RepRow W (Old W) (rowE a) (fun j => v.cells.toList[j]?) Nobody ∧ G a := by
  obtain ⟨fuel, hf⟩ := h
  refine hd enc W base spare held fuel _ (x, ps) hf (fun n hn => ?_)
  have := List.all_eq_true.1 hsz n (DataW.weights_mem_each ht hx n hn)
  simpa using this
theorem okWide_aggE {P : Program} {w : World} {r : Reach} {base : Nat} {t : TypeId} {v : Value} {fs : Array Field} (ht : P.underlying t = some (.struct fs)) (h : Value.okWide P w r base t v) : ∃ cs, v = .agg cs := by
  simp only [Value.okWide, ht] at h
  obtain ⟨cs, rfl, _⟩ := h
  exact ⟨cs, rfl⟩
/-- .. as what the evaluator is handed: a struct; a slice. -/
theorem repC_agg {W : World} {ls : List L} {v : Value} {sz : Nat} {cs : Array Value} (hv : v = .agg cs) (hl : v.cells.toList.length = sz) (hs : ls.length = sz) (h : RepRow W (Old W) ls (fun j => v.cells.toList[j]?) Nobody) (arg : Tmp → Value) : RepC arg W (Old W) (.agg ls) v Nobody := by
  subst hv
  refine ⟨cs, rfl, by rw [hs, ← hl]; simp [Value.cells], ?_⟩
  refine h.world (fun j _ => ?_) (fun _ _ => rfl)
  simp [Value.cells]
theorem repC_leaf {W : World} {l : L} {v : Value} (hv : v.oneCell' = true) (h : RepRow W (Old W) [l] (fun j => v.cells.toList[j]?) Nobody) (arg : Tmp → Value) : RepC arg W (Old W) (.leaf l) v Nobody := by
  obtain ⟨D, d1, d2, d3⟩ := h
  obtain ⟨u, u1, u2, u3⟩ := d3 0 l rfl
  have hc : v.cells = #[v] := by cases v <;> first | rfl | cases hv
  rw [hc] at u1
  obtain rfl := Option.some.inj u1
  exact ⟨u2, u3.mono (fun _ h => h) fun x hx => d1 0 x hx⟩
theorem repC_int {W : World} {k : IntKind} {n : Int} (arg : Tmp → Value) : RepC arg W (Old W) (.leaf (.int k n)) (.int k n) Nobody := ⟨rfl, .int ..⟩
theorem repC_str {W : World} {s : ByteArray} (arg : Tmp → Value) : RepC arg W (Old W) (.leaf (.str s)) (.string s) Nobody := ⟨rfl, .str ..⟩
theorem repC_bool {W : World} {b : Bool} (arg : Tmp → Value) : RepC arg W (Old W) (.leaf (.bool b)) (.bool b) Nobody := ⟨rfl, .bool ..⟩

/-- The wrap of a row that lists variables, with the world's shape handed on. -/
theorem handed_and_shaped {H : Type} {enc : TypeId × Value → H} {a : Assume} {C : Checked} {os : Os} {f : FuncId} {fn : Func} {s : ChangeSpec} {conds : List PathCond} {apart fresh handsOn again : Bool} {X : World → Array Value → Prop}
    (hX : ∀ (w w' : World) (args : Array Value), w.heap = w'.heap → X w args → X w' args)
    (own : ownKnob C.prog.godebug = none) (started : os.Started) (noInit : C.prog.inits.idxOf? f = none) (hfn : C.prog.funcs[f]? = some fn)
    (witness : ∃ (w : World) (tape : Tape) (i : Input), w.os = os ∧ (w.forCall tape i).Shaped C.prog ∧ i.vars = [] ∧ Input.okWide C.prog (w.forCall tape i) .any w.heap.size f i ∧
      ((s.pre enc C.prog fn conds apart (w.forCall tape i).memory i.args ∧ X (w.forCall tape i).memory i.args) ∧ sizedMet enc C.prog fn (OpenSpec.ofChange s) apart (w.forCall tape i).memory i.args) ∧ a.holds C.prog (lone (Frame.enter C.prog f i.args .normal) [] (w.forCall tape i)))
    (contract : ∀ (W : World) (base : Nat) (args : Array Value) (ds gs : List (DataW H)) (before : List MemPlace),
      (∀ (j : Nat) t v, fn.params[j]? = some t → args[j]? = some v → Value.okWide C.prog W .any base t v) →
      DataW.Whole enc C.prog fn.params.toList s.vars apart W args.toList ds gs before →
      conds.all (PathCond.test C.prog ⟨fn.params.toList, ds, s.plain.varTypes C.prog, gs⟩) = true →
      (DataW.weightsEach C.prog (fn.params.toList ++ s.plain.varTypes C.prog) (ds ++ gs)).all (· ≤ reachBytes) = true → X W args → W.ShapedOpen C.prog →
      a.holds C.prog (lone (Frame.enter C.prog f args .normal) [] W) →
      Calls C.prog f args W fun e W' => ∃ v, e = .returned v ∧ s.post enc C.prog fn apart fresh handsOn again W args v W') :
    ReturnsInHanded a C os f .any (fun w args => (s.pre enc C.prog fn conds apart w args ∧ X w args) ∧ sizedMet enc C.prog fn (OpenSpec.ofChange s) apart w args) (s.post enc C.prog fn apart fresh handsOn again) := by
  refine returnsInHanded_of_calls own started noInit witness ?_
  intro w tape i _ hsh _ hok hpre hholds
  obtain ⟨_, _, _, fn', hfn', _, _, _, _, hval⟩ := hok
  have e : fn' = fn := Option.some.inj (hfn'.symm.trans hfn)
  subst e
  obtain ⟨⟨⟨ds, gs, before, hw, hc⟩, hx⟩, hz⟩ := hpre
  have hw' := DataW.Whole.of_heap (w' := w.forCall tape i) (by rfl) hw
  refine (contract (w.forCall tape i) w.heap.size i.args ds gs before hval hw' hc (hz.weights hw) (hX _ _ _ (by rfl) hx) hsh hholds).mono fun e W' ⟨v, he, hp⟩ => ?_
  subst he
  exact ChangeSpec.post_blind hp
end Go.VS
