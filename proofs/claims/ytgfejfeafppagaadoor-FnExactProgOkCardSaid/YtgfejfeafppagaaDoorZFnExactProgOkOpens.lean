/- What a row's argument reads as, kind by kind: out of the reading of a value of any plain type, the list or structure that the printed contracts speak of. No program in sight. -/
import Derived.Test.YtgfejfeafppagaaDoorZFnExactProgOkWMore
import Derived.Test.YtgfejfeafppagaaDoorZFnExactProgOkWSized
import Derived.DataElems
import Derived.ChangeReads
import Derived.ChangeOld
import Derived.ShutString
import Derived.HandedShaped
import Derived.SizedLaws
import Derived.OpenShut
namespace Go.Proofs.YtgfejfeafppagaaDoor.Opens
open Go.RowKit Go.Proofs.YtgfejfeafppagaaDoorW.PrintWords Go.Proofs.YtgfejfeafppagaaDoorW.PrintLast Go.Proofs.YtgfejfeafppagaaDoorW.PrintMore

/-- Every value of type t that can be read is of kind d, and G holds of it. -/
def Opens (P : Program) {α : Type} (d : Kd α) (t : TypeId) (G : α → Prop) : Prop :=
  ∀ {H : Type} (enc : TypeId × Value → H) (w : World) (base : Nat) (spare : Nat → Bool) (held : Bool) (fuel : Nat) (cs : List Value) (x : DataW H × List MemPlace),
    DataW.trod enc P w base spare held fuel t cs = some x → (∀ n ∈ x.1.weights P t, n ≤ reachBytes) → ∃ a, d.K w a cs ∧ G a

theorem opens_int {P : Program} {t : TypeId} {k : IntKind} (ht : P.underlying t = some (.int k)) : Opens P (Kd.int k) t (fun n => (Lit.int k n).wf = true) := by
  intro H enc w base spare held fuel cs x h _
  cases fuel with
  | zero => simp [DataW.trod] at h
  | succ fuel =>
    rw [DataW.trod_step] at h
    unfold DataW.trodStep at h
    rw [ht] at h
    split at h <;> rename_i h1 <;> try (cases h1)
    · rename_i n _
      split at h
      · rename_i hk
        obtain ⟨rfl, hw⟩ := hk
        exact ⟨_, rfl, hw⟩
      · cases h
    all_goals first | cases h | simp_all

theorem opens_bool {P : Program} {t : TypeId} (ht : P.underlying t = some .bool) : Opens P Kd.bool t (fun _ => True) := by
  intro H enc w base spare held fuel cs x h _
  cases fuel with
  | zero => simp [DataW.trod] at h
  | succ fuel =>
    rw [DataW.trod_step] at h
    unfold DataW.trodStep at h
    rw [ht] at h
    split at h <;> rename_i h1 <;> try (cases h1)
    · exact ⟨_, rfl, trivial⟩
    all_goals first | cases h | simp_all

theorem opens_string {P : Program} {t : TypeId} (ht : P.underlying t = some .string) : Opens P Kd.string t (fun s => s.size ≤ 140737488351232) := by
  intro H enc w base spare held fuel cs x h hw
  cases fuel with
  | zero => simp [DataW.trod] at h
  | succ fuel =>
    rw [DataW.trod_step] at h
    unfold DataW.trodStep at h
    rw [ht] at h
    split at h <;> rename_i h1 <;> try (cases h1)
    · split at h
      · obtain rfl := Option.some.inj h
        refine ⟨_, rfl, ?_⟩
        simp [DataW.weights] at hw
        exact hw
      · cases h
    all_goals first | cases h | simp_all

theorem mem_weightsAll {H : Type} {P : Program} {e : TypeId} : ∀ {l : List (DataW H)} {d : DataW H} {n : Nat}, d ∈ l → n ∈ d.weights P e → n ∈ DataW.weightsAll P e l
  | [], _, _, h, _ => by cases h
  | _ :: l, d, n, h, hn => by
    simp only [DataW.weightsAll, List.mem_append]
    rcases List.mem_cons.1 h with rfl | h
    · exact .inl hn
    · exact .inr (mem_weightsAll h hn)

theorem opens_slice {P : Program} {α : Type} {d : Kd α} {t e : TypeId} {G : α → Prop} (ht : P.underlying t = some (.slice e)) (hd : Opens P d e G) (hsz : d.sz = P.cellsOf e) {B : Nat} (hB : P.bytesOf e = B) :
    Opens P (Kd.slice e d) t (fun xs => (∀ x ∈ xs, G x) ∧ xs.length * B ≤ 140737488351232) := by
  intro H enc w base spare held fuel cs x h hw
  cases fuel with
  | zero => simp [DataW.trod] at h
  | succ fuel =>
    rw [DataW.trod_step] at h
    unfold DataW.trodStep at h
    rw [ht] at h
    split at h <;> rename_i h1 <;> try (cases h1)
    · exact ⟨[], ⟨none, 0, rfl, Nat.le_refl _, rfl, Nat.zero_le _, fun h0 => absurd h0 (Nat.lt_irrefl 0)⟩, (fun _ hx => by cases hx), (by simp)⟩
    · rename_i ad len cap
      simp only at h
      split at h
      · rename_i hb
        obtain ⟨hb1, hb2, hb3⟩ := hb
        simp only [Option.bind_eq_some_iff, Option.map_eq_some_iff] at h
        obtain ⟨elems, he, rest, _, rfl⟩ := h
        have hlen : elems.length = len := by rw [mapM_some_length he, List.length_range]
        have hcap : len ≤ cap := hb2
        have one : ∀ j (y : DataW H × List MemPlace), elems[j]? = some y → ∃ cs', w.cells? base (ad.add (j * P.cellsOf e)) (P.cellsOf e) = some cs' ∧ DataW.trod enc P w base spare held fuel e cs' = some y := by
          intro j y hy
          have hj : j < len := by have := (List.getElem?_eq_some_iff.1 hy).1; omega
          have := mapM_some_get he j j (by simp [hj])
          rw [hy] at this
          simpa [Option.bind_eq_some_iff] using this
        have hwt : ∀ y ∈ elems, ∀ n ∈ y.1.weights P e, n ≤ reachBytes := by
          intro y hy n hn
          refine hw n ?_
          simp only [DataW.weights, ht, List.mem_cons, List.mem_append]
          exact .inr (.inl (mem_weightsAll (List.mem_map_of_mem hy) hn))
        have hex : ∀ j, j < len → ∃ a, (∃ cs', w.cells? base (ad.add (j * P.cellsOf e)) (P.cellsOf e) = some cs' ∧ d.K w a cs') ∧ G a := by
          intro j hj
          have hje : j < elems.length := by omega
          obtain ⟨cs', hc, ht'⟩ := one j elems[j] (List.getElem?_eq_getElem hje)
          obtain ⟨a, ha, hg⟩ := hd enc w base spare held fuel cs' _ ht' (hwt _ (List.getElem_mem _))
          exact ⟨a, ⟨cs', hc, ha⟩, hg⟩
        have hlist : ∀ m, m ≤ len → ∃ xs : List α, xs.length = m ∧ (∀ j a, xs[j]? = some a → ∃ cs', w.cells? base (ad.add (j * P.cellsOf e)) (P.cellsOf e) = some cs' ∧ d.K w a cs') ∧ ∀ a ∈ xs, G a := by
          intro m
          induction m with
          | zero => intro _; exact ⟨[], rfl, fun j a hj => by simp at hj, fun a ha => by cases ha⟩
          | succ m ih =>
            intro hm
            obtain ⟨xs, hl, hx, hg⟩ := ih (by omega)
            obtain ⟨a, ha, hga⟩ := hex m (by omega)
            refine ⟨xs ++ [a], by simp [hl], fun j b hj => ?_, fun b hb => ?_⟩
            · rcases Nat.lt_or_ge j xs.length with hlt | hge
              · rw [List.getElem?_append_left hlt] at hj
                exact hx j b hj
              · have hjm : j = m := by
                  have := (List.getElem?_eq_some_iff.1 hj).1
                  simp at this
                  omega
                subst hjm
                rw [List.getElem?_append_right hge, hl, Nat.sub_self] at hj
                obtain rfl := Option.some.inj hj
                exact ha
            · rcases List.mem_append.1 hb with hb | hb
              · exact hg b hb
              · rw [List.mem_singleton.1 hb]; exact hga
        obtain ⟨xs, hl, hx, hg⟩ := hlist len (Nat.le_refl _)
        subst hl
        have hbytes : xs.length * B ≤ 140737488351232 := by
          have := hw ((elems.length + rest.length) * P.bytesOf e) (by simp [DataW.weights, ht])
          rw [hB] at this
          exact Nat.le_trans (Nat.mul_le_mul_right B (show xs.length ≤ elems.length + rest.length by omega)) this
        refine ⟨xs, ⟨some ad, cap, rfl, hcap, rfl, by unfold maxLen at hb3; omega, fun _ => ⟨ad, rfl, fun j p hp => ?_⟩⟩, hg, hbytes⟩
        obtain ⟨cs', hc, hk⟩ := hx j p hp
        obtain ⟨_, hcl, hcc⟩ := World.cells?_some hc
        refine ⟨cs', by rw [hcl, hsz], hk, fun i u hu => ?_⟩
        have hi : i < P.cellsOf e := by have := (List.getElem?_eq_some_iff.1 hu).1; omega
        have := hcc i hi
        rw [Addr.add_add, hu] at this
        rw [hsz]
        exact this
      · cases h
    all_goals first | cases h | simp_all

/-- The fields of a struct, from a place on. -/
def OpensFs (P : Program) {α : Type} (d : Kd α) (fs : List Field) (off : Nat) (G : α → Prop) : Prop :=
  ∀ {H : Type} (enc : TypeId × Value → H) (w : World) (base : Nat) (spare : Nat → Bool) (held : Bool) (fuel : Nat) (cs : List Value) (ys : List (DataW H × List MemPlace)),
    fs.mapM (fun f => DataW.trod enc P w base spare held fuel f.type ((cs.drop f.offset).take (P.cellsOf f.type))) = some ys → (∀ n ∈ DataW.weightsEach P (fs.map (·.type)) (ys.map (·.1)), n ≤ reachBytes) → off + d.sz ≤ cs.length →
      ∃ a, d.K w a ((cs.drop off).take d.sz) ∧ G a

theorem opensFs_last {P : Program} {α : Type} {d : Kd α} {f : Field} {off : Nat} {G : α → Prop} (ho : f.offset = off) (hsz : d.sz = P.cellsOf f.type) (hd : Opens P d f.type G) : OpensFs P d [f] off G := by
  intro H enc w base spare held fuel cs ys h hw hl
  simp only [List.mapM_cons, List.mapM_nil, Option.bind_eq_bind, Option.bind_eq_some_iff, Option.pure_def, Option.some.injEq] at h
  obtain ⟨y, hy, _, rfl, rfl⟩ := h
  rw [ho, ← hsz] at hy
  refine hd enc w base spare held fuel _ y hy (fun n hn => hw n ?_)
  simp only [List.map_cons, List.map_nil, DataW.weightsEach, List.mem_append]
  exact .inl hn

theorem opensFs_cons {P : Program} {α β : Type} {d : Kd α} {e : Kd β} {f : Field} {fs : List Field} {off : Nat} {G : α → Prop} {K : β → Prop} (ho : f.offset = off) (hsz : d.sz = P.cellsOf f.type) (hd : Opens P d f.type G) (he : OpensFs P e fs (off + d.sz) K) :
    OpensFs P (Kd.pair d e) (f :: fs) off (fun x => G x.1 ∧ K x.2) := by
  intro H enc w base spare held fuel cs ys h hw hl
  simp only [List.mapM_cons, Option.bind_eq_bind, Option.bind_eq_some_iff, Option.pure_def, Option.some.injEq] at h
  obtain ⟨y, hy, zs, hz, rfl⟩ := h
  rw [ho, ← hsz] at hy
  have hps : (Kd.pair d e).sz = d.sz + e.sz := rfl
  rw [hps] at hl
  obtain ⟨a, ha, hga⟩ := hd enc w base spare held fuel _ y hy (fun n hn => hw n (by
    simp only [List.map_cons, DataW.weightsEach, List.mem_append]
    exact .inl hn))
  obtain ⟨b, hb, hgb⟩ := he enc w base spare held fuel cs zs hz (fun n hn => hw n (by
    simp only [List.map_cons, DataW.weightsEach, List.mem_append]
    exact .inr hn)) (by omega)
  refine ⟨(a, b), ⟨_, _, ?_, ha, hb⟩, hga, hgb⟩
  rw [hps, List.take_add, List.drop_drop]

theorem opens_struct {P : Program} {α β : Type} {d : Kd α} {t : TypeId} {fs : Array Field} {G : α → Prop} (f : β → α) (g : α → β) (hfg : ∀ a, f (g a) = a) (ht : P.underlying t = some (.struct fs)) (hsz : d.sz = P.cellsOf t) (hd : OpensFs P d fs.toList 0 G) :
    Opens P (Kd.iso d f) t (fun x => G (f x)) := by
  intro H enc w base spare held fuel cs x h hw
  cases fuel with
  | zero => simp [DataW.trod] at h
  | succ fuel =>
    rw [DataW.trod_step] at h
    unfold DataW.trodStep at h
    rw [ht] at h
    split at h <;> rename_i h1 <;> try (cases h1)
    · split at h
      · rename_i hl
        simp only [Option.map_eq_some_iff] at h
        obtain ⟨xs, hx, rfl⟩ := h
        obtain ⟨a, ha, hga⟩ := hd enc w base spare held fuel _ xs hx (fun n hn => hw n (by
          simp only [DataW.weights, ht]
          exact hn)) (by omega)
        rw [List.drop_zero, List.take_of_length_le (by omega)] at ha
        exact ⟨g a, by show d.K w (f (g a)) _; rw [hfg]; exact ha, by show G (f (g a)); rw [hfg]; exact hga⟩
      · cases h
    all_goals first | cases h | simp_all

/-- A row's argument, opened. -/
theorem opened {H : Type} {enc : TypeId × Value → H} {P : Program} {W : World} {base : Nat} {spare : Nat → Bool} {held : Bool} {α : Type} {d : Kd α} {t : TypeId} {G : α → Prop} (hd : Opens P d t G) {ts : List TypeId} {ds : List (DataW H)} {j : Nat} {x : DataW H} {v : Value} {ps : List MemPlace}
    (hsz : (DataW.weightsEach P ts ds).all (· ≤ reachBytes) = true) (ht : ts[j]? = some t) (hx : ds[j]? = some x) (h : DataW.Trod enc P W base spare held t v x ps) : ∃ a, d.K W a v.cells.toList ∧ G a := by
  obtain ⟨fuel, hf⟩ := h
  refine hd enc W base spare held fuel _ (x, ps) hf (fun n hn => ?_)
  have := List.all_eq_true.1 hsz n (DataW.weights_mem_each ht hx n hn)
  simpa using this

theorem okWide_agg {P : Program} {w : World} {r : Reach} {base : Nat} {t : TypeId} {v : Value} {fs : Array Field} (ht : P.underlying t = some (.struct fs)) (h : Value.okWide P w r base t v) : ∃ cs, v = .agg cs := by
  simp only [Value.okWide, ht] at h
  obtain ⟨cs, rfl, _⟩ := h
  exact ⟨cs, rfl⟩

/-- The wrap of a row that lists variables, with the world's shape handed on. -/
theorem handed_and_shaped {H : Type} {enc : TypeId × Value → H} {a : Assume} {C : Checked} {os : Os} {f : FuncId} {fn : Func} {s : ChangeSpec} {conds : List PathCond} {apart fresh handsOn again : Bool} {X : World → Array Value → Prop}
    (hX : ∀ (w w' : World) (args : Array Value), w.heap = w'.heap → X w args → X w' args)
    (own : ownKnob C.prog.godebug = none) (started : os.Started) (noInit : C.prog.inits.idxOf? f = none) (hfn : C.prog.funcs[f]? = some fn)
    (witness : ∃ (w : World) (tape : Tape) (i : Input), w.os = os ∧ (w.forCall tape i).Shaped C.prog ∧ i.vars = [] ∧ Input.okWide C.prog (w.forCall tape i) .any w.heap.size f i ∧
      ((s.pre enc C.prog fn conds apart (w.forCall tape i).memory i.args ∧ X (w.forCall tape i).memory i.args) ∧ sizedMet enc C.prog fn (OpenSpec.ofChange s) apart (w.forCall tape i).memory i.args) ∧ a.holds C.prog (lone (Frame.enter C.prog f i.args .normal) [] (w.forCall tape i)))
    (contract : ∀ (W : World) (base : Nat) (args : Array Value) (ds gs : List (DataW H)) (before : List MemPlace),
      (∀ (j : Nat) t v, fn.params[j]? = some t → args[j]? = some v → Value.okWide C.prog W .any base t v) →
      DataW.Whole enc C.prog fn.params.toList s.vars apart W args.toList ds gs before →
      conds.all (PathCond.test C.prog ⟨fn.params.toList, ds, s.plain.varTypes C.prog, gs⟩) = true →
      (DataW.weightsEach C.prog (fn.params.toList ++ s.plain.varTypes C.prog) (ds ++ gs)).all (· ≤ reachBytes) = true → X W args → W.ShapedOpen C.prog →
      a.holds C.prog (lone (Frame.enter C.prog f args .normal) [] W) →
      Calls C.prog f args W fun e W' => ∃ v, e = .returned v ∧ s.post enc C.prog fn apart fresh handsOn again W args v W') :
    ReturnsInHanded a C os f .any (fun w args => (s.pre enc C.prog fn conds apart w args ∧ X w args) ∧ sizedMet enc C.prog fn (OpenSpec.ofChange s) apart w args) (s.post enc C.prog fn apart fresh handsOn again) := by
  refine returnsInHanded_of_calls own started noInit witness ?_
  intro w tape i _ hsh _ hok hpre hholds
  obtain ⟨_, _, _, fn', hfn', _, _, _, _, hval⟩ := hok
  have e : fn' = fn := Option.some.inj (hfn'.symm.trans hfn)
  subst e
  obtain ⟨⟨⟨ds, gs, before, hw, hc⟩, hx⟩, hz⟩ := hpre
  have hw' := DataW.Whole.of_heap (w' := w.forCall tape i) (by rfl) hw
  refine (contract (w.forCall tape i) w.heap.size i.args ds gs before hval hw' hc (hz.weights hw) (hX _ _ _ (by rfl) hx) hsh hholds).mono fun e W' ⟨v, he, hp⟩ => ?_
  subst he
  exact ChangeSpec.post_blind hp
end Go.Proofs.YtgfejfeafppagaaDoor.Opens
