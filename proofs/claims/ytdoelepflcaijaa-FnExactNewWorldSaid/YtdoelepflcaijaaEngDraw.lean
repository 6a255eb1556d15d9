/- Regions whose order is left open: whatever the order, they come out as the evaluator says. -/
import Derived.Test.YtdoelepflcaijaaEngAgree4
import Derived.Test.YtdoelepflcaijaaEngRegion
import Derived.Orders
namespace Go.VS
open Go Go.RowKit
set_option linter.unusedSimpArgs false
set_option linter.unusedVariables false

variable {P : Program} {arg : Tmp → Value} {W w w' : World} {I I' : Nat → Prop} {O O' : Tmp → Nat → Prop} {s s' s2 s2' : RS} {a : Act} {K : Act → World → Prop} {Q : Exit → Act → World → Prop} {G : Sigs} {F : Fns} {pm : Tmp → Bool} {N N' C : Tmp → Prop}

def VOp.loud : VOp → Bool
  | .call _ _ _ | .app _ _ _ _ _ _ | .store _ _ _ | .alloc _ _ | .box _ _ | .boxM _ _ | .build _ _ _ | .mk _ _ _ _ | .make _ _ _ _ _ | .subSl _ _ _ _ _ | .asg _ _ => true
  | _ => false
def fwd : List Bool → List (List Nat) → List Nat → Nat → List Nat
  | c :: cs, js :: aft, acc, r =>
    let lo := js.foldl (fun m j => max m (acc.getD j 0)) 0
    (if c then lo else r) :: fwd cs aft (acc ++ [if c then lo else r + 1]) (if c then r else r + 1)
  | _, _, _, _ => []
def bwd (total : Nat) : Nat → Nat → List Bool → List (List Nat) → List Nat
  | i, r, c :: cs, _ :: aft =>
    let rest := bwd total (i + 1) (if c then r else r + 1) cs aft
    (if c then (rest.zip aft).foldl (fun m q => if q.2.contains i then min m q.1 else m) total else r) :: rest
  | _, _, _, _ => []
def dzip : List GOp → List Nat → List Nat → List DOp
  | g :: gs, lo :: los, hi :: his => ⟨g, !g.o.loud, lo, hi⟩ :: dzip gs los his
  | _, _, _ => []
def aftOf (ops : Array Oper) : List (List Nat) := ops.toList.map fun o => (o.after.toList.filter (Region.binds .any)).map (·.on)

def rankOf : List DOp → Nat → Nat
  | q :: qs, i + 1 => (if q.calm then 0 else 1) + rankOf qs i
  | _, _ => 0
/-- How many loud ones are done at least once j is done; at most while j is not. -/
def doneAt (qs : List DOp) (j : Nat) : Nat := match qs[j]? with
  | some q => if q.calm then q.lo else rankOf qs j + 1
  | none => 0
def openAt (qs : List DOp) (j : Nat) : Nat := match qs[j]? with
  | some q => if q.calm then q.hi else rankOf qs j
  | none => 0
def GOp.sees (g : GOp) : List Tmp := (match g.g with | some (t, _) => [t] | none => []) ++ g.o.uses.filterMap fun | .t t => some t | .c _ => none
def lowOk (qs : List DOp) (js : List Nat) (n : Nat) : Bool := n == 0 || js.any fun j => n ≤ doneAt qs j
def drawOk1 (qs : List DOp) (aft : List (List Nat)) (i : Nat) (q : DOp) (js : List Nat) : Bool :=
  js.all (fun j => j < i) &&
  lowOk qs js (if q.calm then q.lo else rankOf qs i) &&
  (!q.calm || (decide (rankOf qs qs.length ≤ q.hi) || (List.range qs.length).any fun j => (match aft[j]? with | some ks => ks.contains i | none => false) && decide (openAt qs j ≤ q.hi))) &&
  (q.o.sees.all fun t => !(calmT qs).contains t || js.any fun j => (match qs[j]? with | some q' => q'.dstC == some t | none => false)) &&
  (match q.o.o.dst with
    | some d => (List.range qs.length).all fun j => j == i || (match qs[j]? with | some q' => !(q'.dstC == some d) | none => true)
    | none => !q.calm)
def drawOk (qs : List DOp) (aft : List (List Nat)) : Bool :=
  aft.length == qs.length && (List.range qs.length).all fun i => match qs[i]?, aft[i]? with
    | some q, some js => drawOk1 qs aft i q js
    | _, _ => false
def compD (P : Program) (pm : Tmp → Bool) (ops : Array Oper) : Option (List DOp) :=
  match compR P pm ops with
  | some gs =>
    let cs := gs.map fun g => !g.o.loud
    let aft := aftOf ops
    let qs := dzip gs (fwd cs aft [] 0) (bwd (gs.countP fun g => g.o.loud) 0 0 cs aft)
    if P.follows .mixedOrders = true ∧ drawOk qs aft = true ∧ qs.length = gs.length then some qs else none
  | none => none

theorem dzip_map : ∀ (gs : List GOp) (los his : List Nat), (dzip gs los his).length = gs.length → (dzip gs los his).map (·.o) = gs
  | [], los, his, h => by simp [dzip]
  | g :: gs, [], his, h => by simp [dzip] at h
  | g :: gs, lo :: los, [], h => by simp [dzip] at h
  | g :: gs, lo :: los, hi :: his, h => by
    simp only [dzip, List.length_cons, Nat.add_right_cancel_iff] at h
    simp only [dzip, List.map_cons, dzip_map gs los his h]

theorem compD_spec {ops : Array Oper} {qs : List DOp} (h : compD P pm ops = some qs) : P.follows .mixedOrders = true ∧ compR P pm ops = some (qs.map (·.o)) ∧ drawOk qs (aftOf ops) = true := by
  unfold compD at h
  split at h
  · rename_i gs hgs
    obtain ⟨⟨h1, h2, h3⟩, rfl⟩ := ite_some h
    exact ⟨h1, by rw [hgs, dzip_map _ _ _ h3], h2⟩
  · cases h
theorem compD_mixed {ops : Array Oper} {qs : List DOp} (h : compD P pm ops = some qs) : P.follows .mixedOrders = true := (compD_spec h).1

theorem mapM_get {α β : Type} {f : α → Option β} : ∀ {xs : List α} {ys : List β}, xs.mapM f = some ys → xs.length = ys.length ∧ ∀ (i : Nat) x, xs[i]? = some x → ∃ y, ys[i]? = some y ∧ f x = some y
  | [], ys, h => by
    simp at h
    subst h
    exact ⟨rfl, fun i x h => by simp at h⟩
  | x :: xs, ys, h => by
    obtain ⟨y, ys', h1, h2, rfl⟩ := mapM_cons_some h
    obtain ⟨k1, k2⟩ := mapM_get h2
    refine ⟨by simp [k1], fun i x' hi => ?_⟩
    cases i with
    | zero => simp at hi; subst hi; exact ⟨y, rfl, h1⟩
    | succ i => simp at hi; simpa using k2 i x' hi

/-- Fewer slots alike. -/
theorem Agree.weaken (h : Agree N C s s2) (hn : ∀ t, N t → N' t) (hs : ∀ t, N' t → C t) : Agree N' C s s2 :=
  ⟨hs, fun t ht => h.e t fun hn' => ht (hn t hn'), h.cp, h.cl, fun t ht => h.refs t fun hn' => ht (hn t hn'), h.cal⟩
/-- A calm slot laid once more. -/
theorem Agree.unput {d : Tmp} {av : AV} (h : Agree N C s (s2.put d av)) (hd : s2.e.get d = av) (hC : C d) : Agree N C s s2 := by
  have he : ∀ t, (s2.put d av).e.get t = s2.e.get t := fun t => by
    simp only [RS.put, get_put]
    split
    · rename_i e; rw [e, hd]
    · rfl
  have hne : ∀ r, ¬ C r → (d == r) = false := fun r hr => by simpa using fun e : d = r => hr (e ▸ hC)
  refine ⟨h.sub, fun t ht => (h.e t ht).trans (he t), fun r p hr => (h.cp r p hr).trans ?_, fun r p x k hr => (h.cl r p x k hr).trans ?_, fun t ht r hr => h.refs t ht r (by rw [he]; exact hr), fun t ht c hc => h.cal t ht c (by rw [he]; exact hc)⟩
  · simp only [RS.put]; split
    · simp [cleanP, hne r hr]
    · rfl
  · simp only [RS.put]; split
    · simp [clean, hne r hr]
    · rfl

theorem gop_agree (h : Agree N C s s2) {g : GOp} (hx : ∀ t ∈ g.sees, ¬ N t) (hv : gop G F s2 g = some s2') (hc : ∀ d, g.o.dst = some d → C d → ∀ c, s2'.e.get d = .v c → c.shal = true) :
    ∃ s', gop G F s g = some s' ∧ Agree (fun t => N t ∧ g.o.dst ≠ some t) C s' s2' := by
  have huse : ∀ x ∈ g.o.uses, x.out N := fun x hm => by
    cases x with
    | c _ => trivial
    | t t => exact hx t (List.mem_append_right _ (List.mem_filterMap.2 ⟨.t t, hm, rfl⟩))
  have hrun : vop G F s2 g.o = some s2' → ∃ s', vop G F s g.o = some s' ∧ Agree (fun t => N t ∧ g.o.dst ≠ some t) C s' s2' := fun hv => vop_agree h huse hv hc
  have hskip : (match g.o.dst with | some d => some (s2.put d .un) | none => some s2) = some s2' → ∃ s', (match g.o.dst with | some d => some (s.put d .un) | none => some s) = some s' ∧ Agree (fun t => N t ∧ g.o.dst ≠ some t) C s' s2' := by
    intro hv
    cases hd : g.o.dst with
    | none =>
      rw [hd] at hv
      obtain rfl := Option.some.inj hv
      exact ⟨s, rfl, h.weaken (fun t ht => ⟨ht, by simp⟩) fun t ht => h.sub t ht.1⟩
    | some d =>
      rw [hd] at hv
      obtain rfl := Option.some.inj hv
      have := h.put d (av := .un) (root_none rfl) (fun _ c h => by cases h)
      exact ⟨_, rfl, this.weaken (fun t ht => ⟨ht.1, fun e => ht.2 (Option.some.inj e).symm⟩) fun t ht => h.sub t ht.1⟩
  unfold gop at hv ⊢
  cases hg : g.g with
  | none => rw [hg] at hv; exact hrun hv
  | some tw =>
    obtain ⟨t, want⟩ := tw
    rw [hg] at hv
    have ht : ¬ N t := hx t (List.mem_append_left _ (by rw [hg]; simp))
    simp only at hv ⊢
    rw [h.e t ht]
    cases hav : s2.e.get t with
    | un => rw [hav] at hv; exact hskip hv
    | v c =>
      rw [hav] at hv
      cases c with
      | leaf l =>
        cases l with
        | bool b =>
          simp only at hv ⊢
          by_cases hb : b = want
          · rw [if_pos hb] at hv; rw [if_pos hb]; exact hrun hv
          · rw [if_neg hb] at hv; rw [if_neg hb]; exact hskip hv
        | _ => cases hv
      | _ => cases hv
    | _ => rw [hav] at hv; cases hv

/-- Once all is done, both stand for the same. -/
theorem Rel.agree {vs : Array Value} (h : Rel arg W I O s vs w) (ha : Agree (fun _ => False) C s s2) : Rel arg W I O s2 vs w := by
  have he : ∀ t, s.e.get t = s2.e.get t := fun t => ha.e t (fun h => h)
  refine ⟨h.bel, h.old, h.ilt, h.olt, h.notI, h.disj, fun t => ?_⟩
  have hr := h.rep t
  rw [he t] at hr
  have hroot : ∀ {r p B row}, Roots w s.e vs r p B row → Roots w s2.e vs r p B row := fun ⟨c, h1, h2⟩ => ⟨c, (he _).symm.trans h1, h2⟩
  cases hav : s2.e.get t with
  | ptr r p o =>
    rw [hav] at hr
    intro hc
    have hrC := ha.refs t (fun h => h) r (by rw [hav]; rfl)
    obtain ⟨b, o', row', k1, k2⟩ := hr (by rw [ha.cp r p hrC]; exact hc)
    exact ⟨b, o', row', hroot k1, k2⟩
  | ld r p o n g =>
    rw [hav] at hr
    intro hc
    have hrC := ha.refs t (fun h => h) r (by rw [hav]; rfl)
    obtain ⟨B, row', k1, k2⟩ := hr (by rw [ha.cl r p o n hrC]; exact hc)
    exact ⟨B, row', hroot k1, k2⟩
  | _ => rw [hav] at hr; exact hr

theorem calmT_mem : ∀ {qs : List DOp} {t : Tmp}, t ∈ calmT qs ↔ ∃ (i : Nat) (q : DOp), qs[i]? = some q ∧ q.dstC = some t
  | [], t => by simp [calmT]
  | q :: qs, t => by
    have ih := calmT_mem (qs := qs) (t := t)
    simp only [calmT]
    have hcons : (∃ (i : Nat) (q' : DOp), (q :: qs)[i]? = some q' ∧ q'.dstC = some t) ↔ q.dstC = some t ∨ ∃ (i : Nat) (q' : DOp), qs[i]? = some q' ∧ q'.dstC = some t := by
      constructor
      · rintro ⟨i, q', h1, h2⟩
        cases i with
        | zero => simp at h1; subst h1; exact .inl h2
        | succ i => simp at h1; exact .inr ⟨i, q', h1, h2⟩
      · rintro (h | ⟨i, q', h1, h2⟩)
        · exact ⟨0, q, rfl, h⟩
        · exact ⟨i + 1, q', by simpa using h1, h2⟩
    rw [hcons, ← ih]
    cases hd : q.dstC with
    | none => simp
    | some d => simp [eq_comm]

theorem rankOf_mono (qs : List DOp) : ∀ {i j : Nat}, i ≤ j → rankOf qs i ≤ rankOf qs j := by
  induction qs with
  | nil => intro i j h; cases i <;> cases j <;> simp [rankOf]
  | cons q qs ih =>
    intro i j h
    cases i with
    | zero => simp [rankOf]
    | succ i =>
      cases j with
      | zero => omega
      | succ j => simp only [rankOf]; have := ih (i := i) (j := j) (by omega); omega
theorem rankOf_loud : ∀ {qs : List DOp} {i : Nat} {q : DOp}, qs[i]? = some q → q.calm = false → rankOf qs (i + 1) = rankOf qs i + 1
  | [], i, q, h, hc => by simp at h
  | q' :: qs, 0, q, h, hc => by
    simp at h; subst h
    cases qs <;> simp [rankOf, hc]
  | q' :: qs, i + 1, q, h, hc => by
    simp at h
    have := rankOf_loud h hc
    simp only [rankOf] at this ⊢
    omega

theorem runL_stage {S : RS} {all : List DOp} : ∀ {qs : List DOp} {k : Nat} {T s' : RS}, runL G F S all qs k T = some s' → stage G F S T k all
  | [], k, T, s', h => by
    simp only [runL] at h
    split at h
    · assumption
    · cases h
  | q :: qs, k, T, s', h => by
    simp only [runL] at h
    split at h
    · exact runL_stage h
    · split at h
      · assumption
      · cases h
theorem stage_get {S T : RS} {k : Nat} : ∀ {qs : List DOp} {i : Nat} {q : DOp}, stage G F S T k qs → qs[i]? = some q → q.calm = true → q.lo ≤ k → k ≤ q.hi → ∃ d, q.o.o.dst = some d ∧ T.e.get d = S.e.get d ∧ gop G F T q.o = some (T.put d (S.e.get d))
  | [], i, q, hs, h, _, _, _ => by simp at h
  | q' :: qs, 0, q, hs, h, h1, h2, h3 => by
    simp at h; subst h
    have := hs.1 h1 h2 h3
    split at this
    · rename_i d hd; exact ⟨d, hd, this⟩
    · exact this.elim
  | q' :: qs, i + 1, q, hs, h, h1, h2, h3 => by
    simp at h
    exact stage_get hs.2 h h1 h2 h3
/-- On to the next loud one. -/
theorem runL_skip {S : RS} {all : List DOp} {k : Nat} {T s' : RS} : ∀ {qs : List DOp} {i : Nat} {q : DOp}, runL G F S all qs k T = some s' → qs[i]? = some q → q.calm = false → rankOf qs i = 0 → ∃ T', gop G F T q.o = some T' ∧ runL G F S all (qs.drop (i + 1)) (k + 1) T' = some s'
  | [], i, q, h, hi, hc, hr => by simp at hi
  | q' :: qs, 0, q, h, hi, hc, hr => by
    simp at hi; subst hi
    simp only [runL, hc, Bool.false_eq_true, if_false] at h
    split at h
    · split at h
      · rename_i T' hT
        exact ⟨T', hT, h⟩
      · cases h
    · cases h
  | q' :: qs, i + 1, q, h, hi, hc, hr => by
    simp at hi
    simp only [rankOf] at hr
    have hq : q'.calm = true := by
      cases hh : q'.calm with
      | true => rfl
      | false => rw [hh] at hr; simp at hr
    rw [hq] at hr
    simp only [runL, hq, if_true] at h
    have := runL_skip (qs := qs) (i := i) h hi hc (by simpa using hr)
    exact this
theorem runL_end {S : RS} {all : List DOp} {k : Nat} {T s' : RS} : ∀ {qs : List DOp}, runL G F S all qs k T = some s' → (∀ q ∈ qs, q.calm = true) → s' = T
  | [], h, hc => by
    simp only [runL] at h
    split at h
    · exact (Option.some.inj h).symm
    · cases h
  | q :: qs, h, hc => by
    simp only [runL, hc q (by simp), if_true] at h
    exact runL_end h fun q' hq => hc q' (by simp [hq])
theorem rankOf_drop : ∀ (qs : List DOp) (p i : Nat), rankOf qs (p + i) = rankOf qs p + rankOf (qs.drop p) i
  | [], p, i => by cases p <;> cases i <;> simp [rankOf]
  | q :: qs, 0, i => by simp [rankOf]
  | q :: qs, p + 1, i => by
    rw [show p + 1 + i = (p + i) + 1 by omega]
    simp only [rankOf, List.drop_succ_cons, rankOf_drop qs p i]
    omega

/-- What is known of what is done. -/
structure DInv (qs : List DOp) (aft : List (List Nat)) (listed : Array Bool) (p : Nat) : Prop where
  size : listed.size = qs.length
  loud : ∀ (i : Nat) (q : DOp), qs[i]? = some q → q.calm = false → (listed.getD i false = true ↔ i < p)
  closed : ∀ (i : Nat) (js : List Nat), aft[i]? = some js → listed.getD i false = true → ∀ j ∈ js, listed.getD j false = true

theorem drawOk_get {qs : List DOp} {aft : List (List Nat)} (h : drawOk qs aft = true) {i : Nat} (hi : i < qs.length) : ∃ q js, qs[i]? = some q ∧ aft[i]? = some js ∧ drawOk1 qs aft i q js = true := by
  simp only [drawOk, Bool.and_eq_true, List.all_eq_true, List.mem_range] at h
  have := h.2 i hi
  split at this
  · rename_i q js h1 h2; exact ⟨q, js, h1, h2, this⟩
  · cases this
theorem drawOk1_spec {qs : List DOp} {aft : List (List Nat)} {i : Nat} {q : DOp} {js : List Nat} (h : drawOk1 qs aft i q js = true) :
    (∀ j ∈ js, j < i) ∧ ((if q.calm then q.lo else rankOf qs i) = 0 ∨ ∃ j ∈ js, (if q.calm then q.lo else rankOf qs i) ≤ doneAt qs j) ∧
    (q.calm = true → rankOf qs qs.length ≤ q.hi ∨ ∃ j ks, j < qs.length ∧ aft[j]? = some ks ∧ i ∈ ks ∧ openAt qs j ≤ q.hi) ∧
    (∀ t ∈ q.o.sees, t ∈ calmT qs → ∃ j ∈ js, ∃ q', qs[j]? = some q' ∧ q'.dstC = some t) ∧
    (∀ d, q.o.o.dst = some d → ∀ j q', j ≠ i → qs[j]? = some q' → q'.dstC ≠ some d) ∧ (q.calm = true → ∃ d, q.o.o.dst = some d) := by
  simp only [drawOk1, lowOk, Bool.and_eq_true, List.all_eq_true, Bool.or_eq_true, decide_eq_true_eq, beq_iff_eq, List.any_eq_true, Bool.not_eq_true'] at h
  obtain ⟨⟨⟨⟨h1, h2⟩, h3⟩, h4⟩, h5⟩ := h
  refine ⟨h1, h2, fun hc => ?_, fun t ht hm => ?_, fun d hd j q' hne hq' hdc => ?_, fun hc => ?_⟩
  · rcases h3 with h3 | h3 | ⟨j, hj, h3, h3'⟩
    · rw [hc] at h3; cases h3
    · exact .inl h3
    · split at h3
      · rename_i ks hks
        exact .inr ⟨j, ks, List.mem_range.1 hj, hks, by simpa using h3, h3'⟩
      · cases h3
  · rcases h4 t ht with h4 | ⟨j, hj, h4⟩
    · rw [List.contains_iff_mem.2 hm] at h4; cases h4
    · split at h4
      · rename_i q' hq'; exact ⟨j, hj, q', hq', by simpa using h4⟩
      · cases h4
  · rw [hd] at h5
    simp only [List.all_eq_true, List.mem_range, Bool.or_eq_true, beq_iff_eq] at h5
    have hj : j < qs.length := (List.getElem?_eq_some_iff.1 hq').1
    rcases h5 j hj with h5 | h5
    · exact hne h5
    · rw [hq'] at h5
      simp [hdc] at h5
  · cases hd : q.o.o.dst with
    | some d => exact ⟨d, rfl⟩
    | none => rw [hd] at h5; simp [hc] at h5

theorem done_le {qs : List DOp} {aft : List (List Nat)} {listed : Array Bool} {p : Nat} (hok : drawOk qs aft = true) (inv : DInv qs aft listed p) : ∀ (j : Nat), j < qs.length → listed.getD j false = true → doneAt qs j ≤ rankOf qs p := by
  intro j
  induction j using Nat.strongRecOn with
  | ind j ih =>
    intro hj hl
    obtain ⟨q, js, h1, h2, h3⟩ := drawOk_get hok hj
    obtain ⟨k1, k2, _⟩ := drawOk1_spec h3
    cases hc : q.calm with
    | true =>
      rw [hc] at k2
      simp only [if_true] at k2
      simp only [doneAt, h1, hc, if_true]
      rcases k2 with k2 | ⟨j', hj', k2⟩
      · omega
      · exact Nat.le_trans k2 (ih j' (k1 j' hj') (Nat.lt_trans (k1 j' hj') hj) (inv.closed j js h2 hl j' hj'))
    | false =>
      simp only [doneAt, h1, hc, Bool.false_eq_true, if_false]
      have := (inv.loud j q h1 hc).1 hl
      rw [← rankOf_loud h1 hc]
      exact rankOf_mono qs this
theorem le_open {qs : List DOp} {aft : List (List Nat)} {listed : Array Bool} {p : Nat} (hok : drawOk qs aft = true) (inv : DInv qs aft listed p) (hp : p ≤ qs.length) : ∀ (m j : Nat), qs.length - j = m → j < qs.length → listed.getD j false = false → rankOf qs p ≤ openAt qs j := by
  intro m
  induction m using Nat.strongRecOn with
  | ind m ih =>
    intro j hm hj hl
    obtain ⟨q, js, h1, h2, h3⟩ := drawOk_get hok hj
    obtain ⟨_, _, k3, _⟩ := drawOk1_spec h3
    cases hc : q.calm with
    | true =>
      simp only [openAt, h1, hc, if_true]
      rcases k3 hc with k3 | ⟨j', ks, hj', hks, hmem, k3⟩
      · exact Nat.le_trans (rankOf_mono qs hp) k3
      · obtain ⟨q', js', e1, e2, e3⟩ := drawOk_get hok hj'
        rw [hks] at e2
        obtain rfl := Option.some.inj e2
        have hlt := (drawOk1_spec e3).1 j hmem
        refine Nat.le_trans (ih (qs.length - j') (by omega) j' rfl hj' ?_) k3
        cases hh : listed.getD j' false with
        | false => rfl
        | true => rw [inv.closed j' ks hks hh j hmem] at hl; cases hl
    | false =>
      simp only [openAt, h1, hc, Bool.false_eq_true, if_false]
      refine rankOf_mono qs ?_
      rcases Nat.lt_or_ge j p with h | h
      · rw [(inv.loud j q h1 hc).2 h] at hl; cases hl
      · exact h

theorem aft_get {ops : Array Oper} {i : Nat} {o : Oper} (h : ops[i]? = some o) : (aftOf ops)[i]? = some ((o.after.toList.filter (Region.binds .any)).map (·.on)) := by
  simp only [aftOf, List.getElem?_map, Array.getElem?_toList, h, Option.map_some]
theorem getD_setT {listed : Array Bool} {i j : Nat} (hi : i < listed.size) : (listed.setIfInBounds i true).getD j false = if j = i then true else listed.getD j false := by
  rw [Array.getD_eq_getD_getElem?, Array.getD_eq_getD_getElem?, Array.getElem?_setIfInBounds]
  by_cases h : i = j
  · subst h; simp [hi]
  · rw [if_neg h, if_neg (fun e => h e.symm)]
theorem getD_ft {listed : Array Bool} {i : Nat} (h : listed.getD i true = false) : listed.getD i false = false ∧ i < listed.size := by
  rw [Array.getD_eq_getD_getElem?] at h ⊢
  cases hh : listed[i]? with
  | none => rw [hh] at h; cases h
  | some b => rw [hh] at h; exact ⟨h, (Array.getElem?_eq_some_iff.1 hh).1⟩
theorem getD_ff {listed : Array Bool} {i : Nat} (hi : i < listed.size) (h : listed.getD i false = false) : listed.getD i true = false := by
  rw [Array.getD_eq_getD_getElem?] at h ⊢
  rw [Array.getElem?_eq_getElem hi] at h ⊢
  exact h

theorem draw_any {ops : Array Oper} {qs : List DOp} {S s' : RS} (hK : Knows P W G F) (hR : compR P pm ops = some (qs.map (·.o))) (hok : drawOk qs (aftOf ops) = true) (hsz0 : ∀ o ∈ ops.toList, ∀ d, o.dst = some d → d < a.tmps.size) :
    ∀ (fuel : Nat) (listed : Array Bool) (p : Nat) (T : RS) (I : Nat → Prop) (O : Tmp → Nat → Prop) (s : RS) (a' : Act) (w : World),
      listed.toList.count false ≤ fuel → DInv qs (aftOf ops) listed p → p ≤ qs.length → runL G F S qs (qs.drop p) (rankOf qs p) T = some s' →
      Agree (fun t => ∃ (i : Nat) (q : DOp), qs[i]? = some q ∧ q.dstC = some t ∧ listed.getD i false = false) (fun t => t ∈ calmT qs) s T → (∀ t ∈ calmT qs, ∀ c, S.e.get t = .v c → c.shal = true) →
      Rel arg W I O s a'.tmps w → a'.tmps.size = a.tmps.size → (∀ t, pm t = true → a'.tmps.getD t undef = arg t) → (∀ a'' w'', Come arg W pm I O w a' s' a'' w'' → Q .normal a'' w'') →
      wpAny P .any ops Q fuel listed a' w := by
  obtain ⟨hlen, hget⟩ := mapM_get hR
  have hlen' : ops.size = qs.length := by simpa using hlen
  -- the end
  have fin : ∀ (listed : Array Bool) (p : Nat) (T : RS) (I : Nat → Prop) (O : Tmp → Nat → Prop) (s : RS) (a' : Act) (w : World), DInv qs (aftOf ops) listed p → Region.ready .any ops listed = [] → runL G F S qs (qs.drop p) (rankOf qs p) T = some s' →
      Agree (fun t => ∃ (i : Nat) (q : DOp), qs[i]? = some q ∧ q.dstC = some t ∧ listed.getD i false = false) (fun t => t ∈ calmT qs) s T → Rel arg W I O s a'.tmps w → (∀ a'' w'', Come arg W pm I O w a' s' a'' w'' → Q .normal a'' w'') → Q .normal a' w := by
    intro listed p T I O s a' w inv hr hrun hag hrel hk
    have hall : ∀ i, i < qs.length → listed.getD i false = true := by
      intro i
      induction i using Nat.strongRecOn with
      | ind i ih =>
        intro hi
        cases hl : listed.getD i false with
        | true => rfl
        | false =>
          exfalso
          have hio : i < ops.size := by omega
          have hmem : i ∈ Region.ready .any ops listed := by
            rw [mem_ready]
            refine ⟨getD_ff (by rw [inv.size]; exact hi) hl, ops[i], by simp [hio], fun e he hb => ?_⟩
            obtain ⟨q, js, h1, h2, h3⟩ := drawOk_get hok hi
            rw [aft_get (o := ops[i]) (by simp [hio])] at h2
            obtain rfl := Option.some.inj h2
            have hj := (drawOk1_spec h3).1 e.on (List.mem_map.2 ⟨e, List.mem_filter.2 ⟨by simpa using he, hb⟩, rfl⟩)
            exact ih e.on hj (Nat.lt_trans hj hi)
          rw [hr] at hmem
          cases hmem
    have hT : s' = T := runL_end hrun fun q hq => by
      obtain ⟨i, hi⟩ := List.getElem?_of_mem hq
      rw [List.getElem?_drop] at hi
      cases hc : q.calm with
      | true => rfl
      | false =>
        have := (inv.loud (p + i) q hi hc).1 (hall _ (List.getElem?_eq_some_iff.1 hi).1)
        omega
    subst hT
    refine hk a' w (.refl (hrel.agree (C := fun t => t ∈ calmT qs) (hag.weaken (fun t ⟨i, q, h1, h2, h3⟩ => ?_) fun _ h => h.elim)))
    rw [hall i (List.getElem?_eq_some_iff.1 h1).1] at h3
    cases h3
  intro fuel
  induction fuel with
  | zero =>
    intro listed p T I O s a' w hcnt inv hp hrun hag hS hrel hsz hpm hk
    have hr : Region.ready .any ops listed = [] := by
      refine List.eq_nil_iff_forall_not_mem.2 fun i hi => ?_
      rw [mem_ready] at hi
      obtain ⟨h1, h2⟩ := getD_ft hi.1
      have : false ∈ listed.toList := by
        refine List.mem_iff_getElem?.2 ⟨i, ?_⟩
        rw [Array.getElem?_toList, Array.getElem?_eq_getElem h2]
        rw [Array.getD_eq_getD_getElem?, Array.getElem?_eq_getElem h2] at h1
        exact congrArg some h1
      have := List.count_pos_iff.2 this
      omega
    exact ⟨hr, fin listed p T I O s a' w inv hr hrun hag hrel hk⟩
  | succ fuel ih =>
    intro listed p T I O s a' w hcnt inv hp hrun hag hS hrel hsz hpm hk
    refine ⟨fun hr => fin listed p T I O s a' w inv hr hrun hag hrel hk, fun i hi => ?_⟩
    rw [mem_ready] at hi
    obtain ⟨hun, o, ho, hall⟩ := hi
    obtain ⟨hun', hisz⟩ := getD_ft hun
    have hiq : i < qs.length := by rw [← inv.size]; exact hisz
    obtain ⟨q, js, h1, h2, h3⟩ := drawOk_get hok hiq
    have hjs := h2
    rw [aft_get ho] at h2
    obtain rfl := Option.some.inj h2
    obtain ⟨k1, k2, k3, k4, k5, k6⟩ := drawOk1_spec h3
    obtain ⟨g, hg1, hg2⟩ := hget i o (by simpa using ho)
    have hgq : g = q.o := by
      rw [List.getElem?_map, h1] at hg1
      exact (Option.some.inj hg1).symm
    subst hgq
    have hdone : ∀ j ∈ (o.after.toList.filter (Region.binds .any)).map (·.on), listed.getD j false = true := by
      intro j hj
      obtain ⟨e, he, rfl⟩ := List.mem_map.1 hj
      obtain ⟨he1, he2⟩ := List.mem_filter.1 he
      exact hall e (by simpa using he1) he2
    have hlow : (if q.calm then q.lo else rankOf qs i) ≤ rankOf qs p := by
      rcases k2 with k2 | ⟨j, hj, k2⟩
      · omega
      · exact Nat.le_trans k2 (done_le hok inv j (Nat.lt_trans (k1 j hj) hiq) (hdone j hj))
    have hsee : ∀ t ∈ q.o.sees, ¬ ∃ (i : Nat) (q : DOp), qs[i]? = some q ∧ q.dstC = some t ∧ listed.getD i false = false := by
      rintro t ht ⟨i', q', e1, e2, e3⟩
      obtain ⟨j, hj, q'', e4, e5⟩ := k4 t ht (calmT_mem.2 ⟨i', q', e1, e2⟩)
      by_cases hij : i' = j
      · subst hij
        rw [hdone i' hj] at e3
        cases e3
      · obtain ⟨q3, js3, f1, f2, f3⟩ := drawOk_get hok (List.getElem?_eq_some_iff.1 e4).1
        rw [e4] at f1
        obtain rfl := Option.some.inj f1
        have hd : q''.o.o.dst = some t := by
          unfold DOp.dstC at e5
          split at e5
          · exact e5
          · cases e5
        exact (drawOk1_spec f3).2.2.2.2.1 t hd i' q' hij e1 e2
    have hcnt' : (listed.setIfInBounds i true).toList.count false ≤ fuel := by
      have hlt : i < listed.toList.length := by simpa using hisz
      have hbi : listed.toList[i] = false := by
        have h := hun'
        rw [Array.getD_eq_getD_getElem?, Array.getElem?_eq_getElem hisz] at h
        simpa using h
      rw [Array.toList_setIfInBounds, List.count_set hlt]
      have : 0 < listed.toList.count false := List.count_pos_iff.2 (List.mem_iff_getElem.2 ⟨i, hlt, hbi⟩)
      rw [hbi]
      show listed.toList.count false - 1 + 0 ≤ fuel
      omega
    have hclosed' : ∀ (i' : Nat) (js : List Nat), (aftOf ops)[i']? = some js → (listed.setIfInBounds i true).getD i' false = true → ∀ j ∈ js, (listed.setIfInBounds i true).getD j false = true := by
      intro i' js' hjs' hl j hj
      rw [getD_setT hisz] at hl ⊢
      split
      · rfl
      · split at hl
        · rename_i e
          subst e
          rw [hjs] at hjs'
          obtain rfl := Option.some.inj hjs'
          exact hdone j hj
        · exact inv.closed i' js' hjs' hl j hj
    have hdl : ∀ d, o.dst = some d → d < a'.tmps.size := fun d hd => by
      rw [hsz]
      exact hsz0 o (Array.mem_toList_iff.2 (Array.mem_of_getElem? ho)) d hd
    -- one step
    have step : ∀ (p' : Nat) (T1 T' s1 : RS), gop G F s q.o = some s1 → DInv qs (aftOf ops) (listed.setIfInBounds i true) p' → p' ≤ qs.length → runL G F S qs (qs.drop p') (rankOf qs p') T' = some s' →
        Agree (fun t => ∃ (i' : Nat) (q : DOp), qs[i']? = some q ∧ q.dstC = some t ∧ (listed.setIfInBounds i true).getD i' false = false) (fun t => t ∈ calmT qs) s1 T' →
        wpOp P ops Q i (wpAny P .any ops Q fuel (listed.setIfInBounds i true)) a' w := by
      intro p' T1 T' s1 hg inv' hp' hrun' hag'
      have key := gop_sound (Q := Q) (K := wpAny P .any ops Q fuel (listed.setIfInBounds i true)) hK hg2 hrel hdl hpm hg fun a2 w2 hc => by
        obtain ⟨I', O', c1, c2, c3, c4, c5⟩ := hc
        exact ih _ p' T' I' O' s1 a2 w2 hcnt' inv' hp' hrun' hag' hS c3 (c2.trans hsz) (fun t ht => (c5 t ht).trans (hpm t ht)) fun a'' w'' hh => hk a'' w'' (Come.next c1 c2 c3 c4 c5 hh)
      unfold wpOp
      simp only [ho]
      split
      · rename_i hw
        rw [if_pos hw] at key
        exact .inl key
      · rename_i hw
        rw [if_neg hw] at key
        exact key
    cases hc : q.calm with
    | true =>
      rw [hc] at hlow
      simp only [if_true] at hlow
      have hhigh : rankOf qs p ≤ q.hi := by
        have := le_open hok inv hp _ i rfl hiq hun'
        simpa only [openAt, h1, hc, if_true] using this
      obtain ⟨d, hd, e1, e2⟩ := stage_get (runL_stage hrun) h1 hc hlow hhigh
      have hdC : d ∈ calmT qs := calmT_mem.2 ⟨i, q, h1, by simp only [DOp.dstC, hc, if_true, hd]⟩
      obtain ⟨s1, q1, q2⟩ := gop_agree hag hsee e2 (fun d' hd' hC c hcv => by
        rw [hd] at hd'
        obtain rfl := Option.some.inj hd'
        simp only [RS.put, get_put, if_true] at hcv
        exact hS _ hC c hcv)
      refine step p T T s1 q1 ⟨by simpa using inv.size, fun i' q' hq' hl' => ?_, hclosed'⟩ hp hrun ?_
      · rw [getD_setT hisz]
        have hne : i' ≠ i := fun e => by subst e; rw [h1] at hq'; obtain rfl := Option.some.inj hq'; rw [hc] at hl'; cases hl'
        rw [if_neg hne]
        exact inv.loud i' q' hq' hl'
      · refine (q2.unput e1 hdC).weaken (fun t ⟨⟨i', q', f1, f2, f3⟩, f4⟩ => ⟨i', q', f1, f2, ?_⟩) fun t ⟨i', q', f1, f2, _⟩ => calmT_mem.2 ⟨i', q', f1, f2⟩
        rw [getD_setT hisz]
        have hne : i' ≠ i := fun e => by
          subst e
          rw [h1] at f1
          obtain rfl := Option.some.inj f1
          simp only [DOp.dstC, hc, if_true] at f2
          exact f4 f2
        rw [if_neg hne]; exact f3
    | false =>
      rw [hc] at hlow
      simp only [Bool.false_eq_true, if_false] at hlow
      have hpi : p ≤ i := by
        rcases Nat.lt_or_ge i p with h | h
        · rw [(inv.loud i q h1 hc).2 h] at hun'; cases hun'
        · exact h
      have hrk : rankOf qs i = rankOf qs p := Nat.le_antisymm hlow (rankOf_mono qs hpi)
      obtain ⟨T', e1, e2⟩ := runL_skip (i := i - p) hrun (by rw [List.getElem?_drop, show p + (i - p) = i by omega]; exact h1) hc (by have := rankOf_drop qs p (i - p); rw [show p + (i - p) = i by omega] at this; omega)
      obtain ⟨s1, q1, q2⟩ := gop_agree hag hsee e1 (fun d hd hC c hcv => by
        obtain ⟨i', q', f1, f2⟩ := calmT_mem.1 hC
        by_cases hne : i' = i
        · subst hne
          rw [h1] at f1
          obtain rfl := Option.some.inj f1
          simp [DOp.dstC, hc] at f2
        · exact absurd f2 (k5 d hd i' q' hne f1))
      refine step (i + 1) T T' s1 q1 ⟨by simpa using inv.size, fun i' q' hq' hl' => ?_, hclosed'⟩ (by omega) ?_ ?_
      · rw [getD_setT hisz]
        by_cases hne : i' = i
        · subst hne; simp
        · rw [if_neg hne, inv.loud i' q' hq' hl']
          constructor
          · intro h; omega
          · intro h
            rcases Nat.lt_or_ge i' p with h' | h'
            · exact h'
            · exfalso
              have e3 := rankOf_loud hq' hl'
              have e4 := rankOf_mono qs (show i' + 1 ≤ i by omega)
              have e5 := rankOf_mono qs h'
              omega
      · rw [List.drop_drop, show p + (i - p + 1) = i + 1 by omega] at e2
        rw [rankOf_loud h1 hc, hrk]
        exact e2
      · refine q2.weaken (fun t ⟨⟨i', q', f1, f2, f3⟩, f4⟩ => ⟨i', q', f1, f2, ?_⟩) fun t ⟨i', q', f1, f2, _⟩ => calmT_mem.2 ⟨i', q', f1, f2⟩
        rw [getD_setT hisz]
        have hne : i' ≠ i := fun e => by
          subst e
          rw [h1] at f1
          obtain rfl := Option.some.inj f1
          simp [DOp.dstC, hc] at f2
        rw [if_neg hne]; exact f3

theorem get_noroot {cs : List Tmp} : ∀ {e : Env} {t : Tmp} {r : Tmp}, e.noroot cs = true → (e.get t).root = some r → r ∉ cs
  | [], t, r, h, hr => by simp [Env.get, AV.root] at hr
  | (k, v) :: e, t, r, h, hr => by
    have hrest : Env.noroot cs e = true := by
      cases v <;> simp only [Env.noroot, Bool.and_eq_true] at h <;> first | exact h | exact h.2
    simp only [Env.get] at hr
    split at hr
    · cases v <;> simp only [AV.root, Option.some.injEq] at hr <;> try (cases hr; done)
      all_goals
        subst hr
        simp only [Env.noroot, Bool.and_eq_true, Bool.not_eq_true'] at h
        exact fun hm => by rw [List.contains_iff_mem.2 hm] at h; cases h.1
    · exact get_noroot hrest hr

theorem lay_spec {S : RS} : ∀ (ts : List Tmp) (s : RS), (∀ t, (lay S ts s).e.get t = if t ∈ ts then S.e.get t else s.e.get t) ∧ (∀ r p, r ∉ ts → cleanP (lay S ts s).d r p = cleanP s.d r p) ∧ ∀ r p x k, r ∉ ts → clean (lay S ts s).d r p x k = clean s.d r p x k
  | [], s => ⟨fun t => by simp [lay], fun r p _ => rfl, fun r p x k _ => rfl⟩
  | t0 :: ts, s => by
    obtain ⟨h1, h2, h3⟩ := lay_spec (S := S) ts (s.put t0 (S.e.get t0))
    simp only [lay]
    refine ⟨fun t => ?_, fun r p hr => ?_, fun r p x k hr => ?_⟩
    · rw [h1]
      by_cases ht : t ∈ ts
      · simp [ht]
      · rw [if_neg ht]
        simp only [RS.put, get_put]
        by_cases he : t = t0
        · subst he; simp
        · simp [he, ht]
    · simp only [List.mem_cons, not_or] at hr
      rw [h2 r p hr.2]
      have hne : (t0 == r) = false := by simpa using fun e : t0 = r => hr.1 e.symm
      simp only [RS.put]; split
      · simp [cleanP, hne]
      · rfl
    · simp only [List.mem_cons, not_or] at hr
      rw [h3 r p x k hr.2]
      have hne : (t0 == r) = false := by simpa using fun e : t0 = r => hr.1 e.symm
      simp only [RS.put]; split
      · simp [clean, hne]
      · rfl

theorem Rel.drawn {vs : Array Value} {n : Nat} (h : Rel arg W I O s vs w) : Rel arg W I O s vs { w with drawn := n } := by
  have hb : Below w.heap.size w { w with drawn := n } := ⟨rfl, rfl, rfl, Nat.le_refl _, fun _ _ => rfl⟩
  refine ⟨h.bel.trans ⟨rfl, rfl, rfl, Nat.le_refl _, fun _ _ => rfl⟩, h.old, h.ilt, h.olt, h.notI, h.disj, fun t => ?_⟩
  have hr := h.rep t
  have hw : ∀ {S : Nat → Prop} b, S b ∨ I b → ({ w with drawn := n } : World).heap[b]? = w.heap[b]? := fun _ _ => rfl
  have hroot : ∀ {r p B row}, Roots w s.e vs r p B row → Roots { w with drawn := n } s.e vs r p B row := fun ⟨c, h1, h2⟩ => ⟨c, h1, h2.grow hb⟩
  cases hav : s.e.get t with
  | v c => rw [hav] at hr; exact RepC.world hr hw
  | tup cs => rw [hav] at hr; exact RepT.world hr hw
  | ptr r p o =>
    rw [hav] at hr
    intro hc
    obtain ⟨b, o', row', k1, k2⟩ := hr hc
    exact ⟨b, o', row', hroot k1, k2⟩
  | iptr row o =>
    rw [hav] at hr
    obtain ⟨b, o', h1, h2, h3⟩ := hr
    exact ⟨b, o', h1, h2, h3.world (fun j _ => rfl) hw⟩
  | ld r p o m g =>
    rw [hav] at hr
    intro hc
    obtain ⟨B, row', k1, k2, k3, k4⟩ := hr hc
    have hg : ∀ j, B.get { w with drawn := n } j = B.get w j := fun j => by cases B <;> rfl
    refine ⟨B, row', hroot k1, k2, fun hg' => ?_, fun hg' => ?_⟩
    · obtain ⟨cs, c1, c2, c3⟩ := k3 hg'
      exact ⟨cs, c1, c2, fun j hj => by rw [hg]; exact c3 j hj⟩
    · rw [hg]; exact k4 hg'
  | _ => rw [hav] at hr; exact hr

theorem draw_sound {ops : Array Oper} {qs : List DOp} (hK : Knows P W G F) (hq : compD P pm ops = some qs) (h : Rel arg W I O s a.tmps w) (hsz : ∀ o ∈ ops.toList, ∀ d, o.dst = some d → d < a.tmps.size) (hpm : ∀ t, pm t = true → a.tmps.getD t undef = arg t)
    (hs : draw G F qs s = some s') (hk : ∀ a' w', Come arg W pm I O w a s' a' w' → Q .normal a' w') : wpAny P .any ops Q ops.size (Array.replicate ops.size false) a { w with drawn := w.drawn + 1 } := by
  obtain ⟨_, hR, hok⟩ := compD_spec hq
  obtain ⟨hlen, _⟩ := mapM_get hR
  have hlen' : ops.size = qs.length := by simpa using hlen
  unfold draw at hs
  split at hs
  · rename_i S hS
    split at hs
    · rename_i hcond
      obtain ⟨hcalm, hnr⟩ := hcond
      obtain ⟨l1, l2, l3⟩ := lay_spec (S := S) (calmT qs) s
      have hcal : ∀ t ∈ calmT qs, (S.e.get t).calmA (calmT qs) = true := by simpa [List.all_eq_true] using hcalm
      have hshal : ∀ t ∈ calmT qs, ∀ c, S.e.get t = .v c → c.shal = true := fun t ht c hc => by
        have := hcal t ht
        rw [hc] at this
        exact this
      have hfalse : ∀ i, (Array.replicate ops.size false).getD i false = false := fun i => by
        rw [Array.getD_eq_getD_getElem?, Array.getElem?_replicate]
        split <;> rfl
      refine draw_any (a := a) hK hR hok hsz ops.size _ 0 (lay S (calmT qs) s) I O s a _ (by simp) ⟨by simp [hlen'], fun i q _ _ => ?_, fun i js _ hl => ?_⟩ (Nat.zero_le _) (by cases qs <;> exact hs) ?_ hshal h.drawn rfl hpm fun a'' w'' hh => hk a'' w'' ?_
      · rw [hfalse]; simp
      · rw [hfalse] at hl; cases hl
      · refine ⟨fun t ⟨i, q, h1, h2, _⟩ => calmT_mem.2 ⟨i, q, h1, h2⟩, fun t ht => ?_, fun r p hr => (l2 r p hr).symm, fun r p x k hr => (l3 r p x k hr).symm, fun t ht r hr => ?_, fun t ht c hc => ?_⟩
        · rw [l1, if_neg (fun hm => ht ?_)]
          obtain ⟨i, q, h1, h2⟩ := calmT_mem.1 hm
          exact ⟨i, q, h1, h2, hfalse i⟩
        · rw [l1] at hr
          split at hr
          · rename_i hm
            have := hcal t hm
            cases hav : S.e.get t with
            | ptr r' p o =>
              rw [hav] at hr this
              simp only [AV.root, Option.some.injEq] at hr
              subst hr
              simp only [AV.calmA, Bool.not_eq_true'] at this
              exact fun hm' => by rw [List.contains_iff_mem.2 hm'] at this; cases this
            | ld r' p o n g =>
              rw [hav] at hr this
              simp only [AV.root, Option.some.injEq] at hr
              subst hr
              simp only [AV.calmA, Bool.not_eq_true'] at this
              exact fun hm' => by rw [List.contains_iff_mem.2 hm'] at this; cases this
            | _ => rw [hav] at hr; cases hr
          · exact get_noroot hnr hr
        · rw [l1, if_pos ht] at hc
          exact hshal t ht c hc
      · obtain ⟨I', O', c1, c2, c3, c4, c5⟩ := hh
        exact ⟨I', O', c1, c2, c3, ⟨c4.imm, c4.size, c4.kept, c4.got⟩, c5⟩
    · cases hs
  · cases hs

end Go.VS
