/- The order of sources: the program's and the reference's tell the same. -/
import Derived.Test.YtjjfodoafefohaaGreatDoorORSrcB
namespace Go.Proofs.YtjjfodoafefohaaGreatDoor.OR
open Go Go.VS Go.Lib
set_option maxRecDepth 10000
set_option maxHeartbeats 8000000
set_option linter.unusedSimpArgs false
set_option linter.unusedVariables false
def less (a b : ByteArray) : Bool := Op.bytesLess a.toList b.toList
/-- All that a source imports is made, and it is not. -/
def readyB (out : List ByteArray) (s : KSrc) : Bool := !decide (s.name ∈ out) && inB s.imports out
def better (b : Option ByteArray) (n : ByteArray) : Bool := match b with
  | none => true
  | some m => less n m
def pickStep (out : List ByteArray) (b : Option ByteArray) (s : KSrc) : Option ByteArray := if (readyB out s && better b s.name) = true then some s.name else b
/-- The next source. -/
def nextB (l : List KSrc) (out : List ByteArray) : Option ByteArray := l.foldl (pickStep out) none
def orderF (l : List KSrc) : Nat → List ByteArray → Option (List ByteArray)
  | 0, out => some out
  | d + 1, out => match nextB l out with
    | none => none
    | some n => orderF l d (out ++ [n])
theorem orderF_length (l : List KSrc) : ∀ (d : Nat) (out r : List ByteArray), orderF l d out = some r → r.length = out.length + d
  | 0, out, r, h => by obtain rfl := Option.some.inj h; rfl
  | d + 1, out, r, h => by
    unfold orderF at h
    split at h
    · cases h
    · have := orderF_length l d _ r h
      simp at this
      omega
theorem srcs_at {l : List KSrc} {i : Nat} {x : KSrc} (h : l[i]? = some x) : KSrc.w x ≤ KSrc.us l := by
  induction l generalizing i with
  | nil => simp at h
  | cons a l ih =>
    simp only [KSrc.us]
    cases i with
    | zero => simp at h; subst h; omega
    | succ i => have := ih (by simpa using h); omega
theorem pick_some (out : List ByteArray) : ∀ (l : List KSrc) (b : Option ByteArray) (n : ByteArray), l.foldl (pickStep out) b = some n → b = some n ∨ ∃ (i : Nat) (s : KSrc), l[i]? = some s ∧ s.name = n
  | [], b, n, h => .inl h
  | s :: l, b, n, h => by
    rcases pick_some out l _ n h with h1 | ⟨i, t, h1, h2⟩
    · unfold pickStep at h1
      split at h1
      · exact .inr ⟨0, s, rfl, Option.some.inj h1⟩
      · exact .inl h1
    · exact .inr ⟨i + 1, t, by simpa using h1, h2⟩
theorem implSrcNames (l : List KSrc) (hl : (l.length : Int) ≤ 1048576) : A 101 [.leaf (KSrc.sl false l)] = some ([.leaf (Kstrs true (l.map KSrc.name))], [.gone]) := by
  refine run_impl_namesOfSrcs ?_
  simp (maxSteps := 1000000) (disch := omega) [if_pos, if_neg, wrap_i64, wrap_u8, impl_namesOfSrcs.b]
  refine at_fold (fun e i (s : List ByteArray) => (e.put 8 (.v (.leaf (.int .i64 i)))).put 3 (.v (.leaf (Kstrs true s)))) impl_namesOfSrcs.l0.eq_1 (fun s (d : KSrc) => s ++ [d.name]) l [] (by simp) ?_ (fun i x hx hi ih => ?_)
  · rw [app_map]
    simp (maxSteps := 1000000) (disch := omega) [if_pos, if_neg, wrap_i64, wrap_u8, ]
  · rw [app_map] at ih ⊢
    have ht := take_len hx
    generalize l.take i = t at *
    simp (maxSteps := 1000000) (disch := omega) [if_pos, if_neg, wrap_i64, wrap_u8, hx, at_get hx]
    refine run_env ih ?_
    simp
def nameAt (l : List KSrc) (j : Int) : ByteArray := match l[j.toNat]? with
  | some s => s.name
  | none => ⟨#[]⟩
def idxStep (l : List KSrc) (out : List ByteArray) (s : Int × Int) (x : KSrc) : Int × Int := (if (readyB out x && (decide (s.1 < 0) || less x.name (nameAt l s.1))) = true then s.2 else s.1, s.2 + 1)
def IdxRel (l : List KSrc) (j : Int) (b : Option ByteArray) : Prop := (j = -1 ∧ b = none) ∨ (0 ≤ j ∧ j < l.length ∧ b = some (nameAt l j))
theorem idx_step {l : List KSrc} {out : List ByteArray} {s : Int × Int} {b : Option ByteArray} {i : Nat} {x : KSrc} (hx : l[i]? = some x) (h2 : s.2 = i) (hr : IdxRel l s.1 b) : (idxStep l out s x).2 = ((i + 1 : Nat) : Int) ∧ IdxRel l (idxStep l out s x).1 (pickStep out b x) := by
  have hi := (List.getElem?_eq_some_iff.1 hx).1
  refine ⟨by simp only [idxStep, h2]; omega, ?_⟩
  have hbet : better b x.name = (decide (s.1 < 0) || less x.name (nameAt l s.1)) := by
    rcases hr with ⟨h, rfl⟩ | ⟨h, h', rfl⟩
    · simp [better, h]
    · have : ¬ s.1 < 0 := by omega
      simp [better, this]
  simp only [idxStep, pickStep]
  rw [hbet]
  split
  · refine .inr ⟨by omega, by omega, ?_⟩
    rw [h2]
    simp [nameAt, hx]
  · exact hr
theorem idx_fold (l : List KSrc) (out : List ByteArray) : ∀ i : Nat, i ≤ l.length → ((l.take i).foldl (idxStep l out) (-1, 0)).2 = (i : Int) ∧ IdxRel l ((l.take i).foldl (idxStep l out) (-1, 0)).1 ((l.take i).foldl (pickStep out) none)
  | 0, _ => by simp [IdxRel]
  | i + 1, h => by
    have hx : l[i]? = some l[i] := List.getElem?_eq_getElem (by omega)
    obtain ⟨h1, h2⟩ := idx_fold l out i (by omega)
    have e : l.take (i + 1) = l.take i ++ [l[i]] := by rw [List.take_add_one, hx]; rfl
    rw [e, List.foldl_append, List.foldl_append]
    exact idx_step hx h1 h2
/-- The reference's way: no name is empty. -/
def specStep (out : List ByteArray) (b : ByteArray) (x : KSrc) : ByteArray := if (readyB out x && (decide (b = ⟨#[]⟩) || less x.name b)) = true then x.name else b
def SpecRel (b : ByteArray) (o : Option ByteArray) : Prop := (b = ⟨#[]⟩ ∧ o = none) ∨ (¬ b = ⟨#[]⟩ ∧ o = some b)
theorem spec_fold (out : List ByteArray) : ∀ (l : List KSrc) (b : ByteArray) (o : Option ByteArray), (∀ s ∈ l, ¬ s.name = ⟨#[]⟩) → SpecRel b o → SpecRel (l.foldl (specStep out) b) (l.foldl (pickStep out) o)
  | [], b, o, _, h => h
  | x :: l, b, o, hn, h => by
    refine spec_fold out l _ _ (fun s hs => hn s (by simp [hs])) ?_
    have hbet : better o x.name = (decide (b = ⟨#[]⟩) || less x.name b) := by
      rcases h with ⟨h, rfl⟩ | ⟨h, rfl⟩ <;> simp [better, h]
    simp only [specStep, pickStep]
    rw [hbet]
    split
    · exact .inr ⟨hn x (by simp), rfl⟩
    · exact h
/-- Are sources right, unlike, and have they all that they import? -/
noncomputable def srcsB (l : List KSrc) : Bool := l.all (fun s => srcB s && inB s.imports (l.map KSrc.name)) && onceB (l.map KSrc.name)
noncomputable def orderB (l : List KSrc) : Option (List ByteArray) := if srcsB l = true then orderF l l.length [] else none
theorem orderB_length (l : List KSrc) : ((orderB l).getD []).length ≤ l.length := by
  unfold orderB
  split
  · cases h : orderF l l.length [] with
    | none => simp
    | some r =>
      have := orderF_length l _ _ _ h
      simp at this
      simp [this]
  · simp
theorem onceF_at (s : List ByteArray) (x : ByteArray) : onceF s x = if x ∈ s then none else some (s ++ [x]) := rfl
noncomputable def okStep (all : List ByteArray) (s : List ByteArray) (x : KSrc) : Option (List ByteArray) := if (srcB x && (!decide (x.name ∈ s) && inB x.imports all)) = true then some (s ++ [x.name]) else none
theorem okStep_at (all : List ByteArray) (s : List ByteArray) (x : KSrc) : okStep all s x = if (srcB x && (!decide (x.name ∈ s) && inB x.imports all)) = true then some (s ++ [x.name]) else none := rfl
theorem ok_fold (all : List ByteArray) : ∀ (l : List KSrc) (s : List ByteArray), (l.foldlM (okStep all) s).isSome = (l.all (fun x => srcB x && inB x.imports all) && ((l.map KSrc.name).foldlM onceF s).isSome)
  | [], s => rfl
  | x :: l, s => by
    rw [List.foldlM_cons, List.all_cons, List.map_cons, List.foldlM_cons]
    rw [okStep_at, onceF_at]
    by_cases h1 : x.name ∈ s
    · simp [h1]
    · cases h2 : srcB x
      · simp
      · cases h3 : inB x.imports all
        · simp
        · simp [h1]
          exact ok_fold all l _
theorem ok_state (all : List ByteArray) : ∀ (l : List KSrc) (s r : List ByteArray), l.foldlM (okStep all) s = some r → r = s ++ l.map KSrc.name
  | [], s, r, h => by
    simp only [List.foldlM_nil] at h
    obtain rfl := Option.some.inj h
    simp
  | x :: l, s, r, h => by
    rw [List.foldlM_cons] at h
    unfold okStep at h
    split at h
    · have := ok_state all l _ r h
      simpa using this
    · cases h
theorem name_ne {s : KSrc} (h : srcB s = true) : ¬ s.name = ⟨#[]⟩ := by
  unfold srcB at h
  simp only [Bool.and_eq_true] at h
  intro e
  rw [e] at h
  have := h.1
  unfold isName sym at this
  simp at this
theorem l12At (l : List KSrc) (n : ByteArray) (hl : (l.length : Int) ≤ 1048576) : A 155 [.leaf (KSrc.sl false l), .leaf (.str n)] = some ([.leaf (.int .i64 (findB (fun s : KSrc => decide (s.name = n)) l 0))], [.gone, .gone]) := by
  refine run_spec_l12At ?_
  simp (maxSteps := 1000000) (disch := omega) [if_pos, if_neg, wrap_i64, wrap_u8, spec_l12At.b]
  refine at_find 5 spec_l12At.l0.eq_1 (fun s : KSrc => decide (s.name = n)) l (by simp) (fun g _ => ?_) (fun i x hx hi hp ih => ?_) (fun i x hx hi hp g => ?_)
  · simp (maxSteps := 1000000) (disch := omega) [if_pos, if_neg, wrap_i64, wrap_u8, g]
  · have hp : ¬ x.name = n := by simpa using hp
    simp (maxSteps := 1000000) (disch := omega) [if_pos, if_neg, wrap_i64, wrap_u8, hx, at_get hx, hp]
    refine run_env ih ?_
    simp
  · have hp : x.name = n := by simpa using hp
    simp (maxSteps := 1000000) (disch := omega) [if_pos, if_neg, wrap_i64, wrap_u8, hx, at_get hx, hp, g]
theorem at_mem (l : List KSrc) (n : ByteArray) : (0 ≤ findB (fun s : KSrc => decide (s.name = n)) l 0) ↔ n ∈ l.map KSrc.name := by
  rcases findB_cases (fun s : KSrc => decide (s.name = n)) l 0 (Int.le_refl _) with ⟨h1, h2⟩ | ⟨i, x, h1, h2, h3⟩
  · rw [h1]
    simp only [List.mem_map]
    constructor
    · intro h; omega
    · rintro ⟨s, hs, e⟩
      have := List.all_eq_true.1 h2 s hs
      simp [e] at this
  · rw [h3]
    constructor
    · intro _
      exact List.mem_map.2 ⟨x, List.mem_of_getElem? h1, by simpa using h2⟩
    · intro _; omega
theorem nameAt_get {l : List KSrc} {b : Int} {y : KSrc} (h : l[b.toNat]? = some y) : nameAt l b = y.name := by simp [nameAt, h]
theorem nextB_eq (l : List KSrc) (out : List ByteArray) : nextB l out = l.foldl (pickStep out) none := rfl
theorem implOrderF (l : List KSrc) (hl : (l.length : Int) ≤ 1048576) (hu : (KSrc.us l : Int) ≤ 1048576) : A 104 [.leaf (KSrc.sl false l)] = some ([.leaf (Kstrs true ((orderF l l.length []).getD [])), .leaf (.bool (orderF l l.length []).isSome)], [.gone]) := by
  refine run_impl_order ?_
  simp (maxSteps := 1000000) (disch := omega) [if_pos, if_neg, wrap_i64, wrap_u8, impl_order.b]
  generalize hR : orderF l l.length [] = R
  refine at_while (σ := List ByteArray) (fun e s => e.put 4 (.v (.leaf (Kstrs true s)))) impl_order.l1.eq_1 (fun s => l.length - s.length) (fun s => s.length ≤ l.length ∧ orderF l (l.length - s.length) s = R) [] (by simp) ⟨by simp, by simpa using hR⟩ ?_
  rintro out ⟨h1, h2⟩ ih
  by_cases hlt : (out.length : Int) < l.length
  · obtain ⟨d, hd⟩ : ∃ d, l.length - out.length = d + 1 := ⟨l.length - out.length - 1, by omega⟩
    rw [hd] at h2
    simp only [orderF] at h2
    have hF := idx_fold l out l.length (Nat.le_refl _)
    rw [List.take_length, ← nextB_eq] at hF
    simp (maxSteps := 1000000) (disch := omega) [if_pos, if_neg, wrap_i64, wrap_u8, hlt]
    refine at_fold (fun e i (s : Int × Int) => (e.put 15 (.v (.leaf (.int .i64 i)))).put 5 (.v (.leaf (.int .i64 s.1)))) impl_order.l0.eq_1 (idxStep l out) l (-1, 0) (by simp) ?_ (fun i x hx hi ih2 => ?_)
    · generalize l.foldl (idxStep l out) (-1, 0) = st at *
      obtain ⟨b, k⟩ := st
      obtain ⟨_, hr⟩ := hF
      simp only at hr
      rcases hr with ⟨e1, e2⟩ | ⟨e0, e1, e2⟩
      · rw [e2] at h2
        simp only at h2
        subst h2
        subst e1
        simp (maxSteps := 1000000) (disch := omega) [if_pos, if_neg, wrap_i64, wrap_u8, ]
      · rw [e2] at h2
        simp only at h2
        have hbl : b.toNat < l.length := by omega
        have hy : l[b.toNat]? = some l[b.toNat] := List.getElem?_eq_getElem hbl
        generalize l[b.toNat] = y at hy
        rw [nameAt_get hy] at h2
        have hb : ¬ b < 0 := by omega
        have ih := ih (out ++ [y.name]) (by simp; omega) ⟨by simp; omega, by rw [← h2]; congr 1; simp; omega⟩
        simp (maxSteps := 1000000) (disch := omega) [if_pos, if_neg, wrap_i64, wrap_u8, e0, hb, hy, at_get hy]
        refine run_env ih ?_
        simp
    · have hS := idx_fold l out i (by omega)
      generalize (l.take i).foldl (idxStep l out) (-1, 0) = st at *
      obtain ⟨b, k⟩ := st
      obtain ⟨hk, hr⟩ := hS
      simp only at hk hr
      subst hk
      simp only [idxStep] at ih2
      have hxu := srcs_at hx
      simp only [KSrc.w] at hxu
      have k1 := sContains out x.name (by omega)
      have k2 := implAreIn x.imports out (by omega) (by omega)
      unfold readyB at ih2
      by_cases p1 : x.name ∈ out
      · rw [decide_eq_true p1] at k1 ih2
        simp only [Bool.not_true, Bool.false_and] at ih2
        simp (maxSteps := 1000000) (disch := omega) [if_pos, if_neg, wrap_i64, wrap_u8, hx, at_get hx, k1]
        refine run_env ih2 ?_
        simp
      · rw [decide_eq_false p1] at k1 ih2
        simp only [Bool.not_false, Bool.true_and] at ih2
        cases p2 : inB x.imports out
        · rw [p2] at k2 ih2
          simp only [Bool.false_and] at ih2
          simp (maxSteps := 1000000) (disch := omega) [if_pos, if_neg, wrap_i64, wrap_u8, hx, at_get hx, k1, k2]
          refine run_env ih2 ?_
          simp
        · rw [p2] at k2 ih2
          simp only [Bool.true_and] at ih2
          rcases hr with ⟨e1, e2⟩ | ⟨e0, e1, e2⟩
          · subst e1
            simp (maxSteps := 1000000) (disch := omega) [if_pos, if_neg, wrap_i64, wrap_u8, hx, at_get hx, k1, k2]
            refine run_env ih2 ?_
            simp
          · have hbl : b.toNat < l.length := by omega
            have hy : l[b.toNat]? = some l[b.toNat] := List.getElem?_eq_getElem hbl
            generalize l[b.toNat] = y at hy
            have hb : ¬ b < 0 := by omega
            rw [nameAt_get hy, decide_eq_false hb, Bool.false_or] at ih2
            unfold less at ih2
            cases p3 : Op.bytesLess x.name.toList y.name.toList
            · rw [p3] at ih2
              simp (maxSteps := 1000000) (disch := omega) [if_pos, if_neg, wrap_i64, wrap_u8, hx, at_get hx, k1, k2, hb, e0, hy, at_get hy, p3]
              refine run_env ih2 ?_
              simp
            · rw [p3] at ih2
              simp (maxSteps := 1000000) (disch := omega) [if_pos, if_neg, wrap_i64, wrap_u8, hx, at_get hx, k1, k2, hb, e0, hy, at_get hy, p3]
              refine run_env ih2 ?_
              simp
  · have hd : l.length - out.length = 0 := by omega
    rw [hd] at h2
    simp only [orderF] at h2
    subst h2
    simp (maxSteps := 1000000) (disch := omega) [if_pos, if_neg, wrap_i64, wrap_u8, hlt]
theorem implOrder (l : List KSrc) (hl : (l.length : Int) ≤ 1048576) (hu : (KSrc.us l : Int) ≤ 1048576) : A 37 [.leaf (KSrc.sl false l)] = some ([.leaf (Kstrs true ((orderB l).getD [])), .leaf (.bool (orderB l).isSome)], [.gone]) := by
  have h1 := implSrcNames l hl
  have h2 := implOnce (l.map KSrc.name) (by simp; omega)
  have h3 := implOrderF l hl hu
  have hA := fun (x : KSrc) (hw : (KSrc.w x : Int) ≤ 1048576) => implAreIn x.imports (l.map KSrc.name) (by simp only [KSrc.w] at hw; omega) (by simp; omega)
  unfold orderB srcsB
  generalize hin : (fun x : KSrc => srcB x && inB x.imports (l.map KSrc.name)) = p
  have hp0 : ∀ x, p x = (srcB x && inB x.imports (l.map KSrc.name)) := fun x => by rw [← hin]
  generalize hall : l.all p = c
  generalize onceB (l.map KSrc.name) = b2 at *
  generalize orderF l l.length [] = R at *
  simp only [Kstrs, List.map_map] at h1 h2 hA
  refine run_impl_Order ?_
  simp (maxSteps := 1000000) (disch := omega) [if_pos, if_neg, wrap_i64, wrap_u8, impl_Order.b, h1]
  refine at_all 11 impl_Order.l0.eq_1 p l (by simp) (fun g => ?_) (fun i x hx hi hp ih => ?_) (fun i x hx hi hp g => ?_)
  · obtain rfl : c = true := hall.symm.trans g
    cases b2
    · simp (maxSteps := 1000000) (disch := omega) [if_pos, if_neg, wrap_i64, wrap_u8, h2]
    · simp (maxSteps := 1000000) (disch := omega) [if_pos, if_neg, wrap_i64, wrap_u8, h2, h3]
  · have hxu := srcs_at hx
    have k1 := implSrcOk x (by omega)
    have k2 := hA x (by omega)
    rw [hp0, Bool.and_eq_true] at hp
    rw [hp.1] at k1
    rw [hp.2] at k2
    simp (maxSteps := 1000000) (disch := omega) [if_pos, if_neg, wrap_i64, wrap_u8, hx, at_get hx, k1, k2]
    refine run_env ih ?_
    simp
  · have hxu := srcs_at hx
    have k1 := implSrcOk x (by omega)
    have k2 := hA x (by omega)
    rw [hp0] at hp
    obtain rfl : c = false := hall.symm.trans g
    cases q1 : srcB x <;> rw [q1] at k1 hp
    · simp (maxSteps := 1000000) (disch := omega) [if_pos, if_neg, wrap_i64, wrap_u8, hx, at_get hx, k1]
    · rw [Bool.true_and] at hp
      rw [hp] at k2
      simp (maxSteps := 1000000) (disch := omega) [if_pos, if_neg, wrap_i64, wrap_u8, hx, at_get hx, k1, k2]
end Go.Proofs.YtjjfodoafefohaaGreatDoor.OR
