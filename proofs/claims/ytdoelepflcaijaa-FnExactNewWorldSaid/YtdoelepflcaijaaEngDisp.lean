/- Every operation that is turned is turned soundly. -/
import Derived.Test.YtdoelepflcaijaaEngLend
namespace Go.VS
open Go Go.RowKit
set_option linter.unusedSimpArgs false
set_option linter.unusedVariables false

variable {P : Program} {arg : Tmp → Value} {W w w' : World} {I I' : Nat → Prop} {O O' : Tmp → Nat → Prop} {s s' : RS} {a : Act} {K : Act → World → Prop} {Q : Exit → Act → World → Prop} {G : Sigs} {F : Fns} {pm : Tmp → Bool}

/-- What is to be shown of an operation where the slots of 'pm' hold what the parameters came in as. -/
def SoundP (P : Program) (arg : Tmp → Value) (W : World) (G : Sigs) (F : Fns) (pm : Tmp → Bool) (o : Oper) (vo : VOp) : Prop :=
  ∀ (I : Nat → Prop) (O : Tmp → Nat → Prop) (s s' : RS) (a : Act) (w : World) (K : Act → World → Prop) (Q : Exit → Act → World → Prop),
    Rel arg W I O s a.tmps w → (∀ d, vo.dst = some d → d < a.tmps.size) → (∀ t, pm t = true → a.tmps.getD t undef = arg t) → vop G F s vo = some s' → (∀ a' w', Good arg W I O w a s' vo.dst a' w' → K a' w') → o.wp P a w K Q
theorem Sound1.p {o : Oper} {vo : VOp} (h : Sound1 P arg W G F o vo) : SoundP P arg W G F pm o vo := fun I O s s' a w K Q h1 h2 _ h4 h5 => h I O s s' a w K Q h1 h2 h4 h5

theorem compArgs_val : ∀ {ts : List TypeId} {os : List Operand} {xs : List X}, (ts.zip os).mapM (fun q => compX P q.1 q.2) = some xs → ts.length = os.length → xs.length = os.length ∧ ∀ (j : Nat) (x : X), xs[j]? = some x → ∃ o, os[j]? = some o ∧ ∀ a : Act, XV a.tmps x (a.eval o)
  | [], [], xs, h, hl => by simp at h; subst h; exact ⟨rfl, fun j x h => by simp at h⟩
  | [], _ :: _, xs, h, hl => by simp at hl
  | _ :: _, [], xs, h, hl => by simp at hl
  | t :: ts, o :: os, xs, h, hl => by
    rw [List.zip_cons_cons, List.mapM_cons] at h
    cases h1 : compX P t o with
    | none => simp [h1] at h
    | some x =>
      cases h2 : (ts.zip os).mapM (fun q => compX P q.1 q.2) with
      | none => simp [h1, h2] at h
      | some xs' =>
        simp [h1, h2] at h
        subst h
        obtain ⟨k1, k2⟩ := compArgs_val h2 (by simpa using hl)
        refine ⟨by simp [k1], fun j y hj => ?_⟩
        cases j with
        | zero => simp at hj; subst hj; exact ⟨o, rfl, fun a => compX_val h1 a⟩
        | succ j => simpa using k2 j y (by simpa using hj)

theorem sound_call {o : Oper} {d : Tmp} {f : FuncId} {args : Array Operand} {ts : Array TypeId} {fn : Func} {Xs : List X} (hK : Knows P W G F) (ho : o.op = .call { callee := .value (.func f), args := args, argTypes := ts }) (hd : o.dst = some d) (hf : P.funcs[f]? = some fn)
    (hb : fn.body.isSome = true) (hn : fn.name ≠ "runtime.NumGoroutine") (hp : fn.params.size = args.size) (hX : (fn.params.toList.zip args.toList).mapM (fun q => compX P q.1 q.2) = some Xs) : Sound1 P arg W G F o (.call d f Xs) := by
  intro I O s s' a w K Q h hdl hv hk
  replace hdl := hdl d rfl
  obtain ⟨k1, k2⟩ := compArgs_val hX (by simpa using hp)
  obtain ⟨body, hbody⟩ := Option.isSome_iff_exists.1 hb
  have hrun : (execOp a.eval o).run P w = .ok (.enter f (args.map a.eval)) w := by
    simp [execOp, ho, resolve, Act.eval, Deferred.ofValue, invoke, callFunc, hf, hn, hbody]
  unfold Oper.wp
  rw [hrun, Oper.upon_enter]
  simp only [vop] at hv
  have hxs : ∀ (j : Nat) (x : X), Xs[j]? = some x → XV a.tmps x ((args.map a.eval).getD j undef) := by
    intro j x hj
    obtain ⟨o1, h1, h2⟩ := k2 j x hj
    rw [Array.getElem?_toList] at h1
    rw [Array.getD_eq_getD_getElem?, Array.getElem?_map, h1]
    exact h2 a
  have key : ∀ res s2 av, s.call G F f Xs = some (res, s2) → s' = s2.put d av → (∀ v w' I2 R, RepR arg w' I2 res v R → RepA arg w' I2 s2 a.tmps av v R) → (∀ r p o, av ≠ .ptr r p o) →
      Calls P f (args.map a.eval) w fun
        | .returned v, w'' => K (a.put o.dst v) w''
        | .panicked chain, w'' => Q (.panic chain) a w''
        | .outgrown, _ => LetsOut Q := by
    intro res s2 av hc hs' hav hnp
    subst hs'
    refine call_sound h hK hxs (by simpa using k1.symm) hc fun v w' I2 O2 R hr hres he => ?_
    refine hk _ _ ?_
    rw [hd]
    refine ⟨I2, _, rfl, put_size .., hr.step hdl (Below.refl _ _) (fun b hb => ⟨(he.rlt b hb).1, (he.rlt b hb).2.1, fun t _ => (he.rlt b hb).2.2 t⟩) (hav v w' I2 R hres) (fun r p o e => absurd e (hnp r p o)), ⟨he.imm, he.size, he.kept, fun b hb => ?_⟩, fun t ht => ?_⟩
    · rcases hb with ⟨t, hb⟩ | hb
      · by_cases ht : t = d
        · simp only [ht, if_true] at hb; exact he.got b (.inr (.inl hb))
        · simp only [ht, if_false] at hb; exact he.got b (.inl ⟨t, hb⟩)
      · exact he.got b (.inr (.inr hb))
    · simp only [Act.put]
      rw [getD_set hdl, if_neg (fun e => ht (by rw [e]; rfl))]
  split at hv
  · rename_i c s2 hc
    exact key [c] s2 (.v c) hc (Option.some.inj hv).symm (fun v w' I2 R h => h) (fun _ _ _ h => by cases h)
  · rename_i res s2 hne hc
    refine key res s2 (.tup res) hc (Option.some.inj hv).symm (fun v w' I2 R h => ?_) (fun _ _ _ h => by cases h)
    match res, hne, h with
    | [], _, h => exact h
    | [c], hne, h => exact absurd rfl (hne c)
    | _ :: _ :: _, _, h => exact h
  · cases hv

theorem map_some {α β : Type} {f : α → β} {o : Option α} {b : β} (h : o.map f = some b) : ∃ a, o = some a ∧ b = f a := by
  cases o with
  | none => cases h
  | some a => exact ⟨a, rfl, (Option.some.inj h).symm⟩

theorem ite_some {α : Type} {c : Prop} [Decidable c] {a b : α} (h : (if c then some a else none) = some b) : c ∧ b = a := by
  split at h
  · rename_i hc; exact ⟨hc, (Option.some.inj h).symm⟩
  · cases h

theorem compOp_sound {o : Oper} {vo : VOp} (hK : Knows P W G F) (h : compOp P pm o = some vo) : SoundP P arg W G F pm o vo := by
  unfold compOp at h
  split at h
  · rename_i d x hd ho
    obtain ⟨X, h1, rfl⟩ := map_some h
    exact (sound_mv ho hd h1).p
  · rename_i d x hd ho
    split at h
    · obtain rfl := (Option.some.inj h).symm
      exact (sound_bad ho hd).p
    · obtain ⟨X, h1, rfl⟩ := map_some h
      exact (sound_asg ho hd h1).p
  · rename_i d c x y hd ho
    split at h
    · rename_i Xc Xx Xy h1 h2 h3
      obtain rfl := (Option.some.inj h).symm
      exact (sound_pick ho hd h1 h2 h3).p
    · cases h
  · rename_i d e hd ho
    obtain ⟨zs, h1, rfl⟩ := map_some h
    exact (sound_alloc ho hd h1).p
  · rename_i d e x hd ho
    split at h
    · rename_i t hx
      split at h
      · rename_i hpm
        obtain rfl := (Option.some.inj h).symm
        have hx' : x = .tmp t := by
          unfold compX at hx
          split at hx
          · rename_i t'
            simp only [Option.some.injEq, X.t.injEq] at hx
            rw [hx]
          · split at hx
            · split at hx
              · cases hx
              · cases hx
            · cases hx
          · split at hx
            · cases hx
            · cases hx
          · cases hx
        subst hx'
        intro I O s s' a w K Q k1 k2 k3 k4 k5
        exact sound_boxM ho hd (fun _ _ => trivial) I O s s' a w K Q k1 k2 (k3 t hpm) k4 k5
      · obtain rfl := (Option.some.inj h).symm
        exact (sound_box ho hd hx).p
    · rename_i X hne hx
      obtain rfl := (Option.some.inj h).symm
      exact (sound_box ho hd hx).p
    · cases h
  · rename_i d t parts hd ho
    split at h
    · rename_i fs zs h1 h2
      split at h
      · rename_i h3
        obtain ⟨Ps, h4, rfl⟩ := map_some h
        exact (sound_build ho hd h1 h2 h4 h3).p
      · cases h
    · cases h
  · rename_i d t n parts hd ho
    split at h
    · rename_i e h1
      split at h
      · rename_i sz zs h2 h3
        split at h
        · rename_i h4
          obtain ⟨Ps, h5, rfl⟩ := map_some h
          obtain ⟨q1, q2, q3, q4⟩ := h4
          exact (sound_mk ho hd h1 h3 (by omega) (by rw [q1]; exact q3) q4 h5).p
        · cases h
      · cases h
    · cases h
  · rename_i d t x hd ho
    split at h
    · rename_i X n g h1 h2 h3
      split at h
      · rename_i h4
        obtain rfl := (Option.some.inj h).symm
        exact (sound_load ho hd h1 h2 h3 h4).p
      · cases h
    · cases h
  · rename_i t ad x hd ho
    split at h
    · rename_i A X n h1 h2 h3
      obtain rfl := (Option.some.inj h).symm
      exact (sound_store ho hd h1 h2 h3).p
    · cases h
  · rename_i d x hd ho
    obtain ⟨X, h1, rfl⟩ := map_some h
    exact (sound_nil ho hd h1).p
  · rename_i d op t x y ty hd ho
    split at h
    · rename_i X Y fs h1 h2 h3
      split at h
      · rename_i es h4
        split at h
        · rename_i h5
          obtain rfl := (Option.some.inj h).symm
          exact (sound_eqs (neg := false) ho hd h1 h2 h3 h4 h5).p
        · split at h
          · rename_i h5
            obtain rfl := (Option.some.inj h).symm
            exact (sound_eqs (neg := true) ho hd h1 h2 h3 h4 h5).p
          · cases h
      · cases h
    · rename_i X Y h1 h2 h3
      split at h
      · rename_i h5
        obtain rfl := (Option.some.inj h).symm
        exact (sound_eqb (neg := false) ho hd h1 h2 h3 h5).p
      · split at h
        · rename_i h5
          obtain rfl := (Option.some.inj h).symm
          exact (sound_eqb (neg := true) ho hd h1 h2 h3 h5).p
        · cases h
    · rename_i X Y u _ _ h1 h2 h3
      obtain rfl := (Option.some.inj h).symm
      exact (sound_bin ho hd h1 h2).p
    · cases h
  · rename_i d op t x hd ho
    obtain ⟨X, h1, rfl⟩ := map_some h
    exact (sound_un ho hd h1).p
  · rename_i d src dst x hd ho
    split at h
    · rename_i j k X h1 h2 h3
      obtain rfl := (Option.some.inj h).symm
      exact (sound_conv ho hd h1 h2 h3).p
    · rename_i e X h1 h2 h3
      split at h
      · rename_i h4
        obtain rfl := (Option.some.inj h).symm
        exact (sound_bytes ho hd h1 h4 h2 h3).p
      · cases h
    · cases h
  · rename_i d t l c hd ho
    split at h
    · rename_i e h1
      split at h
      · rename_i i zs X Y h2 h3 h4 h5
        split at h
        · rename_i h6
          obtain rfl := (Option.some.inj h).symm
          exact (sound_make ho hd h1 h2 h3 h4 h5 h6.2).p
        · cases h
      · cases h
    · cases h
  · rename_i d t x lo hi hd ho
    split at h
    · rename_i X L H h1 h2 h3 h4
      obtain rfl := (Option.some.inj h).symm
      exact (sound_subStr ho hd h2 h3 h4 h1).p
    · rename_i e X L H h1 h2 h3 h4
      split at h
      · rename_i n h5
        obtain rfl := (Option.some.inj h).symm
        exact (sound_subSl ho hd h2 h3 h4 h1 h5).p
      · cases h
    · cases h
  · rename_i d t x f hd ho
    split at h
    · rename_i fs h1
      split at h
      · rename_i fd h2
        split at h
        · rename_i n X h3 h4
          obtain rfl := (Option.some.inj h).symm
          exact (sound_fld ho hd h4 h1 h2 h3).p
        · cases h
      · cases h
    · cases h
  · rename_i d t x i hd ho
    split at h
    · rename_i e h1
      split at h
      · rename_i sz X Y h2 h3 h4
        obtain rfl := (Option.some.inj h).symm
        exact (sound_idx ho hd h3 h4 h1 h2).p
      · cases h
    · cases h
  · rename_i d t x i hd ho
    split at h
    · rename_i X Y h1 h2 h3
      obtain rfl := (Option.some.inj h).symm
      exact (sound_byte ho hd h2 h3 h1).p
    · cases h
  · rename_i d x i hd ho
    split at h
    · rename_i X h1
      obtain rfl := (Option.some.inj h).symm
      exact (sound_ext ho hd h1).p
    · cases h
  · rename_i d c hd ho
    obtain ⟨callee, cargs, cts⟩ := c
    simp only at h
    split at h
    · -- len
      rename_i hcal
      split at h
      · rename_i x t ha ht
        obtain rfl : cargs = #[x] := by rw [← Array.toArray_toList (xs := cargs), ha]
        obtain rfl : cts = #[t] := by rw [← Array.toArray_toList (xs := cts), ht]
        split at h
        · rename_i X h1 h2
          obtain rfl := (Option.some.inj h).symm
          exact (sound_len (str := true) ho hd h2 (by simpa using h1)).p
        · rename_i e X h1 h2
          obtain rfl := (Option.some.inj h).symm
          exact (sound_len (str := false) ho hd h2 (by simpa using ⟨_, h1⟩)).p
        · cases h
      · cases h
    · split at h
      · rename_i x y ha
        obtain rfl : cargs = #[x, y] := by rw [← Array.toArray_toList (xs := cargs), ha]
        split at h
        · rename_i X Y h1 h2
          obtain rfl := (Option.some.inj h).symm
          exact (sound_min ho hd h1 h2).p
        · cases h
      · cases h
    · split at h
      · rename_i x y t u ha ht
        obtain rfl : cargs = #[x, y] := by rw [← Array.toArray_toList (xs := cargs), ha]
        obtain rfl : cts = #[t, u] := by rw [← Array.toArray_toList (xs := cts), ht]
        split at h
        · rename_i e uu h1 h2
          split at h
          · rename_i i X Y h3 h4 h5
            obtain ⟨⟨q1, q2, q3, q4, q5⟩, rfl⟩ := ite_some h
            obtain ⟨z, hz⟩ := Option.isSome_iff_exists.1 q1
            refine (sound_app ho hd h4 h5 h1 h3 hz (by rw [hz] at q2; simpa using q2) q3 q4 ?_).p
            cases uu <;> first | (simp at q5; done) | (simpa using h2) | exact ⟨_, h2⟩ | (simp; exact ⟨_, h2⟩)
          · cases h
        · cases h
      · cases h
    · rename_i f hcal
      split at h
      · rename_i fn h1
        split at h
        · rename_i h2
          obtain ⟨Xs, h3, rfl⟩ := map_some h
          exact (sound_call hK ho hd h1 h2.1 h2.2.1 h2.2.2 h3).p
        · cases h
      · cases h
    · cases h
  · cases h

end Go.VS
