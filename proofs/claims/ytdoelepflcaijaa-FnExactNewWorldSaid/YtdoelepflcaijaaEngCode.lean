/- Code: what the evaluator answers is what the model's code does. -/
import Derived.Test.YtdoelepflcaijaaEngDraw
namespace Go.VS
open Go Go.RowKit
set_option linter.unusedSimpArgs false
set_option linter.unusedVariables false

variable {P : Program} {arg : Tmp → Value} {W w w' : World} {I I' : Nat → Prop} {O O' : Tmp → Nat → Prop} {s s' : RS} {a : Act} {Q : Exit → Act → World → Prop} {G : Sigs} {F : Fns} {pm : Tmp → Bool}

/-- The slots that operations name: written, read. -/
def opWrites (ops : Array Oper) : List Tmp := ops.toList.filterMap (·.dst)
def opReads (ops : Array Oper) : List Tmp := (ops.toList.map fun o => o.op.operands.toList.filterMap fun | .tmp t => some t | _ => none).flatten
def VC.live : VC → List Tmp
  | .region _ l => l
  | .draw _ l => l
  | _ => []
def VC.fst : VC → VC
  | .seq a _ => a
  | .cond _ a _ => a
  | .block _ b => b
  | .loop b => b
  | _ => .skip
def VC.snd : VC → VC
  | .seq _ b => b
  | .cond _ _ b => b
  | _ => .skip
/-- Code turned; 'n' slots; the last tells which slots each region keeps (whatever it tells, what comes out is sound). -/
def compC (P : Program) (pm : Tmp → Bool) (n : Nat) : Code → VC → Option VC
  | .skip, _ => some .skip
  | .region _ ops false, lv => match compR P pm ops with
    | some gs => if (opWrites ops).all (· < n) = true ∧ lv.live.all (· < n) = true then some (.region gs lv.live) else none
    | none => none
  | .region _ ops true, lv => match compD P pm ops with
    | some qs => if (opWrites ops).all (· < n) = true ∧ lv.live.all (· < n) = true then some (.draw qs lv.live) else none
    | none => none
  | .seq a b, lv => match compC P pm n a lv.fst, compC P pm n b lv.snd with
    | some a, some b => some (.seq a b)
    | _, _ => none
  | .cond x a b, lv => match compX P 0 x, compC P pm n a lv.fst, compC P pm n b lv.snd with
    | some x, some a, some b => some (.cond x a b)
    | _, _, _ => none
  | .block id b, lv => match compC P pm n b lv.fst with
    | some b => some (.block id b)
    | none => none
  | .loop b, lv => match compC P pm n b lv.fst with
    | some b => some (.loop b)
    | none => none
  | .exit id, _ => some (.exit id)
  | .ret, _ => some .ret
  | _, _ => none

def VX.exit' : VX → Exit
  | .normal => .normal
  | .exit id => .exit id
  | .ret => .ret

theorem Rel.world_same {vs : Array Value} (h : Rel arg W I O s vs w) (hd : s.d = []) : Rel arg W I O ⟨s.e, []⟩ vs w := by
  cases s; simp only at hd; subst hd; exact h

theorem rounds_sound {c : Code} {vc : VC} {n : Nat} {N : Nat}
    (ih : ∀ (I : Nat → Prop) (O : Tmp → Nat → Prop) (e e' : Env) (x : VX) (a : Act) (w : World) (Q : Exit → Act → World → Prop), ex G F n vc e = some (x, e') → Rel arg W I O ⟨e, []⟩ a.tmps w → N ≤ a.tmps.size → (∀ t, pm t = true → a.tmps.getD t undef = arg t) →
      (∀ a' w', Come arg W pm I O w a ⟨e', []⟩ a' w' → Q x.exit' a' w') → c.wp P Q a w) :
    ∀ (m : Nat) (I : Nat → Prop) (O : Tmp → Nat → Prop) (e e' : Env) (x : VX) (a : Act) (w : World) (Q : Exit → Act → World → Prop), iter (ex G F n vc) m e = some (x, e') → Rel arg W I O ⟨e, []⟩ a.tmps w → N ≤ a.tmps.size → (∀ t, pm t = true → a.tmps.getD t undef = arg t) →
      (∀ a' w', Come arg W pm I O w a ⟨e', []⟩ a' w' → Q x.exit' a' w') → Code.rounds P c Q m a w
  | 0, I, O, e, e', x, a, w, Q, hi, h, hN, hpm, hk => by simp [iter] at hi
  | m + 1, I, O, e, e', x, a, w, Q, hi, h, hN, hpm, hk => by
    simp only [iter] at hi
    rw [rounds_succ]
    split at hi
    · rename_i e1 he1
      refine ih I O e e1 .normal a w _ he1 h hN hpm fun a' w' hc => ?_
      obtain ⟨I', O', k1, k2, k3, k4, k5⟩ := hc
      exact rounds_sound ih m I' O' e1 e' x a' w' Q hi k3 (by rw [k2]; exact hN) (fun t ht => (k5 t ht).trans (hpm t ht)) fun a'' w'' hh => hk a'' w'' (Come.next k1 k2 k3 k4 k5 hh)
    · rename_i hne
      refine ih I O e e' x a w _ hi h hN hpm fun a' w' hc => ?_
      have := hk a' w' hc
      cases x with
      | normal => exact absurd hi (hne e')
      | exit id => exact this
      | ret => exact this

theorem ex_sound {n : Nat} {N : Nat} (hK : Knows P W G F) : ∀ (c : Code) (lv vc : VC) (I : Nat → Prop) (O : Tmp → Nat → Prop) (e e' : Env) (x : VX) (a : Act) (w : World) (Q : Exit → Act → World → Prop),
    compC P pm N c lv = some vc → ex G F n vc e = some (x, e') → Rel arg W I O ⟨e, []⟩ a.tmps w → N ≤ a.tmps.size → (∀ t, pm t = true → a.tmps.getD t undef = arg t) → (∀ a' w', Come arg W pm I O w a ⟨e', []⟩ a' w' → Q x.exit' a' w') → c.wp P Q a w := by
  intro c
  induction c with
  | skip =>
    intro lv vc I O e e' x a w Q hc hx h hN hpm hk
    simp only [compC, Option.some.injEq] at hc
    subst hc
    simp only [ex, Option.some.injEq, Prod.mk.injEq] at hx
    obtain ⟨rfl, rfl⟩ := hx
    exact wp_skip (hk a w (.refl h))
  | region id ops draw =>
    intro lv vc I O e e' x a w Q hc hx h hN hpm hk
    cases draw with
    | true =>
      simp only [compC] at hc
      split at hc
      · rename_i qs hqs
        obtain ⟨⟨hw, hlv⟩, rfl⟩ := ite_some hc
        have hw' : ∀ t ∈ opWrites ops, t < N := by simpa [List.all_eq_true] using hw
        have hlv' : ∀ t ∈ lv.live, t < N := by simpa [List.all_eq_true] using hlv
        simp only [ex] at hx
        split at hx
        · rename_i s1 hs1
          split at hx
          · rename_i s2 hs2
            simp only [Option.some.injEq, Prod.mk.injEq] at hx
            obtain ⟨rfl, rfl⟩ := hx
            refine wp_region_any (compD_mixed hqs) (draw_sound hK hqs h (fun o ho d hd => ?_) hpm hs1 fun a' w' hcome => hk a' w' ?_)
            · exact Nat.lt_of_lt_of_le (hw' d (List.mem_filterMap.2 ⟨o, ho, hd⟩)) hN
            · obtain ⟨I', O', k1, k2, k3, k4, k5⟩ := hcome
              obtain ⟨O2, q1, q2⟩ := fin_sound _ O' s1 s2 k3 (fun t ht => Nat.lt_of_lt_of_le (hlv' t ht) (by rw [k2]; exact hN)) hs2
              have hd0 : s2.d = [] := by
                have : ∀ (keep : List Tmp) (s s' : RS) (clr : List Tmp), s.fin clr keep = some s' → s'.d = [] := by
                  intro keep
                  induction keep with
                  | nil => intro s s' clr hf; simp only [RS.fin, Option.some.injEq] at hf; subst hf; rfl
                  | cons t ts ih =>
                    intro s s' clr hf
                    simp only [RS.fin] at hf
                    repeat' split at hf
                    all_goals first | exact ih _ _ _ hf | cases hf
                exact this _ _ _ _ hs2
              refine ⟨I', O2, k1, k2, q1.world_same hd0, ⟨k4.imm, k4.size, k4.kept, fun b hb => ?_⟩, k5⟩
              rcases hb with ⟨t, hb⟩ | hb
              · exact k4.got b (.inl (q2 t b hb))
              · exact k4.got b (.inr hb)
          · cases hx
        · cases hx
      · cases hc
    | false =>
      simp only [compC] at hc
      split at hc
      · rename_i gs hgs
        obtain ⟨⟨hw, hlv⟩, rfl⟩ := ite_some hc
        have hw' : ∀ t ∈ opWrites ops, t < N := by simpa [List.all_eq_true] using hw
        have hlv' : ∀ t ∈ lv.live, t < N := by simpa [List.all_eq_true] using hlv
        simp only [ex] at hx
        split at hx
        · rename_i s1 hs1
          split at hx
          · rename_i s2 hs2
            simp only [Option.some.injEq, Prod.mk.injEq] at hx
            obtain ⟨rfl, rfl⟩ := hx
            refine wp_region_list (gops_sound hK ops.toList gs I O ⟨e, []⟩ s1 a w hgs h (fun o ho d hd => ?_) hpm hs1 fun a' w' hcome => hk a' w' ?_)
            · exact Nat.lt_of_lt_of_le (hw' d (List.mem_filterMap.2 ⟨o, ho, hd⟩)) hN
            · obtain ⟨I', O', k1, k2, k3, k4, k5⟩ := hcome
              obtain ⟨O2, q1, q2⟩ := fin_sound _ O' s1 s2 k3 (fun t ht => Nat.lt_of_lt_of_le (hlv' t ht) (by rw [k2]; exact hN)) hs2
              have hd0 : s2.d = [] := by
                have : ∀ (keep : List Tmp) (s s' : RS) (clr : List Tmp), s.fin clr keep = some s' → s'.d = [] := by
                  intro keep
                  induction keep with
                  | nil => intro s s' clr hf; simp only [RS.fin, Option.some.injEq] at hf; subst hf; rfl
                  | cons t ts ih =>
                    intro s s' clr hf
                    simp only [RS.fin] at hf
                    repeat' split at hf
                    all_goals first | exact ih _ _ _ hf | cases hf
                exact this _ _ _ _ hs2
              refine ⟨I', O2, k1, k2, q1.world_same hd0, ⟨k4.imm, k4.size, k4.kept, fun b hb => ?_⟩, k5⟩
              rcases hb with ⟨t, hb⟩ | hb
              · exact k4.got b (.inl (q2 t b hb))
              · exact k4.got b (.inr hb)
          · cases hx
        · cases hx
      · cases hc
  | seq c1 c2 ih1 ih2 =>
    intro lv vc I O e e' x a w Q hc hx h hN hpm hk
    simp only [compC] at hc
    split at hc
    · rename_i v1 v2 h1 h2
      obtain rfl := (Option.some.inj hc).symm
      simp only [ex] at hx
      refine wp_seq ?_
      split at hx
      · rename_i e1 he1
        refine ih1 lv.fst v1 I O e e1 .normal a w _ h1 he1 h hN hpm fun a' w' hcome => ?_
        obtain ⟨I', O', k1, k2, k3, k4, k5⟩ := hcome
        exact ih2 lv.snd v2 I' O' e1 e' x a' w' Q h2 hx k3 (by rw [k2]; exact hN) (fun t ht => (k5 t ht).trans (hpm t ht)) fun a'' w'' hh => hk a'' w'' (Come.next k1 k2 k3 k4 k5 hh)
      · rename_i hne
        refine ih1 lv.fst v1 I O e e' x a w _ h1 hx h hN hpm fun a' w' hcome => ?_
        have := hk a' w' hcome
        cases x with
        | normal => exact absurd hx (hne e')
        | exit id => exact this
        | ret => exact this
    · cases hc
  | cond o c1 c2 ih1 ih2 =>
    intro lv vc I O e e' x a w Q hc hx h hN hpm hk
    simp only [compC] at hc
    split at hc
    · rename_i X v1 v2 h0 h1 h2
      obtain rfl := (Option.some.inj hc).symm
      simp only [ex] at hx
      split at hx
      · rename_i t hl
        have hv := look_bool h (compX_val h0 a) hl
        refine wp_cond hv ?_
        cases t with
        | true => exact ih1 lv.fst v1 I O e e' x a w Q h1 hx h hN hpm hk
        | false => exact ih2 lv.snd v2 I O e e' x a w Q h2 hx h hN hpm hk
      · cases hx
    · cases hc
  | block id b ih =>
    intro lv vc I O e e' x a w Q hc hx h hN hpm hk
    simp only [compC] at hc
    split at hc
    · rename_i v1 h1
      obtain rfl := (Option.some.inj hc).symm
      simp only [ex] at hx
      refine wp_block ?_
      split at hx
      · rename_i id' e1 he1
        refine ih lv.fst v1 I O e e1 (.exit id') a w _ h1 he1 h hN hpm fun a' w' hcome => ?_
        show if id' = id then Q .normal a' w' else Q (.exit id') a' w'
        split at hx
        · rename_i hid
          rw [if_pos hid]
          simp only [Option.some.injEq, Prod.mk.injEq] at hx
          obtain ⟨rfl, rfl⟩ := hx
          exact hk a' w' hcome
        · rename_i hid
          rw [if_neg hid]
          simp only [Option.some.injEq, Prod.mk.injEq] at hx
          obtain ⟨rfl, rfl⟩ := hx
          exact hk a' w' hcome
      · rename_i hne
        refine ih lv.fst v1 I O e e' x a w _ h1 hx h hN hpm fun a' w' hcome => ?_
        have := hk a' w' hcome
        cases x with
        | normal => exact this
        | exit id' => exact absurd hx (hne id' e')
        | ret => exact this
    · cases hc
  | loop b ih =>
    intro lv vc I O e e' x a w Q hc hx h hN hpm hk
    simp only [compC] at hc
    split at hc
    · rename_i v1 h1
      obtain rfl := (Option.some.inj hc).symm
      simp only [ex] at hx
      exact wp_loop_rounds n (rounds_sound (fun I O e e' x a w Q g1 g2 g3 g4 g5 => ih lv.fst v1 I O e e' x a w Q h1 g1 g2 g3 g4 g5) n I O e e' x a w Q hx h hN hpm hk)
    · cases hc
  | exit id =>
    intro lv vc I O e e' x a w Q hc hx h hN hpm hk
    simp only [compC, Option.some.injEq] at hc
    subst hc
    simp only [ex, Option.some.injEq, Prod.mk.injEq] at hx
    obtain ⟨rfl, rfl⟩ := hx
    exact wp_exit (hk a w (.refl h))
  | ret =>
    intro lv vc I O e e' x a w Q hc hx h hN hpm hk
    simp only [compC, Option.some.injEq] at hc
    subst hc
    simp only [ex, Option.some.injEq, Prod.mk.injEq] at hx
    obtain ⟨rfl, rfl⟩ := hx
    exact wp_ret (hk a w (.refl h))
  | _ => intro lv vc I O e e' x a w Q hc; cases hc

end Go.VS
