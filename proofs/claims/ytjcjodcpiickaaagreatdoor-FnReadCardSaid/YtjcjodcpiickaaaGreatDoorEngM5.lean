/- Code: what the evaluator answers is what the model's code does. -/
import Derived.Test.YtjcjodcpiickaaaGreatDoorEngM4
namespace Go.VS
open Go Go.RowKit
set_option linter.unusedSimpArgs false
set_option linter.unusedVariables false

variable {P : Program} {arg : Tmp → Value} {W w w' : World} {I I' : Nat → Prop} {O O' : Tmp → Nat → Prop} {s s' : RS} {a : Act} {Q : Exit → Act → World → Prop} {G : Sigs} {F : Fns} {pm : Tmp → Bool}

/-- The slots that operations name: written, read. -/
def opWrites (ops : Array Oper) : List Tmp := ops.toList.filterMap (·.dst)
def opReads (ops : Array Oper) : List Tmp := (ops.toList.map fun o => o.op.operands.toList.filterMap fun | .tmp t => some t | _ => none).flatten
def VC.live : VC → List Tmp
 | .region _ l => l
 | .draw _ l => l
 | _ => []
def VC.fst : VC → VC
 | .seq a _ => a
 | .cond _ a _ => a
 | .block _ b => b
 | .loop b => b
 | _ => .skip
def VC.snd : VC → VC
 | .seq _ b => b
 | .cond _ _ b => b
 | _ => .skip
/-- Code turned; 'n' slots; the last tells which slots each region keeps (whatever it tells, what comes out is sound). -/
def compC (P : Program) (pm : Tmp → Bool) (n : Nat) : Code → VC → Option VC
 | .skip, _ => some .skip
 | .region _ ops false, lv => match compR P false pm ops with
  | some gs => if (opWrites ops).all (· < n) = true ∧ lv.live.all (· < n) = true then some (.region gs lv.live) else none
  | none => none
 | .region _ ops true, lv => match compD P pm ops with
  | some qs => if (opWrites ops).all (· < n) = true ∧ lv.live.all (· < n) = true then some (.draw qs lv.live) else none
  | none => none
 | .seq a b, lv => match compC P pm n a lv.fst, compC P pm n b lv.snd with
  | some a, some b => some (.seq a b)
  | _, _ => none
 | .cond x a b, lv => match compX P 0 x, compC P pm n a lv.fst, compC P pm n b lv.snd with
  | some x, some a, some b => some (.cond x a b)
  | _, _, _ => none
 | .block id b, lv => match compC P pm n b lv.fst with
  | some b => some (.block id b)
  | none => none
 | .loop b, lv => match compC P pm n b lv.fst with
  | some b => some (.loop b)
  | none => none
 | .exit id, _ => some (.exit id)
 | .ret, _ => some .ret
 | _, _ => none

def VX.exit' : VX → Exit
 | .normal => .normal
 | .exit id => .exit id
 | .ret => .ret

theorem Rel.world_same {vs : Array Value} (h : Rel arg W I O s vs w) (hd : s.d = []) : Rel arg W I O ⟨s.e, []⟩ vs w := by
 cases s; simp only at hd; subst hd; exact h

theorem rounds_sound {c : Code} {vc : VC} {n : Nat} {N : Nat}
  (ih : ∀ (I : Nat → Prop) (O : Tmp → Nat → Prop) (e e' : Env) (x : VX) (a : Act) (w : World) (Q : Exit → Act → World → Prop), ex G F n vc e = some (x, e') → Rel arg W I O ⟨e, []⟩ a.tmps w → N ≤ a.tmps.size → (∀ t, pm t = true → a.tmps.getD t undef = arg t) →
   (∀ a' w', Come arg W pm I O w a ⟨e', []⟩ a' w' → Q x.exit' a' w') → c.wp P Q a w) :
  ∀ (m : Nat) (I : Nat → Prop) (O : Tmp → Nat → Prop) (e e' : Env) (x : VX) (a : Act) (w : World) (Q : Exit → Act → World → Prop), iter (ex G F n vc) m e = some (x, e') → Rel arg W I O ⟨e, []⟩ a.tmps w → N ≤ a.tmps.size → (∀ t, pm t = true → a.tmps.getD t undef = arg t) →
   (∀ a' w', Come arg W pm I O w a ⟨e', []⟩ a' w' → Q x.exit' a' w') → Code.rounds P c Q m a w
 | 0, I, O, e, e', x, a, w, Q, hi, h, hN, hpm, hk => by simp [iter] at hi
 | m + 1, I, O, e, e', x, a, w, Q, hi, h, hN, hpm, hk => by
  simp only [iter] at hi
  rw [rounds_succ]
  split at hi
  ·rename_i e1 he1
   refine ih I O e e1 .normal a w _ he1 h hN hpm fun a' w' hc => ?_
   obtain ⟨I', O', k1, k2, k3, k4, k5⟩ := hc
   exact rounds_sound ih m I' O' e1 e' x a' w' Q hi k3 (by rw [k2]; exact hN) (fun t ht => (k5 t ht).trans (hpm t ht)) fun a'' w'' hh => hk a'' w'' (Come.next k1 k2 k3 k4 k5 hh)
  ·rename_i hne
   refine ih I O e e' x a w _ hi h hN hpm fun a' w' hc => ?_
   have := hk a' w' hc
   cases x with
   | normal => exact absurd hi (hne e')
   | exit id => exact this
   | ret => exact this

theorem ex_sound {n : Nat} {N : Nat} (hK : Knows P W G F) : ∀ (c : Code) (lv vc : VC) (I : Nat → Prop) (O : Tmp → Nat → Prop) (e e' : Env) (x : VX) (a : Act) (w : World) (Q : Exit → Act → World → Prop),
  compC P pm N c lv = some vc → ex G F n vc e = some (x, e') → Rel arg W I O ⟨e, []⟩ a.tmps w → N ≤ a.tmps.size → (∀ t, pm t = true → a.tmps.getD t undef = arg t) → (∀ a' w', Come arg W pm I O w a ⟨e', []⟩ a' w' → Q x.exit' a' w') → c.wp P Q a w := by
 intro c
 induction c with
 | skip =>
  intro lv vc I O e e' x a w Q hc hx h hN hpm hk
  simp only [compC, Option.some.injEq] at hc
  subst hc
  simp only [ex, Option.some.injEq, Prod.mk.injEq] at hx
  obtain ⟨rfl, rfl⟩ := hx
  exact wp_skip (hk a w (.refl h))
 | region id ops draw =>
  intro lv vc I O e e' x a w Q hc hx h hN hpm hk
  cases draw with
  | true =>
   simp only [compC] at hc
   split at hc
   ·rename_i qs hqs
    obtain ⟨⟨hw, hlv⟩, rfl⟩ := ite_some hc
    have hw' : ∀ t ∈ opWrites ops, t < N := by simpa [List.all_eq_true] using hw
    have hlv' : ∀ t ∈ lv.live, t < N := by simpa [List.all_eq_true] using hlv
    simp only [ex] at hx
    split at hx
    ·rename_i s1 hs1
     split at hx
     ·rename_i s2 hs2
      simp only [Option.some.injEq, Prod.mk.injEq] at hx
      obtain ⟨rfl, rfl⟩ := hx
      refine wp_region_any (compD_mixed hqs) (draw_sound hK hqs h (fun o ho d hd => ?_) hpm hs1 fun a' w' hcome => hk a' w' ?_)
      ·exact Nat.lt_of_lt_of_le (hw' d (List.mem_filterMap.2 ⟨o, ho, hd⟩)) hN
      ·obtain ⟨I', O', k1, k2, k3, k4, k5⟩ := hcome
       obtain ⟨O2, q1, q2⟩ := fin_sound _ O' s1 s2 k3 (fun t ht => Nat.lt_of_lt_of_le (hlv' t ht) (by rw [k2]; exact hN)) hs2
       have hd0 : s2.d = [] := by
        have : ∀ (keep : List Tmp) (s s' : RS) (clr : List Tmp), s.fin clr keep = some s' → s'.d = [] := by
         intro keep
         induction keep with
         | nil => intro s s' clr hf; simp only [RS.fin, Option.some.injEq] at hf; subst hf; rfl
         | cons t ts ih =>
          intro s s' clr hf
          simp only [RS.fin] at hf
          repeat' split at hf
          all_goals first | exact ih _ _ _ hf | cases hf
        exact this _ _ _ _ hs2
       refine ⟨I', O2, k1, k2, q1.world_same hd0, ⟨k4.imm, k4.size, k4.kept, fun b hb => ?_⟩, k5⟩
       rcases hb with ⟨t, hb⟩ | hb
       ·exact k4.got b (.inl (q2 t b hb))
       ·exact k4.got b (.inr hb)
     ·cases hx
    ·cases hx
   ·cases hc
  | false =>
   simp only [compC] at hc
   split at hc
   ·rename_i gs hgs
    obtain ⟨⟨hw, hlv⟩, rfl⟩ := ite_some hc
    have hw' : ∀ t ∈ opWrites ops, t < N := by simpa [List.all_eq_true] using hw
    have hlv' : ∀ t ∈ lv.live, t < N := by simpa [List.all_eq_true] using hlv
    simp only [ex] at hx
    split at hx
    ·rename_i s1 hs1
     split at hx
     ·rename_i s2 hs2
      simp only [Option.some.injEq, Prod.mk.injEq] at hx
      obtain ⟨rfl, rfl⟩ := hx
      refine wp_region_list (gops_sound hK ops.toList gs I O ⟨e, []⟩ s1 a w hgs h (fun o ho d hd => ?_) hpm hs1 fun a' w' hcome => hk a' w' ?_)
      ·exact Nat.lt_of_lt_of_le (hw' d (List.mem_filterMap.2 ⟨o, ho, hd⟩)) hN
      ·obtain ⟨I', O', k1, k2, k3, k4, k5⟩ := hcome
       obtain ⟨O2, q1, q2⟩ := fin_sound _ O' s1 s2 k3 (fun t ht => Nat.lt_of_lt_of_le (hlv' t ht) (by rw [k2]; exact hN)) hs2
       have hd0 : s2.d = [] := by
        have : ∀ (keep : List Tmp) (s s' : RS) (clr : List Tmp), s.fin clr keep = some s' → s'.d = [] := by
         intro keep
         induction keep with
         | nil => intro s s' clr hf; simp only [RS.fin, Option.some.injEq] at hf; subst hf; rfl
         | cons t ts ih =>
          intro s s' clr hf
          simp only [RS.fin] at hf
          repeat' split at hf
          all_goals first | exact ih _ _ _ hf | cases hf
        exact this _ _ _ _ hs2
       refine ⟨I', O2, k1, k2, q1.world_same hd0, ⟨k4.imm, k4.size, k4.kept, fun b hb => ?_⟩, k5⟩
       rcases hb with ⟨t, hb⟩ | hb
       ·exact k4.got b (.inl (q2 t b hb))
       ·exact k4.got b (.inr hb)
     ·cases hx
    ·cases hx
   ·cases hc
 | seq c1 c2 ih1 ih2 =>
  intro lv vc I O e e' x a w Q hc hx h hN hpm hk
  simp only [compC] at hc
  split at hc
  ·rename_i v1 v2 h1 h2
   obtain rfl := (Option.some.inj hc).symm
   simp only [ex] at hx
   refine wp_seq ?_
   split at hx
   ·rename_i e1 he1
    refine ih1 lv.fst v1 I O e e1 .normal a w _ h1 he1 h hN hpm fun a' w' hcome => ?_
    obtain ⟨I', O', k1, k2, k3, k4, k5⟩ := hcome
    exact ih2 lv.snd v2 I' O' e1 e' x a' w' Q h2 hx k3 (by rw [k2]; exact hN) (fun t ht => (k5 t ht).trans (hpm t ht)) fun a'' w'' hh => hk a'' w'' (Come.next k1 k2 k3 k4 k5 hh)
   ·rename_i hne
    refine ih1 lv.fst v1 I O e e' x a w _ h1 hx h hN hpm fun a' w' hcome => ?_
    have := hk a' w' hcome
    cases x with
    | normal => exact absurd hx (hne e')
    | exit id => exact this
    | ret => exact this
  ·cases hc
 | cond o c1 c2 ih1 ih2 =>
  intro lv vc I O e e' x a w Q hc hx h hN hpm hk
  simp only [compC] at hc
  split at hc
  ·rename_i X v1 v2 h0 h1 h2
   obtain rfl := (Option.some.inj hc).symm
   simp only [ex] at hx
   split at hx
   ·rename_i t hl
    have hv := look_bool h (compX_val h0 a) hl
    refine wp_cond hv ?_
    cases t with
    | true => exact ih1 lv.fst v1 I O e e' x a w Q h1 hx h hN hpm hk
    | false => exact ih2 lv.snd v2 I O e e' x a w Q h2 hx h hN hpm hk
   ·cases hx
  ·cases hc
 | block id b ih =>
  intro lv vc I O e e' x a w Q hc hx h hN hpm hk
  simp only [compC] at hc
  split at hc
  ·rename_i v1 h1
   obtain rfl := (Option.some.inj hc).symm
   simp only [ex] at hx
   refine wp_block ?_
   split at hx
   ·rename_i id' e1 he1
    refine ih lv.fst v1 I O e e1 (.exit id') a w _ h1 he1 h hN hpm fun a' w' hcome => ?_
    show if id' = id then Q .normal a' w' else Q (.exit id') a' w'
    split at hx
    ·rename_i hid
     rw [if_pos hid]
     simp only [Option.some.injEq, Prod.mk.injEq] at hx
     obtain ⟨rfl, rfl⟩ := hx
     exact hk a' w' hcome
    ·rename_i hid
     rw [if_neg hid]
     simp only [Option.some.injEq, Prod.mk.injEq] at hx
     obtain ⟨rfl, rfl⟩ := hx
     exact hk a' w' hcome
   ·rename_i hne
    refine ih lv.fst v1 I O e e' x a w _ h1 hx h hN hpm fun a' w' hcome => ?_
    have := hk a' w' hcome
    cases x with
    | normal => exact this
    | exit id' => exact absurd hx (hne id' e')
    | ret => exact this
  ·cases hc
 | loop b ih =>
  intro lv vc I O e e' x a w Q hc hx h hN hpm hk
  simp only [compC] at hc
  split at hc
  ·rename_i v1 h1
   obtain rfl := (Option.some.inj hc).symm
   simp only [ex] at hx
   exact wp_loop_rounds n (rounds_sound (fun I O e e' x a w Q g1 g2 g3 g4 g5 => ih lv.fst v1 I O e e' x a w Q h1 g1 g2 g3 g4 g5) n I O e e' x a w Q hx h hN hpm hk)
  ·cases hc
 | exit id =>
  intro lv vc I O e e' x a w Q hc hx h hN hpm hk
  simp only [compC, Option.some.injEq] at hc
  subst hc
  simp only [ex, Option.some.injEq, Prod.mk.injEq] at hx
  obtain ⟨rfl, rfl⟩ := hx
  exact wp_exit (hk a w (.refl h))
 | ret =>
  intro lv vc I O e e' x a w Q hc hx h hN hpm hk
  simp only [compC, Option.some.injEq] at hc
  subst hc
  simp only [ex, Option.some.injEq, Prod.mk.injEq] at hx
  obtain ⟨rfl, rfl⟩ := hx
  exact wp_ret (hk a w (.refl h))
 | _ => intro lv vc I O e e' x a w Q hc; cases hc

end Go.VS

/- Functions: what the evaluator answers is what the model's function answers. -/
namespace Go.VS
open Go Go.RowKit
set_option linter.unusedSimpArgs false
set_option linter.unusedVariables false

variable {P : Program} {arg : Tmp → Value} {W w w' : World} {I I' : Nat → Prop} {O O' : Tmp → Nat → Prop} {s s' : RS} {Q : Ending → World → Prop} {G : Sigs} {F : Fns} {pm : Tmp → Bool}

def compRes (P : Program) : ResultVar → Option RX
 | .tmp t => some (.tmp t)
 | .cell a t => match sizeB P t, aggB P t with
  | some n, some g => if g = true ∨ n = 1 then some (.cell a n g) else none
  | _, _ => none

def CV.plain : CV → Bool
 | .pbox _ _ => false
 | _ => true
theorem RepC.any {c : CV} {v : Value} {S : Nat → Prop} {arg' : Tmp → Value} (h : RepC arg w I c v S) (hp : c.plain = true) : RepC arg' w I c v S := by
 cases c with
 | pbox => cases hp
 | _ => exact h

theorem take_plain {x : Tmp} {c : CV} (h : s.take (.t x) = some (c, s')) : c.plain = true := by
 simp only [RS.take] at h
 split at h
 ·cases h
 ·cases h
 ·rename_i c0 h1 h2 hav
  have : c0.plain = true := by cases c0 <;> first | rfl | exact absurd rfl (h1 _ _)
  split at h <;> simp only [Option.some.injEq, Prod.mk.injEq] at h <;> (rw [← h.1]; exact this)
 ·split at h
  ·rename_i c1 hl
   have hp : c1.plain = true := by
    simp only [RS.look] at hl
    split at hl
    ·split at hl
     ·unfold cellsOf at hl
      repeat' split at hl
      all_goals first | (obtain rfl := (Option.some.inj hl).symm; rfl) | cases hl
     ·cases hl
    ·cases hl
   split at h
   ·simp only [Option.some.injEq, Prod.mk.injEq] at h
    rw [← h.1]; exact hp
   ·split at h
    ·simp only [Option.some.injEq, Prod.mk.injEq] at h
     rw [← h.1]; exact hp
    ·cases h
  ·cases h
 ·cases h

/-- The value of a result variable. -/
def resVal (P : Program) (w : World) (tmps : Array Value) (rv : ResultVar) : Value :=
 match ((match rv with | .tmp t => pure (tmps.getD t undef) | .cell a t => do loadVar t (← asAddr (tmps.getD a undef)) : Sem Value)).run P w with
 | .ok v _ => v
 | _ => undef
def resRun (tmps : Array Value) (rv : ResultVar) : Sem Value := match rv with | .tmp t => pure (tmps.getD t undef) | .cell a t => do loadVar t (← asAddr (tmps.getD a undef))

theorem results_sound {vs : Array Value} : ∀ (rvs : List ResultVar) (rs : List RX) (cs : List CV) (O : Tmp → Nat → Prop) (s s' : RS), rvs.mapM (compRes P) = some rs → Rel arg W I O s vs w → s.results rs = some (cs, s') →
  ∃ (O' : Tmp → Nat → Prop) (D : Nat → Nat → Prop), Rel arg W I O' s' vs w ∧ cs.length = rvs.length ∧ (∀ rv ∈ rvs, (resRun vs rv).run P w = .ok (resVal P w vs rv) w) ∧ (∀ j b, D j b → ∃ t, O t b) ∧ (∀ t b, O' t b → O t b) ∧ (∀ t b, O' t b → ∀ j, ¬ D j b) ∧ (∀ j j' b, D j b → D j' b → j = j') ∧
   ∀ (j : Nat) c, cs[j]? = some c → ∃ rv, rvs[j]? = some rv ∧ c.plain = true ∧ RepC arg w I c (resVal P w vs rv) (D j)
 | [], rs, cs, O, s, s', hm, h, hr => by
  simp at hm
  subst hm
  simp only [RS.results, Option.some.injEq, Prod.mk.injEq] at hr
  obtain ⟨rfl, rfl⟩ := hr
  exact ⟨O, fun _ _ => False, h, rfl, fun rv h => by simp at h, fun _ _ h => h.elim, fun _ _ h => h, fun _ _ _ _ h => h, fun _ _ _ h => h.elim, fun j c h => by simp at h⟩
 | rv :: rvs, rs, cs, O, s, s', hm, h, hr => by
  obtain ⟨r, rs', h1, h2, rfl⟩ := mapM_cons_some hm
  -- the first result
  have first : ∃ c s1 S O1 cs', cs = c :: cs' ∧ s1.results rs' = some (cs', s') ∧ c.plain = true ∧ RepC arg w I c (resVal P w vs rv) S ∧ Rel arg W I O1 s1 vs w ∧ Out O O1 S ∧ (resRun vs rv).run P w = .ok (resVal P w vs rv) w := by
   cases rv with
   | tmp t =>
    simp only [compRes, Option.some.injEq] at h1
    subst h1
    simp only [RS.results] at hr
    split at hr
    ·rename_i c s1 ht
     split at hr
     ·rename_i cs' s2 h3
      simp only [Option.some.injEq, Prod.mk.injEq] at hr
      obtain ⟨rfl, rfl⟩ := hr
      obtain ⟨S, O1, k1, k2, k3⟩ := h.take (x := .t t) rfl ht
      exact ⟨c, s1, S, O1, cs', rfl, h3, take_plain ht, k1, k2, k3, rfl⟩
     ·cases hr
    ·cases hr
   | cell ad ty =>
    simp only [compRes] at h1
    split at h1
    ·rename_i n g hn hg
     obtain ⟨hng, rfl⟩ := ite_some h1
     simp only [RS.results] at hr
     split at hr
     ·rename_i row hav
      split at hr
      ·rename_i hlen
       split at hr
       ·rename_i c hc
        split at hr
        ·rename_i cs' s2 h3
         simp only [Option.some.injEq, Prod.mk.injEq] at hr
         obtain ⟨rfl, rfl⟩ := hr
         have hrep := h.rep ad
         rw [hav] at hrep
         obtain ⟨b, cells, e, hv, q1, q2, q3, q4, _⟩ := hrep
         have hcell : ∀ j, w.cell? ⟨b, 0 + j, none⟩ = cells[j]? := fun j => by simp only [World.cell?, q2, Nat.zero_add]; rfl
         obtain ⟨u, hu, hl⟩ := run_loadVar_at (P := P) (w := w) hn hg hng b 0 fun j hj => by
          obtain ⟨v, hv', _⟩ := row_cells q4 (j := j) (by omega)
          exact ⟨v, by rw [hcell]; exact hv'⟩
         have hrun : (resRun vs (.cell ad ty)).run P w = .ok u w := by
          simp only [resRun, hv, asAddr, Sem.run_bind, Sem.run_pure, Result.andThen_ok, hu]
         have hval : resVal P w vs (.cell ad ty) = u := by
          have : resVal P w vs (.cell ad ty) = (match (resRun vs (.cell ad ty)).run P w with | .ok v _ => v | _ => undef) := rfl
          rw [this, hrun]
         rw [hval]
         have hfun : (fun j => w.cell? ⟨b, 0 + j, none⟩) = fun j => cells[j]? := funext hcell
         have hl' : Loaded (fun j => cells[j]?) 0 n g u := by rw [← hfun]; exact hl
         have hplain : c.plain = true := by
          unfold cellsOf at hc
          repeat' split at hc
          all_goals first | (obtain rfl := (Option.some.inj hc).symm; rfl) | cases hc
         refine ⟨c, s.put ad .bad, fun x => O ad x ∧ x ≠ b, _, cs', rfl, h3, hplain, cells_rep (arg := arg) q4 hc hl', h.strike ad .bad rfl, ⟨fun x hx => ⟨ad, hx.1⟩, fun t x hx => ?_, fun t x hx hx' => ?_⟩, hrun⟩
         ·by_cases ht : t = ad
          ·simp only [ht, if_true] at hx
          ·simp only [ht, if_false] at hx; exact hx
         ·by_cases ht : t = ad
          ·simp only [ht, if_true] at hx
          ·simp only [ht, if_false] at hx; exact ht (h.disj t ad x hx hx'.1)
        ·cases hr
       ·cases hr
      ·cases hr
     ·cases hr
    ·cases h1
  obtain ⟨c, s1, S, O1, cs', rfl, h3, hpl, hrep, hrel, hout, hrun⟩ := first
  obtain ⟨O', D, k1, k2, k3, k4, k5, k6, k7, k8⟩ := results_sound rvs rs' cs' O1 s1 s' h2 hrel h3
  refine ⟨O', fun j b => match j with | 0 => S b | j + 1 => D j b, k1, by simp [k2], fun rv' hm' => ?_, fun j b hb => ?_, fun t b hb => hout.2.1 t b (k5 t b hb), fun t b hb j hj => ?_, fun j j' b hb hb' => ?_, fun j c' hj => ?_⟩
  ·rcases List.mem_cons.1 hm' with rfl | hm'
   ·exact hrun
   ·exact k3 rv' hm'
  ·cases j with
   | zero => exact hout.1 b hb
   | succ j => obtain ⟨t, ht⟩ := k4 j b hb; exact ⟨t, hout.2.1 t b ht⟩
  ·cases j with
   | zero => exact hout.2.2 t b (k5 t b hb) hj
   | succ j => exact k6 t b hb j hj
  ·have hno : ∀ j, S b → ¬ D j b := fun j hS hD => by obtain ⟨t, ht⟩ := k4 j b hD; exact hout.2.2 t b ht hS
   cases j with
   | zero => cases j' with
    | zero => rfl
    | succ j' => exact absurd hb' (hno j' hb)
   | succ j => cases j' with
    | zero => exact absurd hb (hno j hb')
    | succ j' => rw [k7 j j' b hb hb']
  ·cases j with
   | zero => simp at hj; subst hj; exact ⟨rv, rfl, hpl, hrep⟩
   | succ j => simpa using k8 j c' (by simpa using hj)

/-- The slots where the arguments that were lent lie at the end. -/
theorem boxOf_some {E : Env} {i : Tmp} {row : List L} : ∀ {e : Env}, Env.boxOf E i e = some row → ∃ k, E.get k = .v (.pbox i row)
 | [], h => by cases h
 | (k, _) :: e, h => by
  simp only [Env.boxOf] at h
  split at h
  ·rename_i t row' hk
   split at h
   ·rename_i ht
    subst ht
    obtain rfl := (Option.some.inj h).symm
    exact ⟨k, hk⟩
   ·exact boxOf_some h
  ·exact boxOf_some h

theorem outs_get {e : Env} : ∀ (ms : List Mode) (i : Nat) (os : List CV), outs e i ms = some os → ∀ (j : Nat) c, os[j]? = some c → ∃ m, ms[j]? = some m ∧ out e (i + j) m = some c
 | [], i, os, h, j, c, hj => by simp only [outs, Option.some.injEq] at h; subst h; simp at hj
 | m :: ms, i, os, h, j, c, hj => by
  simp only [outs] at h
  split at h
  ·rename_i c1 h1
   split at h
   ·rename_i os' h2
    obtain rfl := (Option.some.inj h).symm
    cases j with
    | zero => simp at hj; subst hj; exact ⟨m, rfl, h1⟩
    | succ j =>
     obtain ⟨m', k1, k2⟩ := outs_get ms (i + 1) os' h2 j c (by simpa using hj)
     exact ⟨m', by simpa using k1, by rw [← k2]; congr 1; omega⟩
   ·cases h
  ·cases h

theorem out_sound {vs : Array Value} (h : Rel arg W I O s vs w) {i : Nat} {c : CV} (ho : out s.e i .M = some c) (hv : vs.getD i undef = arg i) :
  c.plain = true ∧ ∃ k, RepC arg w I c (arg i) (O k) ∧ ((k = i ∧ ∀ j row, s.e.get k ≠ .v (.pbox j row)) ∨ ∃ row, s.e.get k = .v (.pbox i row)) := by
 unfold out at ho
 have hr := h.rep i
 simp only at ho
 split at ho
 ·rename_i l hav
  obtain rfl := (Option.some.inj ho).symm
  rw [hav] at hr
  exact ⟨rfl, i, hv ▸ hr, .inl ⟨rfl, fun j row he => by rw [hav] at he; cases he⟩⟩
 ·rename_i ls hav
  obtain rfl := (Option.some.inj ho).symm
  rw [hav] at hr
  exact ⟨rfl, i, hv ▸ hr, .inl ⟨rfl, fun j row he => by rw [hav] at he; cases he⟩⟩
 ·rename_i row hav
  obtain rfl := (Option.some.inj ho).symm
  rw [hav] at hr
  exact ⟨rfl, i, hv ▸ hr, .inl ⟨rfl, fun j row he => by rw [hav] at he; cases he⟩⟩
 ·split at ho
  ·rename_i row hb
   obtain rfl := (Option.some.inj ho).symm
   obtain ⟨k, hk⟩ := boxOf_some hb
   refine ⟨rfl, k, ?_, .inr ⟨row, hk⟩⟩
   have hrk := h.rep k
   rw [hk] at hrk
   obtain ⟨b, cs, e, _, q1, q2, q3, q4, q5⟩ := hrk
   exact ⟨cs, q5, q3, q4.mono (fun _ h => h) fun x hx => hx.1⟩
  ·cases ho
 ·cases ho

theorem params_get : ∀ (cs : List CV) (i : Nat) (t : Tmp), (params i cs).get t = if i ≤ t then (match cs[t - i]? with | some c => .v c | none => .bad) else .bad
 | [], i, t => by simp [params, Env.get]
 | c :: cs, i, t => by
  simp only [params, Env.get]
  by_cases h : i = t
  ·subst h; simp
  ·rw [if_neg h, params_get cs (i + 1) t]
   by_cases h2 : i ≤ t
   ·have h1 : i < t := Nat.lt_of_le_of_ne h2 h
    rw [if_pos h2, if_pos (Nat.succ_le_of_lt h1)]
    obtain ⟨k, rfl⟩ := Nat.exists_eq_add_of_lt h1
    have e1 : i + k + 1 - i = k + 1 := by omega
    have e2 : i + k + 1 - (i + 1) = k := by omega
    rw [e1, e2]; simp
   ·rw [if_neg h2, if_neg (show ¬ i + 1 ≤ t by omega)]

/-- Function f is turned to vf. -/
def Comp (P : Program) (f : FuncId) (vf : VFn) : Prop :=
 ∃ fn c lv, (P.funcs[f]? = some fn ∧ fn.name ≠ "runtime.NumGoroutine") ∧ fn.body = some c ∧ compC P (fun t => vf.sig.modes[t]? == some .M) fn.ntmps c lv = some vf.body ∧ fn.results.toList.mapM (compRes P) = some vf.res

/-- A function turned; 'lv' tells the slots that are kept. -/
def compFn (P : Program) (g : Sig) (lv : VC) (fn : Func) : Option VFn :=
 match fn.body, fn.results.toList.mapM (compRes P) with
 | some c, some rs => if fn.name = "runtime.NumGoroutine" then none else (compC P (fun t => g.modes[t]? == some .M) fn.ntmps c lv).map fun b => ⟨g, b, rs⟩
 | _, _ => none
theorem compFn_comp {f : FuncId} {fn : Func} {g : Sig} {vf : VFn} (hf : P.funcs[f]? = some fn) {lv : VC} (h : compFn P g lv fn = some vf) : Comp P f vf ∧ vf.sig = g := by
 unfold compFn at h
 split at h
 ·rename_i c rs hb hr
  split at h
  ·cases h
  ·rename_i hn
   obtain ⟨b, h1, rfl⟩ := map_some h
   exact ⟨⟨fn, c, _, ⟨hf, hn⟩, hb, h1, hr⟩, rfl⟩
 ·cases h
theorem Comp.call {f : FuncId} {vf : VFn} (h : Comp P f vf) : Callable P f := by
 obtain ⟨fn, c, lv, ⟨hf, hn⟩, hb, _⟩ := h
 exact ⟨fn, hf, by rw [hb]; rfl, hn⟩

theorem fn_sound {f : FuncId} {vf : VFn} {n : Nat} {cs res os : List CV} (hc : Comp P f vf) (hK : Knows P W G F) (hv : vfn G F n vf cs = some (res, os)) :
  Answers P W f cs res os ∧ (vf.sig.own = true → res.all CV.free = true ∧ os.all CV.free = true) := by
 obtain ⟨fn, c, lv, ⟨hf, _⟩, hb, hcomp, hres⟩ := hc
 have core : ∃ x e s2, ex G F n vf.body (params 0 cs) = some (x, e) ∧ (x = .normal ∨ x = .ret) ∧ (RS.mk e []).results vf.res = some (res, s2) ∧ outs s2.e 0 vf.sig.modes = some os ∧ (vf.sig.own = false ∨ (res.all CV.free = true ∧ os.all CV.free = true)) := by
  have tail : ∀ e, (match (RS.mk e []).results vf.res with | some (cs, s) => (match outs s.e 0 vf.sig.modes with | some os => if vf.sig.own = false ∨ (cs.all CV.free ∧ os.all CV.free) then some (cs, os) else none | none => none) | none => none) = some (res, os) →
    ∃ s2, (RS.mk e []).results vf.res = some (res, s2) ∧ outs s2.e 0 vf.sig.modes = some os ∧ (vf.sig.own = false ∨ (res.all CV.free = true ∧ os.all CV.free = true)) := by
   intro e he
   split at he
   ·rename_i cs1 s1 h1
    split at he
    ·rename_i os1 h2
     obtain ⟨h3, he⟩ := ite_some he
     simp only [Prod.mk.injEq] at he
     obtain ⟨rfl, rfl⟩ := he
     exact ⟨s1, h1, h2, h3⟩
    ·cases he
   ·cases he
  unfold vfn at hv
  split at hv
  ·rename_i e he
   obtain ⟨s2, k⟩ := tail e hv
   exact ⟨_, e, s2, he, .inl rfl, k⟩
  ·rename_i e he
   obtain ⟨s2, k⟩ := tail e hv
   exact ⟨_, e, s2, he, .inr rfl, k⟩
  ·cases hv
 obtain ⟨x, e, s2, hex, hx, hrs, hos, hown⟩ := core
 refine ⟨?_, fun ho => hown.resolve_left (by simp [ho])⟩
 intro w I A us Q hbel hold hilt hlen hA hAd hrep hQ
 refine calls_of_wp hf hb ?_
 let a0 : Act := { tmps := us ++ Array.replicate (fn.ntmps - us.size) undef, defers := [] }
 have hget : ∀ t, a0.tmps.getD t undef = us.getD t undef := by
  intro t
  simp only [a0, Array.getD_eq_getD_getElem?, Array.getElem?_append, Array.getElem?_replicate]
  split
  ·rfl
  ·rename_i h
   rw [Array.getElem?_eq_none (by omega)]
   split <;> rfl
 let argv : Tmp → Value := fun t => us.getD t undef
 have hrel : Rel argv W I (fun t b => A t b) ⟨params 0 cs, []⟩ a0.tmps w := by
  refine ⟨hbel, hold, hilt, fun t b hb => (hA t b hb).1, fun t b hb => (hA t b hb).2, hAd, fun t => ?_⟩
  rw [params_get, if_pos (Nat.zero_le _), hget]
  cases hc' : cs[t - 0]? with
  | none => trivial
  | some c' => exact hrep t c' (by simpa using hc') argv
 refine ex_sound (pm := fun t => vf.sig.modes[t]? == some .M) hK c lv vf.body I _ (params 0 cs) e x a0 w _ hcomp hex hrel (by simp only [a0, Array.size_append, Array.size_replicate]; omega) (fun t _ => hget t) fun a' w' hcome => ?_
 obtain ⟨I1, O1, k1, k2, k3, k4, k5⟩ := hcome
 obtain ⟨O2, D, r1, r2, r3, r4, r5, r6, r7, r8⟩ := results_sound fn.results.toList vf.res res O1 ⟨e, []⟩ s2 hres k3 hrs
 let vals : Array Value := fn.results.map (resVal P w' a'.tmps)
 have hmap : (fn.results.mapM (resRun a'.tmps)).run P w' = .ok vals w' := run_mapM fun rv hrv => r3 rv (by simpa using hrv)
 have hvs : vals.size = res.length := by simp [vals, r2]
 let v : Value := if h : vals.size = 1 then vals[0] else .tuple vals
 have hrun : (results fn a'.tmps).run P w' = .ok v w' := by
  have : results fn a'.tmps = (do let vs ← fn.results.mapM (resRun a'.tmps); pure (if h : vs.size = 1 then vs[0] else .tuple vs)) := rfl
  rw [this, Sem.run_bind, hmap, Result.andThen_ok]
  rfl
 have hgetv : ∀ (j : Nat) c, res[j]? = some c → ∃ u, vals[j]? = some u ∧ c.plain = true ∧ RepC argv w' I1 c u (D j) := by
  intro j c hj
  obtain ⟨rv, q1, q2, q3⟩ := r8 j c hj
  exact ⟨_, by simp only [vals, Array.getElem?_map]; rw [← Array.getElem?_toList, q1]; rfl, q2, q3⟩
 -- where the lent arguments lie
 have hout : ∀ (j : Nat) c, os[j]? = some c → c = .gone ∨ (c.plain = true ∧ ∃ k, RepC argv w' I1 c (argv j) (O2 k) ∧ ((k = j ∧ ∀ i row, s2.e.get k ≠ .v (.pbox i row)) ∨ ∃ row, s2.e.get k = .v (.pbox j row))) := by
  intro j c hj
  obtain ⟨m, q1, q2⟩ := outs_get vf.sig.modes 0 os hos j c hj
  rw [Nat.zero_add] at q2
  cases m with
  | M =>
   refine .inr (out_sound r1 q2 ?_)
   rw [k5 j (by simp [q1]), hget]
  | V => simp only [out, Option.some.injEq] at q2; exact .inl q2.symm
  | O => simp only [out, Option.some.injEq] at q2; exact .inl q2.symm
 let A' : Nat → Nat → Prop := fun j b => ∃ k, O2 k b ∧ ((k = j ∧ ∀ i row, s2.e.get k ≠ .v (.pbox i row)) ∨ ∃ row, s2.e.get k = .v (.pbox j row))
 have hafter : After W w I A us res os v w' I1 (fun b => ∃ j, D j b) A' := by
  refine ⟨k3.bel, k4.imm, k3.ilt, k4.size, fun b hb hno => k4.kept b hb hno, fun b hb => ?_, fun b hb => ?_, fun j b hb => ?_, fun j j' b hb hb' => ?_, fun arg' => ?_, fun j c hj arg' => ?_⟩
  ·rcases hb with ⟨j, hb⟩ | ⟨j, k, hb, _⟩ | hb
   ·exact k4.got b (.inl (r4 j b hb))
   ·exact k4.got b (.inl ⟨k, r5 k b hb⟩)
   ·exact k4.got b (.inr hb)
  ·obtain ⟨j, hb⟩ := hb
   obtain ⟨t, ht⟩ := r4 j b hb
   exact ⟨k3.olt t b ht, k3.notI t b ht, fun j' ⟨k, hk, _⟩ => r6 k b hk j hb⟩
  ·obtain ⟨k, hk, _⟩ := hb
   exact ⟨r1.olt k b hk, r1.notI k b hk⟩
  ·obtain ⟨k, hk, q⟩ := hb
   obtain ⟨k', hk', q'⟩ := hb'
   obtain rfl := r1.disj k k' b hk hk'
   rcases q with ⟨rfl, q⟩ | ⟨row, q⟩ <;> rcases q' with ⟨rfl, q'⟩ | ⟨row', q'⟩
   ·rfl
   ·exact absurd q' (q _ _)
   ·exact absurd q (q' _ _)
   ·rw [q] at q'
    simp only [AV.v.injEq, CV.pbox.injEq] at q'
    exact q'.1
  ·have htup : RepT arg' w' I1 res (.tuple vals) (fun b => ∃ j, D j b) := by
    refine ⟨vals, rfl, hvs, D, fun j b hb => ⟨j, hb⟩, r7, fun j c hj => ?_⟩
    obtain ⟨u, q1, q2, q3⟩ := hgetv j c hj
    exact ⟨u, q1, q3.any q2⟩
   unfold RepR
   split
   ·rename_i c
    obtain ⟨u, q1, q2, q3⟩ := hgetv 0 c rfl
    have hs1 : vals.size = 1 := by rw [hvs]; rfl
    have hv : v = u := by
     simp only [v, dif_pos hs1]
     rw [Array.getElem?_eq_getElem (by omega)] at q1
     exact Option.some.inj q1
    rw [hv]
    exact (q3.any q2).mono (fun _ h => h) fun b hb => ⟨0, hb⟩
   ·rename_i hne
    have hs1 : vals.size ≠ 1 := by
     rw [hvs]
     intro h1
     match res, h1, hne with
     | [c], _, hne => exact hne c rfl
    have hv : v = .tuple vals := by simp only [v, dif_neg hs1]
    rw [hv]
    exact htup
  ·rcases hout j c hj with rfl | ⟨q1, k, q2, q3⟩
   ·trivial
   ·exact (q2.any q1).mono (fun _ h => h) fun b hb => ⟨k, hb, q3⟩
 rcases hx with rfl | rfl
 ·exact ⟨by rw [k1], v, hrun, hQ v w' I1 _ A' hafter⟩
 ·exact ⟨by rw [k1], v, hrun, hQ v w' I1 _ A' hafter⟩

end Go.VS

/- All functions together: what each answers, without a limit on how deep it goes. -/
namespace Go.VS
open Go Go.RowKit
set_option linter.unusedSimpArgs false
set_option linter.unusedVariables false

variable {P : Program} {G : Sigs} {F F' : Fns} {s s' : RS}

/-- What holds of F holds by finitely many of its answers. -/
def Fin (F : Fns) (X : Fns → Prop) : Prop := ∃ l : List (FuncId × List CV × (List CV × List CV)), (∀ q ∈ l, F q.1 q.2.1 = some q.2.2) ∧ ∀ F' : Fns, (∀ q ∈ l, F' q.1 q.2.1 = some q.2.2) → X F'
theorem Fin.all {X : Fns → Prop} (h : ∀ F', X F') : Fin F X := ⟨[], fun q h => by simp at h, fun F' _ => h F'⟩
theorem Fin.mono {X Y : Fns → Prop} (h : Fin F X) (hy : ∀ F', X F' → Y F') : Fin F Y := by
 obtain ⟨l, h1, h2⟩ := h
 exact ⟨l, h1, fun F' h => hy F' (h2 F' h)⟩
theorem Fin.and {X Y : Fns → Prop} (h : Fin F X) (k : Fin F Y) : Fin F (fun F' => X F' ∧ Y F') := by
 obtain ⟨l, h1, h2⟩ := h
 obtain ⟨m, k1, k2⟩ := k
 refine ⟨l ++ m, fun q hq => ?_, fun F' hq => ⟨h2 F' fun q h => hq q (List.mem_append_left _ h), k2 F' fun q h => hq q (List.mem_append_right _ h)⟩⟩
 rcases List.mem_append.1 hq with h | h
 ·exact h1 q h
 ·exact k1 q h

theorem core_fin {f : FuncId} {own : Bool} {ms : List Mode} {xs : List X} {q : List CV × List CV × List Arg × RS} (h : s.core F f own ms xs = some q) : Fin F (fun F' => s.core F' f own ms xs = some q) := by
 unfold RS.core at h
 split at h
 ·rename_i as has
  split at h
  ·rename_i hcond
   split at h
   ·rename_i cs s1 hgiv
    split at h
    ·rename_i res outs hF
     refine ⟨[(f, cs, (res, outs))], fun q hq => ?_, fun F' hq => ?_⟩
     ·simp at hq; subst hq; exact hF
     ·have hF' := hq (f, cs, (res, outs)) (by simp)
      unfold RS.core
      simp only [has, if_pos hcond, hgiv, hF']
      exact h
    ·cases h
   ·cases h
  ·cases h
 ·cases h
theorem call_fin {f : FuncId} {xs : List X} {q : List CV × RS} (h : s.call G F f xs = some q) : Fin F (fun F' => s.call G F' f xs = some q) := by
 unfold RS.call at h
 split at h
 ·rename_i g hg
  split at h
  ·rename_i hle
   split at h
   ·rename_i res outs as s2 hc
    refine (core_fin hc).mono fun F' h' => ?_
    unfold RS.call
    rw [hg]
    simp only [hle, h']
    exact h
   ·cases h
  ·rename_i j t hle
   split at h
   ·rename_i res outs as s2 hc
    refine (core_fin hc).mono fun F' h' => ?_
    unfold RS.call
    rw [hg]
    simp only [hle, h']
    exact h
   ·cases h
 ·cases h
theorem vop_fin {o : VOp} (h : vop G F s o = some s') : Fin F (fun F' => vop G F' s o = some s') := by
 cases o with
 | callD d x args =>
  simp only [vop] at h
  split at h
  ·rename_i f vs hl
   split at h
   ·rename_i c s2 hc
    exact (call_fin hc).mono fun F' h' => by simp only [vop, hl, h']; exact h
   ·rename_i res s2 hne hc
    refine (call_fin hc).mono fun F' h' => ?_
    simp only [vop, hl, h']
    exact h
   ·cases h
  ·rename_i f0 vals0 hl
   split at h
   ·rename_i r hr
    split at h
    ·rename_i f vals hg
     split at h
     ·rename_i hcond
      split at h
      ·rename_i res s2 hc
       refine (call_fin hc).mono fun F' h' => ?_
       simp only [vop, hl, hr, hg, if_pos hcond, h']
       exact h
      ·cases h
     ·cases h
    ·cases h
   ·cases h
  ·cases h
 | call d f args =>
  simp only [vop] at h
  split at h
  ·rename_i c s2 hc
   exact (call_fin hc).mono fun F' h' => by simp only [vop, h']; exact h
  ·rename_i res s2 hne hc
   refine (call_fin hc).mono fun F' h' => ?_
   simp only [vop, h']
   exact h
  ·cases h
 | _ => exact .all fun F' => h
theorem gop_fin {g : GOp} (h : gop G F s g = some s') : Fin F (fun F' => gop G F' s g = some s') := by
 obtain ⟨gd, o⟩ := g
 unfold gop at h ⊢
 cases gd with
 | none => exact vop_fin h
 | some tw =>
  obtain ⟨t, want⟩ := tw
  simp only at h ⊢
  cases hav : s.e.get t with
  | un => rw [hav] at h; exact .all fun F' => h
  | v c =>
   rw [hav] at h
   cases c with
   | leaf l =>
    cases l with
    | bool b =>
     simp only at h ⊢
     by_cases hb : b = want
     ·rw [if_pos hb] at h
      simp only [if_pos hb]
      exact vop_fin h
     ·rw [if_neg hb] at h
      simp only [if_neg hb]
      exact .all fun F' => h
    | _ => cases h
   | _ => cases h
  | _ => rw [hav] at h; cases h
theorem gops_fin : ∀ {gs : List GOp} {s s' : RS}, gops G F gs s = some s' → Fin F (fun F' => gops G F' gs s = some s')
 | [], s, s', h => .all fun F' => h
 | g :: gs, s, s', h => by
  simp only [gops] at h
  split at h
  ·rename_i s1 h1
   exact ((gop_fin h1).and (gops_fin h)).mono fun F' ⟨k1, k2⟩ => by simp only [gops, k1]; exact k2
  ·cases h

theorem stage_fin {S T : RS} {k : Nat} : ∀ {qs : List DOp}, stage G F S T k qs → Fin F (fun F' => stage G F' S T k qs)
 | [], h => .all fun F' => h
 | q :: qs, h => by
  obtain ⟨h1, h2⟩ := h
  refine (Fin.and (X := fun F' => q.calm = true → q.lo ≤ k → k ≤ q.hi → match q.o.o.dst with
   | some d => T.e.get d = S.e.get d ∧ gop G F' T q.o = some (T.put d (S.e.get d))
   | none => False) ?_ (stage_fin h2)).mono fun F' hh => hh
  by_cases hc : q.calm = true ∧ q.lo ≤ k ∧ k ≤ q.hi
  ·have := h1 hc.1 hc.2.1 hc.2.2
   split at this
   ·rename_i d hd
    exact (gop_fin this.2).mono fun F' k' _ _ _ => by simp only [hd]; exact ⟨this.1, k'⟩
   ·exact this.elim
  ·exact .all fun F' a b c => absurd ⟨a, b, c⟩ hc
theorem runL_fin {S : RS} {all : List DOp} : ∀ {qs : List DOp} {k : Nat} {T s' : RS}, runL G F S all qs k T = some s' → Fin F (fun F' => runL G F' S all qs k T = some s')
 | [], k, T, s', h => by
  simp only [runL] at h
  split at h
  ·rename_i hs
   exact (stage_fin hs).mono fun F' hs' => by simp only [runL, if_pos hs']; exact h
  ·cases h
 | q :: qs, k, T, s', h => by
  simp only [runL] at h
  split at h
  ·rename_i hc
   exact (runL_fin h).mono fun F' h' => by simp only [runL, if_pos hc]; exact h'
  ·rename_i hc
   split at h
   ·rename_i hs
    split at h
    ·rename_i T' hT
     exact (((stage_fin hs).and (gop_fin hT)).and (runL_fin h)).mono fun F' ⟨⟨k1, k2⟩, k3⟩ => by simp only [runL, if_neg hc, if_pos k1, k2]; exact k3
    ·cases h
   ·cases h
theorem draw_fin {qs : List DOp} {s s' : RS} (h : draw G F qs s = some s') : Fin F (fun F' => draw G F' qs s = some s') := by
 unfold draw at h
 split at h
 ·rename_i S hS
  split at h
  ·rename_i hc
   exact ((gops_fin hS).and (runL_fin h)).mono fun F' ⟨k1, k2⟩ => by unfold draw; simp only [k1, if_pos hc]; exact k2
  ·cases h
 ·cases h

theorem iter_fin {n : Nat} {f : Fns → Nat → Env → Option (VX × Env)} (hf : ∀ e r, f F n e = some r → Fin F (fun F' => ∀ n', n ≤ n' → f F' n' e = some r)) : ∀ (m : Nat) (e : Env) (r : VX × Env), iter (f F n) m e = some r → Fin F (fun F' => ∀ n' m', n ≤ n' → m ≤ m' → iter (f F' n') m' e = some r)
 | 0, e, r, h => by simp [iter] at h
 | m + 1, e, r, h => by
  simp only [iter] at h
  split at h
  ·rename_i e1 h1
   refine ((hf e _ h1).and (iter_fin hf m e1 r h)).mono fun F' ⟨k1, k2⟩ n' m' hn hm => ?_
   obtain ⟨m'', rfl⟩ : ∃ m'', m' = m'' + 1 := ⟨m' - 1, by omega⟩
   simp only [iter, k1 n' hn]
   exact k2 n' m'' hn (by omega)
  ·rename_i hne
   refine (hf e r h).mono fun F' k n' m' hn hm => ?_
   obtain ⟨m'', rfl⟩ : ∃ m'', m' = m'' + 1 := ⟨m' - 1, by omega⟩
   simp only [iter, k n' hn]
   split
   ·rename_i e1 he
    obtain rfl := Option.some.inj he
    exact absurd h (hne e1)
   ·rfl

theorem ex_fin {n : Nat} : ∀ (c : VC) (e : Env) (r : VX × Env), ex G F n c e = some r → Fin F (fun F' => ∀ n', n ≤ n' → ex G F' n' c e = some r) := by
 intro c
 induction c with
 | skip => intro e r h; exact .all fun F' n' _ => h
 | exit id => intro e r h; exact .all fun F' n' _ => h
 | ret => intro e r h; exact .all fun F' n' _ => h
 | region gs live =>
  intro e r h
  simp only [ex] at h
  split at h
  ·rename_i s1 h1
   exact (gops_fin h1).mono fun F' k n' _ => by simp only [ex, k]; exact h
  ·cases h
 | draw qs live =>
  intro e r h
  simp only [ex] at h
  split at h
  ·rename_i s1 h1
   exact (draw_fin h1).mono fun F' k n' _ => by simp only [ex, k]; exact h
  ·cases h
 | seq a b iha ihb =>
  intro e r h
  simp only [ex] at h
  split at h
  ·rename_i e1 h1
   exact ((iha e _ h1).and (ihb e1 r h)).mono fun F' ⟨k1, k2⟩ n' hn => by simp only [ex, k1 n' hn]; exact k2 n' hn
  ·rename_i hne
   refine (iha e r h).mono fun F' k n' hn => ?_
   simp only [ex, k n' hn]
   split
   ·rename_i e1 he
    obtain rfl := Option.some.inj he
    exact absurd h (hne e1)
   ·rfl
 | cond x a b iha ihb =>
  intro e r h
  simp only [ex] at h
  split at h
  ·rename_i t ht
   cases t with
   | true => exact (iha e r h).mono fun F' k n' hn => by simp only [ex, ht]; exact k n' hn
   | false => exact (ihb e r h).mono fun F' k n' hn => by simp only [ex, ht]; exact k n' hn
  ·cases h
 | block id b ih =>
  intro e r h
  simp only [ex] at h
  split at h
  ·rename_i id' e1 h1
   exact (ih e _ h1).mono fun F' k n' hn => by simp only [ex, k n' hn]; exact h
  ·rename_i hne
   refine (ih e r h).mono fun F' k n' hn => ?_
   simp only [ex, k n' hn]
   split
   ·rename_i id' e1 he
    obtain rfl := Option.some.inj he
    exact absurd h (hne id' e1)
   ·rfl
 | loop b ih =>
  intro e r h
  simp only [ex] at h ⊢
  exact (iter_fin (f := fun F n => ex G F n b) (fun e r h => ih e r h) n e r h).mono fun F' k n' hn => k n' n' hn hn

theorem vfn_fin {n : Nat} {vf : VFn} {cs : List CV} {r : List CV × List CV} (h : vfn G F n vf cs = some r) : Fin F (fun F' => ∀ n', n ≤ n' → vfn G F' n' vf cs = some r) := by
 unfold vfn at h
 split at h
 ·rename_i e he
  exact (ex_fin _ _ _ he).mono fun F' k n' hn => by simp only [vfn, k n' hn]; exact h
 ·rename_i e he
  exact (ex_fin _ _ _ he).mono fun F' k n' hn => by simp only [vfn, k n' hn]; exact h
 ·cases h

/-- The functions' answers, n calls deep. -/
noncomputable def run (G : Sigs) (T : FuncId → Option VFn) (prim : Fns) : Nat → Fns
 | 0, _, _ => none
 | n + 1, f, cs => match T f with
  | some vf => vfn G (run G T prim n) n vf cs
  | none => prim f cs

variable {T : FuncId → Option VFn} {prim : Fns}
theorem run_succ : ∀ (n : Nat) (f : FuncId) (cs : List CV) (r : List CV × List CV), run G T prim n f cs = some r → run G T prim (n + 1) f cs = some r
 | 0, f, cs, r, h => by cases h
 | n + 1, f, cs, r, h => by
  rw [run] at h ⊢
  split at h
  ·rename_i vf hvf
   obtain ⟨l, h1, h2⟩ := vfn_fin h
   exact h2 _ (fun q hq => run_succ n _ _ _ (h1 q hq)) (n + 1) (Nat.le_succ n)
  ·exact h
theorem run_le {n m : Nat} (hn : n ≤ m) {f : FuncId} {cs : List CV} {r : List CV × List CV} (h : run G T prim n f cs = some r) : run G T prim m f cs = some r := by
 induction hn with
 | refl => exact h
 | step _ ih => exact run_succ _ _ _ _ ih

open Classical in
/-- What a function answers, be it as deep as it may. -/
noncomputable def lim (G : Sigs) (T : FuncId → Option VFn) (prim : Fns) : Fns := fun f cs => if h : ∃ n r, run G T prim n f cs = some r then some h.choose_spec.choose else none
theorem lim_of {n : Nat} {f : FuncId} {cs : List CV} {r : List CV × List CV} (h : run G T prim n f cs = some r) : lim G T prim f cs = some r := by
 have hex : ∃ n r, run G T prim n f cs = some r := ⟨n, r, h⟩
 unfold lim
 rw [dif_pos hex]
 have h1 := hex.choose_spec.choose_spec
 have k1 := run_le (Nat.le_max_left n hex.choose) h
 have k2 := run_le (Nat.le_max_right n hex.choose) h1
 rw [k1] at k2
 exact k2.symm
theorem of_lim {f : FuncId} {cs : List CV} {r : List CV × List CV} (h : lim G T prim f cs = some r) : ∃ n, run G T prim n f cs = some r := by
 unfold lim at h
 split at h
 ·rename_i hex
  have h1 := hex.choose_spec.choose_spec
  rw [← Option.some.inj h]
  exact ⟨_, h1⟩
 ·cases h

/-- A function answers what its body answers, the answers of all the others known. -/
theorem lim_fn {f : FuncId} {vf : VFn} {n : Nat} {cs : List CV} {r : List CV × List CV} (hT : T f = some vf) (h : vfn G (lim G T prim) n vf cs = some r) : lim G T prim f cs = some r := by
 obtain ⟨l, h1, h2⟩ := vfn_fin h
 have hm : ∃ m, ∀ q ∈ l, run G T prim m q.1 q.2.1 = some q.2.2 := by
  clear h2
  induction l with
  | nil => exact ⟨0, fun q h => by simp at h⟩
  | cons q l ih =>
   obtain ⟨m, hm⟩ := ih fun q hq => h1 q (by simp [hq])
   obtain ⟨m', hm'⟩ := of_lim (h1 q (by simp))
   refine ⟨max m m', fun q' hq' => ?_⟩
   rcases List.mem_cons.1 hq' with rfl | hq'
   ·exact run_le (Nat.le_max_right _ _) hm'
   ·exact run_le (Nat.le_max_left _ _) (hm q' hq')
 obtain ⟨m, hm⟩ := hm
 refine lim_of (n := max n m + 1) ?_
 rw [run, hT]
 exact h2 _ (fun q hq => run_le (Nat.le_max_right _ _) (hm q hq)) _ (Nat.le_max_left _ _)
theorem lim_prim {f : FuncId} {cs : List CV} {r : List CV × List CV} (hT : T f = none) (h : prim f cs = some r) : lim G T prim f cs = some r :=
 lim_of (n := 1) (by rw [run, hT]; exact h)

/-- What the table answers is so. -/
theorem knows_run {W : World} (hT : ∀ f vf, T f = some vf → Comp P f vf ∧ G f = some vf.sig) (hp : ∀ f g cs res outs, T f = none → G f = some g → prim f cs = some (res, outs) → Answers P W f cs res outs ∧ (g.own = true → res.all CV.free = true ∧ outs.all CV.free = true) ∧ Callable P f) :
  ∀ n, Knows P W G (run G T prim n)
 | 0 => fun f g cs res outs _ h => by cases h
 | n + 1 => fun f g cs res outs hg h => by
  rw [run] at h
  split at h
  ·rename_i vf hvf
   obtain ⟨h1, h2⟩ := hT f vf hvf
   rw [h2] at hg
   obtain rfl := Option.some.inj hg
   obtain ⟨k1, k2⟩ := fn_sound h1 (knows_run hT hp n) h
   exact ⟨k1, k2, h1.call⟩
  ·rename_i hno
   exact hp f g cs res outs hno hg h
theorem lim_answers {W : World} (hT : ∀ f vf, T f = some vf → Comp P f vf ∧ G f = some vf.sig) (hp : ∀ f g cs res outs, T f = none → G f = some g → prim f cs = some (res, outs) → Answers P W f cs res outs ∧ (g.own = true → res.all CV.free = true ∧ outs.all CV.free = true) ∧ Callable P f) {f : FuncId} {g : Sig} {cs res outs : List CV}
  (hg : G f = some g) (h : lim G T prim f cs = some (res, outs)) : Answers P W f cs res outs := by
 obtain ⟨n, hn⟩ := of_lim h
 exact (knows_run hT hp n f g cs res outs hg hn).1

end Go.VS

/- Running a function's code step by step: what is left to do as a list of frames; rules to rewrite by. -/
namespace Go.VS
open Go
set_option linter.unusedSimpArgs false
set_option linter.unusedVariables false

variable {G : Sigs} {F : Fns} {T : FuncId → Option VFn} {prim : Fns}

/-- What is left to do: more code; the end of a block; the next round of a loop. -/
inductive Fr where
 | seq (b : VC)
 | blk (id : Nat)
 | rep (b : VC)
noncomputable def cont (G : Sigs) (F : Fns) (n : Nat) : List Fr → VX → Env → Option (VX × Env)
 | [], x, e => some (x, e)
 | .seq b :: ks, .normal, e => match ex G F n b e with
  | some (x, e') => cont G F n ks x e'
  | none => none
 | .seq _ :: ks, x, e => cont G F n ks x e
 | .blk id :: ks, .exit id', e => if id' = id then cont G F n ks .normal e else cont G F n ks (.exit id') e
 | .blk _ :: ks, x, e => cont G F n ks x e
 | .rep b :: ks, .normal, e => match iter (ex G F n b) n e with
  | some (x, e') => cont G F n ks x e'
  | none => none
 | .rep _ :: ks, x, e => cont G F n ks x e
/-- Code c run on e, then what is left: it ends, so that Q holds. -/
def Run (G : Sigs) (F : Fns) (c : VC) (e : Env) (ks : List Fr) (Q : VX → Env → Prop) : Prop :=
 ∃ n x e' x' e'', ex G F n c e = some (x, e') ∧ cont G F n ks x e' = some (x', e'') ∧ Q x' e''

theorem ex_mono {n n' : Nat} (hn : n ≤ n') {c : VC} {e : Env} {r : VX × Env} (h : ex G F n c e = some r) : ex G F n' c e = some r := by
 obtain ⟨l, h1, h2⟩ := ex_fin c e r h
 exact h2 F h1 n' hn
theorem iter_mono {f f' : Env → Option (VX × Env)} (hf : ∀ e r, f e = some r → f' e = some r) : ∀ {n n' : Nat} {e : Env} {r : VX × Env}, n ≤ n' → iter f n e = some r → iter f' n' e = some r
 | 0, n', e, r, hn, h => by simp [iter] at h
 | n + 1, n', e, r, hn, h => by
  obtain ⟨m, rfl⟩ : ∃ m, n' = m + 1 := ⟨n' - 1, by omega⟩
  simp only [iter] at h ⊢
  split at h
  ·rename_i e1 h1
   rw [hf _ _ h1]
   exact iter_mono hf (by omega) h
  ·rename_i hne
   rw [hf _ _ h]
   split
   ·rename_i e1 he
    obtain rfl := Option.some.inj he
    exact absurd h (hne e1)
   ·rfl
theorem cont_mono {n n' : Nat} (hn : n ≤ n') : ∀ {ks : List Fr} {x : VX} {e : Env} {r : VX × Env}, cont G F n ks x e = some r → cont G F n' ks x e = some r
 | [], x, e, r, h => h
 | k :: ks, x, e, r, h => by
  cases k with
  | seq b =>
   cases x with
   | normal =>
    simp only [cont] at h ⊢
    split at h
    ·rename_i x' e' h1
     rw [ex_mono hn h1]
     exact cont_mono hn h
    ·cases h
   | _ => simp only [cont] at h ⊢; exact cont_mono hn h
  | blk id =>
   cases x with
   | exit id' =>
    simp only [cont] at h ⊢
    split at h
    ·rename_i hh; rw [if_pos hh]; exact cont_mono hn h
    ·rename_i hh; rw [if_neg hh]; exact cont_mono hn h
   | _ => simp only [cont] at h ⊢; exact cont_mono hn h
  | rep b =>
   cases x with
   | normal =>
    simp only [cont] at h ⊢
    split at h
    ·rename_i x' e' h1
     rw [iter_mono (fun e r h => ex_mono hn h) hn h1]
     exact cont_mono hn h
    ·cases h
   | _ => simp only [cont] at h ⊢; exact cont_mono hn h

variable {c a b : VC} {e e' : Env} {ks : List Fr} {Q : VX → Env → Prop}

theorem run_seq : Run G F (.seq a b) e ks Q ↔ Run G F a e (.seq b :: ks) Q := by
 constructor
 ·rintro ⟨n, x, e1, x', e2, h1, h2, h3⟩
  simp only [ex] at h1
  split at h1
  ·rename_i e0 h0
   exact ⟨n, .normal, e0, x', e2, h0, by simp only [cont, h1]; exact h2, h3⟩
  ·rename_i hne
   refine ⟨n, x, e1, x', e2, h1, ?_, h3⟩
   cases x with
   | normal => exact absurd h1 (hne e1)
   | _ => simp only [cont]; exact h2
 ·rintro ⟨n, x, e1, x', e2, h1, h2, h3⟩
  cases x with
  | normal =>
   simp only [cont] at h2
   split at h2
   ·rename_i x0 e0 h0
    exact ⟨n, x0, e0, x', e2, by simp only [ex, h1]; exact h0, h2, h3⟩
   ·cases h2
  | exit id => exact ⟨n, .exit id, e1, x', e2, by simp only [ex, h1], by simpa only [cont] using h2, h3⟩
  | ret => exact ⟨n, .ret, e1, x', e2, by simp only [ex, h1], by simpa only [cont] using h2, h3⟩
theorem run_block {id : Nat} : Run G F (.block id b) e ks Q ↔ Run G F b e (.blk id :: ks) Q := by
 constructor
 ·rintro ⟨n, x, e1, x', e2, h1, h2, h3⟩
  simp only [ex] at h1
  split at h1
  ·rename_i id' e0 h0
   refine ⟨n, .exit id', e0, x', e2, h0, ?_, h3⟩
   simp only [cont]
   split at h1
   ·rename_i hh
    simp only [Option.some.injEq, Prod.mk.injEq] at h1
    obtain ⟨rfl, rfl⟩ := h1
    rw [if_pos hh]; exact h2
   ·rename_i hh
    simp only [Option.some.injEq, Prod.mk.injEq] at h1
    obtain ⟨rfl, rfl⟩ := h1
    rw [if_neg hh]; exact h2
  ·rename_i hne
   refine ⟨n, x, e1, x', e2, h1, ?_, h3⟩
   cases x with
   | exit id' => exact absurd h1 (hne id' e1)
   | _ => simp only [cont]; exact h2
 ·rintro ⟨n, x, e1, x', e2, h1, h2, h3⟩
  cases x with
  | exit id' =>
   simp only [cont] at h2
   split at h2
   ·rename_i hh
    exact ⟨n, .normal, e1, x', e2, by simp only [ex, h1, if_pos hh], h2, h3⟩
   ·rename_i hh
    exact ⟨n, .exit id', e1, x', e2, by simp only [ex, h1, if_neg hh], h2, h3⟩
  | normal => exact ⟨n, .normal, e1, x', e2, by simp only [ex, h1], by simpa only [cont] using h2, h3⟩
  | ret => exact ⟨n, .ret, e1, x', e2, by simp only [ex, h1], by simpa only [cont] using h2, h3⟩
theorem run_skip_seq : Run G F .skip e (.seq b :: ks) Q ↔ Run G F b e ks Q := by
 constructor
 ·rintro ⟨n, x, e1, x', e2, h1, h2, h3⟩
  simp only [ex, Option.some.injEq, Prod.mk.injEq] at h1
  obtain ⟨rfl, rfl⟩ := h1
  simp only [cont] at h2
  split at h2
  ·rename_i x0 e0 h0
   exact ⟨n, x0, e0, x', e2, h0, h2, h3⟩
  ·cases h2
 ·rintro ⟨n, x, e1, x', e2, h1, h2, h3⟩
  exact ⟨n, .normal, e, x', e2, rfl, by simp only [cont, h1]; exact h2, h3⟩
theorem run_skip_blk {id : Nat} : Run G F .skip e (.blk id :: ks) Q ↔ Run G F .skip e ks Q := by
 constructor
 ·rintro ⟨n, x, e1, x', e2, h1, h2, h3⟩
  simp only [ex, Option.some.injEq, Prod.mk.injEq] at h1
  obtain ⟨rfl, rfl⟩ := h1
  exact ⟨n, .normal, _, x', e2, rfl, by simpa only [cont] using h2, h3⟩
 ·rintro ⟨n, x, e1, x', e2, h1, h2, h3⟩
  simp only [ex, Option.some.injEq, Prod.mk.injEq] at h1
  obtain ⟨rfl, rfl⟩ := h1
  exact ⟨n, .normal, _, x', e2, rfl, by simpa only [cont] using h2, h3⟩
theorem run_skip_nil : Run G F .skip e [] Q ↔ Q .normal e := by
 constructor
 ·rintro ⟨n, x, e1, x', e2, h1, h2, h3⟩
  simp only [ex, cont, Option.some.injEq, Prod.mk.injEq] at h1 h2
  obtain ⟨rfl, rfl⟩ := h1
  obtain ⟨rfl, rfl⟩ := h2
  exact h3
 ·intro h; exact ⟨0, .normal, e, .normal, e, rfl, rfl, h⟩
theorem run_exit_seq {id : Nat} : Run G F (.exit id) e (.seq b :: ks) Q ↔ Run G F (.exit id) e ks Q := by
 constructor <;>
 ·rintro ⟨n, x, e1, x', e2, h1, h2, h3⟩
  simp only [ex, Option.some.injEq, Prod.mk.injEq] at h1
  obtain ⟨rfl, rfl⟩ := h1
  exact ⟨n, .exit id, _, x', e2, rfl, by simpa only [cont] using h2, h3⟩
theorem run_exit_rep {id : Nat} : Run G F (.exit id) e (.rep b :: ks) Q ↔ Run G F (.exit id) e ks Q := by
 constructor <;>
 ·rintro ⟨n, x, e1, x', e2, h1, h2, h3⟩
  simp only [ex, Option.some.injEq, Prod.mk.injEq] at h1
  obtain ⟨rfl, rfl⟩ := h1
  exact ⟨n, .exit id, _, x', e2, rfl, by simpa only [cont] using h2, h3⟩
theorem run_exit_blk {id id' : Nat} : Run G F (.exit id) e (.blk id' :: ks) Q ↔ if id = id' then Run G F .skip e ks Q else Run G F (.exit id) e ks Q := by
 split
 ·rename_i hh
  constructor
  ·rintro ⟨n, x, e1, x', e2, h1, h2, h3⟩
   simp only [ex, Option.some.injEq, Prod.mk.injEq] at h1
   obtain ⟨rfl, rfl⟩ := h1
   simp only [cont, if_pos hh] at h2
   exact ⟨n, .normal, _, x', e2, rfl, h2, h3⟩
  ·rintro ⟨n, x, e1, x', e2, h1, h2, h3⟩
   simp only [ex, Option.some.injEq, Prod.mk.injEq] at h1
   obtain ⟨rfl, rfl⟩ := h1
   exact ⟨n, .exit id, _, x', e2, rfl, by simp only [cont, if_pos hh]; exact h2, h3⟩
 ·rename_i hh
  constructor
  ·rintro ⟨n, x, e1, x', e2, h1, h2, h3⟩
   simp only [ex, Option.some.injEq, Prod.mk.injEq] at h1
   obtain ⟨rfl, rfl⟩ := h1
   simp only [cont, if_neg hh] at h2
   exact ⟨n, .exit id, _, x', e2, rfl, h2, h3⟩
  ·rintro ⟨n, x, e1, x', e2, h1, h2, h3⟩
   simp only [ex, Option.some.injEq, Prod.mk.injEq] at h1
   obtain ⟨rfl, rfl⟩ := h1
   exact ⟨n, .exit id, _, x', e2, rfl, by simp only [cont, if_neg hh]; exact h2, h3⟩
theorem run_ret_cons {k : Fr} : Run G F .ret e (k :: ks) Q ↔ Run G F .ret e ks Q := by
 constructor <;>
 ·rintro ⟨n, x, e1, x', e2, h1, h2, h3⟩
  simp only [ex, Option.some.injEq, Prod.mk.injEq] at h1
  obtain ⟨rfl, rfl⟩ := h1
  exact ⟨n, .ret, _, x', e2, rfl, by cases k <;> simpa only [cont] using h2, h3⟩
theorem run_ret_nil : Run G F .ret e [] Q ↔ Q .ret e := by
 constructor
 ·rintro ⟨n, x, e1, x', e2, h1, h2, h3⟩
  simp only [ex, cont, Option.some.injEq, Prod.mk.injEq] at h1 h2
  obtain ⟨rfl, rfl⟩ := h1
  obtain ⟨rfl, rfl⟩ := h2
  exact h3
 ·intro h; exact ⟨0, .ret, e, .ret, e, rfl, rfl, h⟩
/-- A region's end: on with what is left. -/
def RunR (G : Sigs) (F : Fns) (live : List Tmp) (ks : List Fr) (Q : VX → Env → Prop) : Option RS → Prop
 | some s => match s.fin live live with
  | some s' => Run G F .skip s'.e ks Q
  | none => False
 | none => False
theorem run_region {ops : List GOp} {live : List Tmp} : Run G F (.region ops live) e ks Q ↔ RunR G F live ks Q (gops G F ops ⟨e, []⟩) := by
 unfold Run RunR
 simp only [ex]
 constructor
 ·rintro ⟨n, x, e1, x', e2, h1, h2, h3⟩
  split at h1
  ·rename_i s hs
   split at h1
   ·rename_i s' hs'
    simp only [Option.some.injEq, Prod.mk.injEq] at h1
    obtain ⟨rfl, rfl⟩ := h1
    simp only [hs, hs']
    exact ⟨n, _, _, x', e2, rfl, h2, h3⟩
   ·cases h1
  ·cases h1
 ·intro h
  split at h
  ·rename_i s hs
   split at h
   ·rename_i s' hs'
    obtain ⟨n, x, e1, x', e2, h1, h2, h3⟩ := h
    try simp only [ex, Option.some.injEq, Prod.mk.injEq] at h1
    obtain ⟨rfl, rfl⟩ := h1
    exact ⟨n, .normal, s'.e, x', e2, by simp only [hs, hs'], h2, h3⟩
   ·cases h
  ·cases h
theorem run_draw {qs : List DOp} {live : List Tmp} : Run G F (.draw qs live) e ks Q ↔ RunR G F live ks Q (draw G F qs ⟨e, []⟩) := by
 unfold Run RunR
 simp only [ex]
 constructor
 ·rintro ⟨n, x, e1, x', e2, h1, h2, h3⟩
  split at h1
  ·rename_i s hs
   split at h1
   ·rename_i s' hs'
    simp only [Option.some.injEq, Prod.mk.injEq] at h1
    obtain ⟨rfl, rfl⟩ := h1
    simp only [hs, hs']
    exact ⟨n, _, _, x', e2, rfl, h2, h3⟩
   ·cases h1
  ·cases h1
 ·intro h
  split at h
  ·rename_i s hs
   split at h
   ·rename_i s' hs'
    obtain ⟨n, x, e1, x', e2, h1, h2, h3⟩ := h
    try simp only [ex, Option.some.injEq, Prod.mk.injEq] at h1
    obtain ⟨rfl, rfl⟩ := h1
    exact ⟨n, .normal, s'.e, x', e2, by simp only [hs, hs'], h2, h3⟩
   ·cases h
  ·cases h
/-- A branch on what a slot holds. -/
def RunB (P1 P2 : Prop) : Option CV → Prop
 | some (.leaf (.bool t)) => if t = true then P1 else P2
 | _ => False
theorem run_cond {x : X} : Run G F (.cond x a b) e ks Q ↔ RunB (Run G F a e ks Q) (Run G F b e ks Q) ((RS.mk e []).look ((RS.mk e []).val x)) := by
 unfold RunB Run
 simp only [ex]
 constructor
 ·rintro ⟨n, y, e1, x', e2, h1, h2, h3⟩
  split at h1
  ·rename_i t ht
   simp only [ht]
   split at h1
   ·rename_i hh; simp only [hh, if_true]; exact ⟨n, y, e1, x', e2, h1, h2, h3⟩
   ·rename_i hh; simp only [hh, if_false]; exact ⟨n, y, e1, x', e2, h1, h2, h3⟩
  ·cases h1
 ·intro h
  split at h
  ·rename_i t ht
   split at h
   ·rename_i hh
    obtain ⟨n, y, e1, x', e2, h1, h2, h3⟩ := h
    exact ⟨n, y, e1, x', e2, by simp only [ht, hh, if_true]; exact h1, h2, h3⟩
   ·rename_i hh
    obtain ⟨n, y, e1, x', e2, h1, h2, h3⟩ := h
    exact ⟨n, y, e1, x', e2, by simp only [ht, if_neg hh]; exact h1, h2, h3⟩
  ·cases h
theorem run_loop (h : Run G F b e (.rep b :: ks) Q) : Run G F (.loop b) e ks Q := by
 obtain ⟨n, x, e1, x', e2, h1, h2, h3⟩ := h
 cases x with
 | normal =>
  simp only [cont] at h2
  split at h2
  ·rename_i x0 e0 h0
   refine ⟨n + 1, x0, e0, x', e2, ?_, cont_mono (Nat.le_succ n) h2, h3⟩
   simp only [ex, iter, ex_mono (Nat.le_succ n) h1]
   exact iter_mono (fun e r h => ex_mono (Nat.le_succ n) h) (Nat.le_refl _) h0
  ·cases h2
 | exit id =>
  refine ⟨n + 1, .exit id, e1, x', e2, ?_, cont_mono (Nat.le_succ n) (by simpa only [cont] using h2), h3⟩
  simp only [ex, iter, ex_mono (Nat.le_succ n) h1]
 | ret =>
  refine ⟨n + 1, .ret, e1, x', e2, ?_, cont_mono (Nat.le_succ n) (by simpa only [cont] using h2), h3⟩
  simp only [ex, iter, ex_mono (Nat.le_succ n) h1]
theorem run_loop_at {b' : VC} (hb : b = b') (h : Run G F b' e (.rep b :: ks) Q) : Run G F (.loop b) e ks Q := run_loop (hb ▸ h)
theorem run_skip_rep : Run G F .skip e (.rep b :: ks) Q ↔ Run G F (.loop b) e ks Q := by
 constructor
 ·rintro ⟨n, x, e1, x', e2, h1, h2, h3⟩
  simp only [ex, Option.some.injEq, Prod.mk.injEq] at h1
  obtain ⟨rfl, rfl⟩ := h1
  simp only [cont] at h2
  split at h2
  ·rename_i x0 e0 h0
   exact ⟨n, x0, e0, x', e2, by simp only [ex]; exact h0, h2, h3⟩
  ·cases h2
 ·rintro ⟨n, x, e1, x', e2, h1, h2, h3⟩
  exact ⟨n, .normal, e, x', e2, rfl, by simp only [cont]; simp only [ex] at h1; rw [h1]; exact h2, h3⟩

/-- A function's end. -/
def fnEnd (own : Bool) (ms : List Mode) (rs : List RX) (e : Env) : Option (List CV × List CV) :=
 match (RS.mk e []).results rs with
 | some (cs, s) => match outs s.e 0 ms with
  | some os => if own = false ∨ (cs.all CV.free ∧ os.all CV.free) then some (cs, os) else none
  | none => none
 | none => none
def QF (own : Bool) (ms : List Mode) (rs : List RX) (r : List CV × List CV) : VX → Env → Prop
 | .exit _, _ => False
 | _, e => fnEnd own ms rs e = some r
def QE (own : Bool) (ms : List Mode) (rs : List RX) (X : List CV → List CV → Prop) : VX → Env → Prop
 | .exit _, _ => False
 | _, e => ∃ cs os, fnEnd own ms rs e = some (cs, os) ∧ X cs os
theorem lim_runE {f : FuncId} {vf : VFn} {cs : List CV} {X : List CV → List CV → Prop} (hT : T f = some vf) (h : Run G (lim G T prim) vf.body (params 0 cs) [] (QE vf.sig.own vf.sig.modes vf.res X)) : ∃ rs os, lim G T prim f cs = some (rs, os) ∧ X rs os := by
 obtain ⟨n, x, e1, x', e2, h1, h2, h3⟩ := h
 simp only [cont, Option.some.injEq, Prod.mk.injEq] at h2
 obtain ⟨rfl, rfl⟩ := h2
 cases x with
 | normal =>
  obtain ⟨rs, os, h3, h4⟩ := h3
  refine ⟨rs, os, lim_fn (n := n) hT ?_, h4⟩
  unfold vfn
  rw [h1]
  exact h3
 | ret =>
  obtain ⟨rs, os, h3, h4⟩ := h3
  refine ⟨rs, os, lim_fn (n := n) hT ?_, h4⟩
  unfold vfn
  rw [h1]
  exact h3
 | exit id => exact h3.elim
theorem lim_run {f : FuncId} {vf : VFn} {cs : List CV} {r : List CV × List CV} (hT : T f = some vf) (h : Run G (lim G T prim) vf.body (params 0 cs) [] (QF vf.sig.own vf.sig.modes vf.res r)) : lim G T prim f cs = some r := by
 obtain ⟨n, x, e1, x', e2, h1, h2, h3⟩ := h
 simp only [cont, Option.some.injEq, Prod.mk.injEq] at h2
 obtain ⟨rfl, rfl⟩ := h2
 refine lim_fn (n := n) hT ?_
 unfold vfn
 rw [h1]
 cases x with
 | normal => exact h3
 | ret => exact h3
 | exit id => exact h3.elim

end Go.VS
