/- What is odd in a source: the parts. -/
import Derived.Test.YthkfnfppihgejaaGreatDoorLNCompA
import Derived.Test.YthkfnfppihgejaaGreatDoorLNFreeA
namespace Go.Proofs.YthkfnfppihgejaaGreatDoor.LN
open Go Go.VS Go.Lib
set_option maxRecDepth 10000
set_option maxHeartbeats 8000000
set_option linter.unusedSimpArgs false
set_option linter.unusedVariables false
theorem lsum_fold {α : Type} : ∀ (ls : List (List α)) (s : Nat), ls.foldl (fun s l => s + l.length) s = s + (ls.map List.length).sum
 | [], s => by simp
 | l :: ls, s => by rw [List.foldl_cons, lsum_fold ls]; simp only [List.map_cons, List.sum_cons]; omega
theorem lflat_fold {α : Type} : ∀ (ls : List (List α)) (s : List α), ls.foldl (fun s l => s ++ l) s = s ++ ls.flatten
 | [], s => by simp
 | l :: ls, s => by rw [List.foldl_cons, lflat_fold ls]; simp
theorem ltake_lens {α : Type} : ∀ (ls : List (List α)) (j : Nat) (l : List α), ls[j]? = some l → ((ls.take j).map List.length).sum + l.length ≤ (ls.map List.length).sum
 | [], j, l, h => by simp at h
 | b :: ls, 0, l, h => by simp at h; subst h; simp
 | b :: ls, j + 1, l, h => by
  have := ltake_lens ls j l (by simpa using h)
  simp only [List.take_succ_cons, List.map_cons, List.sum_cons]
  omega
theorem app_one {α β : Type} (f : α → β) : ∀ (l : List α) (s : List β), l.foldl (fun s d => s ++ [f d]) s = s ++ l.map f
 | [], s => by simp
 | x :: l, s => by rw [List.foldl_cons, app_one f l]; simp
theorem nGrow (n : Nat) (hn : (n : Int) ≤ 1000000000) : A 65 [.leaf (.sl true 2 []), .leaf (.int .i64 n)] = some ([.leaf (.sl true 2 [])], [.gone, .gone]) := by
 refine P_slices_Grow_impl_Note_impl_Note ?_
 simp only [prim_slices_Grow_impl_Note_impl_Note, runGrowNote]
 rw [if_pos ⟨by omega, hn⟩]
theorem nConcat (ls : List (List KNote)) (hl : (ls.length : Int) ≤ 1000) (hs : ((ls.map List.length).sum : Int) ≤ 1000000000) : A 34 [.leaf (.sl false 1 (ls.map fun l => [KNote.sl false l]))] = some ([.leaf (KNote.sl true ls.flatten)], [.gone]) := by
 refine run_slices_Concat_impl_Note_impl_Note ?_
 simp (maxSteps := 1000000) (disch := omega) [ip, wr, slices_Concat_impl_Note_impl_Note.b]
 refine at_fold (fun e i (s : Nat) => (e.put 11 (.v (.leaf (.int .i64 i)))).put 3 (.v (.leaf (.int .i64 s)))) slices_Concat_impl_Note_impl_Note.l0.eq_1 (fun s l => s + l.length) ls 0 (by simp) ?_ (fun i x hx hi ih => ?_)
 ·rw [lsum_fold, Nat.zero_add]
  have hG := nGrow _ hs
  generalize hnn : (ls.map List.length).sum = n at hs hG ⊢
  simp (maxSteps := 1000000) (disch := omega) [ip, wr, hG]
  refine at_fold (fun e i (s : List KNote) => (e.put 27 (.v (.leaf (.int .i64 i)))).put 6 (.v (.leaf (KNote.sl true s)))) slices_Concat_impl_Note_impl_Note.l1.eq_1 (fun s l => s ++ l) ls [] (by simp) ?_ (fun i x hx hi ih => ?_)
  ·rw [lflat_fold, List.nil_append]
   generalize ls.flatten = t
   simp (maxSteps := 1000000) (disch := omega) [ip, wr, ]
  ·rw [lflat_fold, List.nil_append] at ih ⊢
   have ht := ltake_lens ls i x hx
   have hfl : (ls.take i).flatten.length = ((ls.take i).map List.length).sum := List.length_flatten
   have hb : ((ls.take i).flatten.length : Int) + x.length ≤ 1000000000 := by omega
   generalize (ls.take i).flatten = t at *
   simp (maxSteps := 1000000) (disch := omega) [ip, wr, hx, at_get hx]
   refine run_env ih ?_
   simp
 ·have ht := ltake_lens ls i x hx
  rw [lsum_fold, Nat.zero_add] at ih ⊢
  generalize ((ls.take i).map List.length).sum = s at *
  have h0 : ¬ ((s : Int) + x.length < 0) := by omega
  simp (maxSteps := 1000000) (disch := omega) [ip, wr, hx, at_get hx, h0]
  refine run_env ih ?_
  simp
abbrev defR (l : List KDef) : List (List L) := l.map (KDef.row false)
abbrev progR (l : List KProg) : List (List L) := l.map (KProg.row false)
theorem dGrow (n : Nat) (hn : (n : Int) ≤ 1000000000) : A 85 [.leaf (.sl true 3 []), .leaf (.int .i64 n)] = some ([.leaf (.sl true 3 [])], [.gone, .gone]) := by
 refine P_slices_Grow_impl_Def_impl_Def ?_
 simp only [prim_slices_Grow_impl_Def_impl_Def, runGrowDef]
 rw [if_pos ⟨by omega, hn⟩]
theorem dConcat (ls : List (List KDef)) (hl : (ls.length : Int) ≤ 1000) (hs : ((ls.map List.length).sum : Int) ≤ 1000000000) : A 62 [.leaf (.sl false 1 (ls.map fun l => [KDef.sl false l]))] = some ([.leaf (.sl true 3 (defR ls.flatten))], [.gone]) := by
 obtain ⟨T, hT⟩ : ∃ T, ls.flatten = T := ⟨_, rfl⟩
 rw [hT]
 refine run_slices_Concat_impl_Def_impl_Def ?_
 simp (maxSteps := 1000000) (disch := omega) [ip, wr, slices_Concat_impl_Def_impl_Def.b]
 refine at_fold (fun e i (s : Nat) => (e.put 11 (.v (.leaf (.int .i64 i)))).put 3 (.v (.leaf (.int .i64 s)))) slices_Concat_impl_Def_impl_Def.l0.eq_1 (fun s l => s + l.length) ls 0 (by simp) ?_ (fun i x hx hi ih => ?_)
 ·rw [lsum_fold, Nat.zero_add]
  have hG := dGrow _ hs
  generalize hnn : (ls.map List.length).sum = n at hs hG ⊢
  simp (maxSteps := 1000000) (disch := omega) [ip, wr, hG]
  refine at_fold (fun e i (s : List KDef) => (e.put 27 (.v (.leaf (.int .i64 i)))).put 6 (.v (.leaf (.sl true 3 (defR s))))) slices_Concat_impl_Def_impl_Def.l1.eq_1 (fun s l => s ++ l) ls [] (by simp) ?_ (fun i x hx hi ih => ?_)
  ·rw [lflat_fold, List.nil_append, hT]
   simp (maxSteps := 1000000) (disch := omega) [ip, wr, ]
  ·rw [lflat_fold, List.nil_append] at ih ⊢
   have ht := ltake_lens ls i x hx
   have hfl : (ls.take i).flatten.length = ((ls.take i).map List.length).sum := List.length_flatten
   have hb : ((ls.take i).flatten.length : Int) + x.length ≤ 1000000000 := by omega
   generalize (ls.take i).flatten = t at *
   simp (maxSteps := 1000000) (disch := omega) [ip, wr, hx, at_get hx]
   refine run_env ih ?_
   simp
 ·have ht := ltake_lens ls i x hx
  rw [lsum_fold, Nat.zero_add] at ih ⊢
  generalize ((ls.take i).map List.length).sum = s at *
  have h0 : ¬ ((s : Int) + x.length < 0) := by omega
  simp (maxSteps := 1000000) (disch := omega) [ip, wr, hx, at_get hx, h0]
  refine run_env ih ?_
  simp
/-- The programs of a source. -/
def progsOf (s : KSrc) : List KProg := (s.defs ++ s.convs).map KDef.prog
theorem progsOf_len (s : KSrc) : (progsOf s).length = s.defs.length + s.convs.length := by simp [progsOf]
theorem implProgs (s : KSrc) (hw : (KSrc.w s : Int) ≤ 1048576) : A 30 [.box (KSrc.row false s)] = some ([.leaf (.sl true 2 (progR (progsOf s)))], [.box (KSrc.row false s)]) := by
 simp only [KSrc.w] at hw
 have hC := dConcat [s.defs, s.convs] (by simp) (by simp; omega)
 simp only [List.map_cons, List.map_nil, List.flatten_cons, List.flatten_nil, List.append_nil] at hC
 have hlen : ((s.defs ++ s.convs).length : Int) ≤ 2097152 := by simp; omega
 refine run_impl_Src_progs ?_
 unfold progsOf
 generalize s.defs ++ s.convs = D at *
 simp (maxSteps := 1000000) (disch := omega) [ip, wr, impl_Src_progs.b, hC]
 refine at_fold (fun e j (l : List KProg) => (e.put 17 (.v (.leaf (.int .i64 j)))).put 3 (.v (.leaf (.sl true 2 (progR l))))) impl_Src_progs.l0.eq_1 (fun l d => l ++ [d.prog]) D [] (by simp) ?_ (fun j d hd hj ih => ?_)
 ·rw [app_one KDef.prog, List.nil_append]
  simp (maxSteps := 1000000) (disch := omega) [ip, wr, ]
 ·rw [app_one KDef.prog, List.nil_append] at ih ⊢
  have hl2 : ((D.take j).map KDef.prog).length ≤ D.length := by simp; exact Nat.min_le_right _ _
  generalize (D.take j).map KDef.prog = l at *
  simp (maxSteps := 1000000) (disch := omega) [ip, wr, hd, at_get hd]
  refine run_env ih ?_
  simp
theorem specAll (s : KSrc) (hw : (KSrc.w s : Int) ≤ 1048576) : A 21 [.agg (KSrc.row false s)] = some ([.leaf (.sl true 2 (progR (progsOf s)))], [.gone]) := by
 simp only [KSrc.w] at hw
 obtain ⟨name, imports, exports, types, defs, convs⟩ := s
 simp only at hw ⊢
 refine run_spec_l21All ?_
 simp (maxSteps := 1000000) (disch := omega) [ip, wr, spec_l21All.b]
 refine at_fold (fun e j (l : List KProg) => (e.put 4 (.v (.leaf (.int .i64 j)))).put 3 (.v (.leaf (.sl true 2 (progR l))))) spec_l21All.l0.eq_1 (fun l d => l ++ [d.prog]) defs [] (by simp) ?_ (fun j d hd hj ih => ?_)
 ·rw [app_one KDef.prog, List.nil_append]
  have hl0 : ((defs.map KDef.prog).length : Int) ≤ 1048576 := by simp; omega
  generalize hE : defs.map KDef.prog = E at *
  simp (maxSteps := 1000000) (disch := omega) [ip, wr, ]
  refine at_fold (fun e j (l : List KProg) => (e.put 5 (.v (.leaf (.int .i64 j)))).put 3 (.v (.leaf (.sl true 2 (progR l))))) spec_l21All.l1.eq_1 (fun l d => l ++ [d.prog]) convs E (by simp) ?_ (fun j d hd hj ih => ?_)
  ·rw [app_one KDef.prog]
   have e : progsOf ⟨name, imports, exports, types, defs, convs⟩ = E ++ convs.map KDef.prog := by simp [progsOf, hE]
   rw [e]
   simp (maxSteps := 1000000) (disch := omega) [ip, wr, ]
  ·rw [app_one KDef.prog] at ih ⊢
   have hl2 : (E ++ (convs.take j).map KDef.prog).length ≤ E.length + convs.length := by simp; exact Nat.min_le_right _ _
   generalize E ++ (convs.take j).map KDef.prog = l at *
   simp (maxSteps := 1000000) (disch := omega) [ip, wr, hd, at_get hd]
   refine run_env ih ?_
   simp
 ·rw [app_one KDef.prog, List.nil_append] at ih ⊢
  have hl2 : ((defs.take j).map KDef.prog).length ≤ defs.length := by simp; exact Nat.min_le_right _ _
  generalize (defs.take j).map KDef.prog = l at *
  simp (maxSteps := 1000000) (disch := omega) [ip, wr, hd, at_get hd]
  refine run_env ih ?_
  simp
/-- What is free at the root of a right program. -/
def freeP (p : KProg) : List ByteArray := seekF p.nodes p.nodes.length p.root [] []
def usedB (ps : List KProg) : List ByteArray := ps.foldl (fun o p => (freeP p).foldl put1 o) []
noncomputable def setsAll (ps : List KProg) : List ByteArray := ps.foldl (fun o p => (setsB p).foldl put1 o) []
theorem freeP_freeB {p : KProg} (h : progB p = true) : freeB p p.root = freeP p := by
 obtain ⟨_, hroot, hpos⟩ := progB_ok h
 unfold freeB freeP
 rw [if_pos (by rw [h, Bool.and_true]; unfold within; exact decide_eq_true (by omega))]
theorem freeP_len {p : KProg} (h : progB p = true) : (freeP p).length ≤ 400 := by
 rw [← freeP_freeB h]
 exact freeB_length p p.root
theorem setsB_len {p : KProg} (h : progB p = true) : (setsB p).length ≤ 400 := by
 have h1 := setsB_length p
 have h2 := progB_len h
 omega
theorem fold_len (g : KProg → List ByteArray) : ∀ (ps : List KProg) (o : List ByteArray), (∀ p ∈ ps, (g p).length ≤ 400) → (ps.foldl (fun o p => (g p).foldl put1 o) o).length ≤ o.length + 400 * ps.length
 | [], o, _ => by simp
 | p :: ps, o, h => by
  have h1 := put1s_length (g p) o
  have h2 := h p (by simp)
  have h3 := fold_len g ps ((g p).foldl put1 o) fun q hq => h q (by simp [hq])
  simp only [List.foldl_cons, List.length_cons]
  omega
theorem prog_at : ∀ {l : List KDef} {d : KDef}, d ∈ l → KProg.w d.prog ≤ KDef.us l
 | x :: l, d, h => by
  rcases List.mem_cons.1 h with rfl | h
  ·simp only [KDef.us, KDef.w, KProg.w]; omega
  ·have := prog_at h
   simp only [KDef.us]
   omega
/-- What is asked of a right source's programs. -/
structure ProgsOk (s : KSrc) : Prop where
 ok : ∀ p ∈ progsOf s, progB p = true
 w : ∀ p ∈ progsOf s, (KProg.w p : Int) ≤ 1048576
 n : (progsOf s).length ≤ 60
theorem progsOk_of {s : KSrc} (h : srcB s = true) (hw : (KSrc.w s : Int) ≤ 1048576) : ProgsOk s := by
 unfold srcB fewB at h
 simp only [Bool.and_eq_true, decide_eq_true_eq, List.all_eq_true] at h
 simp only [KSrc.w] at hw
 have hmem : ∀ p ∈ progsOf s, ∃ d, (d ∈ s.defs ∨ d ∈ s.convs) ∧ d.prog = p := by
  intro p hp
  unfold progsOf at hp
  obtain ⟨d, hd, rfl⟩ := List.mem_map.1 hp
  exact ⟨d, List.mem_append.1 hd, rfl⟩
 refine ⟨fun p hp => ?_, fun p hp => ?_, ?_⟩
 ·obtain ⟨d, hd, rfl⟩ := hmem p hp
  rcases hd with hd | hd
  ·first | exact h.2.2.2.2.2.2.2.2.2.1 d hd | exact h.2.2.2.2.2.2.2.2.2.2.1 d hd | exact h.2.2.2.2.2.2.2.2.2.2.2.1 d hd
  ·first | exact h.2.2.2.2.2.2.2.2.2.2 d hd | exact h.2.2.2.2.2.2.2.2.2.2.2 d hd | exact h.2.2.2.2.2.2.2.2.2.2.2.2 d hd
 ·obtain ⟨d, hd, rfl⟩ := hmem p hp
  rcases hd with hd | hd
  ·have := prog_at hd; omega
  ·have := prog_at hd; omega
 ·rw [progsOf_len]
  omega
theorem implFreeNames (s : KSrc) (hk : srcB s = true) (hw : (KSrc.w s : Int) ≤ 1048576) : A 29 [.box (KSrc.row false s)] = some ([.leaf (Kstrs true (usedB (progsOf s)))], [.box (KSrc.row false s)]) := by
 have hP := implProgs s hw
 obtain ⟨ok, w, n⟩ := progsOk_of hk hw
 refine run_impl_Src_freeNames ?_
 unfold usedB
 generalize progsOf s = ps at *
 simp (maxSteps := 1000000) (disch := omega) [ip, wr, impl_Src_freeNames.b, hP]
 refine at_fold (fun e j (o : List ByteArray) => (e.put 9 (.v (.leaf (.int .i64 j)))).put 3 (.v (.leaf (Kstrs true o)))) impl_Src_freeNames.l0.eq_1 (fun o p => (freeP p).foldl put1 o) ps [] (by simp) ?_ (fun j p hp hj ih => ?_)
 ·simp (maxSteps := 1000000) (disch := omega) [ip, wr, ]
 ·have hm := List.mem_of_getElem? hp
  have hkp := ok p hm
  obtain ⟨_, hroot, hpos⟩ := progB_ok hkp
  have hF := implFreeR p p.root hkp (by omega) (by omega) (w p hm)
  have hl := freeP_len hkp
  have e : seekF p.nodes p.nodes.length p.root [] [] = freeP p := rfl
  rw [e] at hF
  have ho := fold_len freeP (ps.take j) [] fun q hq => freeP_len (ok q (List.mem_of_mem_take hq))
  rw [List.length_take] at ho
  simp only [List.length_nil] at ho
  generalize (ps.take j).foldl (fun o p => (freeP p).foldl put1 o) [] = o at *
  have hA := implAddOnce o (freeP p) (by omega)
  generalize (freeP p).foldl put1 o = o2 at *
  generalize freeP p = f at *
  obtain ⟨nodes, root⟩ := p
  simp only at hF
  simp (maxSteps := 1000000) (disch := omega) [ip, wr, hp, at_get hp, hF, hA]
  refine run_env ih ?_
  simp
def noteL (k : Int) (l : List ByteArray) : List KNote := l.map fun n => ⟨k, n⟩
theorem implNotesOf (k : Int) (l : List ByteArray) (hl : (l.length : Int) ≤ 1048576) : A 35 [.leaf (.int .i64 k), .leaf (Kstrs false l)] = some ([.leaf (KNote.sl true (noteL k l))], [.gone, .gone]) := by
 refine run_impl_notesOf ?_
 simp (maxSteps := 1000000) (disch := omega) [ip, wr, impl_notesOf.b]
 refine at_fold (fun e j (o : List KNote) => (e.put 10 (.v (.leaf (.int .i64 j)))).put 5 (.v (.leaf (KNote.sl true o)))) impl_notesOf.l0.eq_1 (fun o n => o ++ [⟨k, n⟩]) l [] (by simp) ?_ (fun j n hn hj ih => ?_)
 ·rw [app_one (fun n : ByteArray => (⟨k, n⟩ : KNote)), List.nil_append]
  have e : (l.map fun n : ByteArray => (⟨k, n⟩ : KNote)) = noteL k l := rfl
  rw [e]
  simp (maxSteps := 1000000) (disch := omega) [ip, wr, ]
 ·rw [app_one (fun n : ByteArray => (⟨k, n⟩ : KNote)), List.nil_append] at ih ⊢
  have hl2 : ((l.take j).map fun n : ByteArray => (⟨k, n⟩ : KNote)).length ≤ l.length := by simp; exact Nat.min_le_right _ _
  generalize ((l.take j).map fun n : ByteArray => (⟨k, n⟩ : KNote)) = o at *
  simp (maxSteps := 1000000) (disch := omega) [ip, wr, hn, at_get hn]
  refine run_env ih ?_
  simp
end Go.Proofs.YthkfnfppihgejaaGreatDoor.LN
