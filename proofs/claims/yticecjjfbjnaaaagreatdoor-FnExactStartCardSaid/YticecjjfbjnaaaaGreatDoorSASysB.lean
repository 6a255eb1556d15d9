/- Systems: the reference's side. -/
import Derived.Test.YticecjjfbjnaaaaGreatDoorSASysA
namespace Go.Proofs.YticecjjfbjnaaaaGreatDoor.SA
open Go Go.VS Go.Lib
set_option maxRecDepth 10000
set_option maxHeartbeats 8000000
set_option linter.unusedSimpArgs false
set_option linter.unusedVariables false
noncomputable def typeP (t : KType) : Bool := isName t.name && within 0 8 t.size
theorem typesB_eq (l : List KType) : typesB l = ((l.foldlM (gather typeP KType.name) []).isSome && decide ((l.length : Int) ≤ 8)) := by
 rw [gather_fold]
 have e : l.all typeP = ((l.map KType.name).all isName && sizesB l) := by
  rw [Bool.eq_iff_iff]
  simp only [Bool.and_eq_true, List.all_eq_true, List.mem_map, forall_exists_index, and_imp, forall_apply_eq_imp_iff₂, typeP, sizesB]
  exact ⟨fun h => ⟨fun x hx => (h x hx).1, fun x hx => (h x hx).2⟩, fun h x hx => ⟨h.1 x hx, h.2 x hx⟩⟩
 rw [e]
 unfold typesB onceB
 ac_rfl
theorem instB_eq (y : KSys) (i : Int) (x : KInst) : instB y i x = ((instHeadB i x && (((x.names.all isName && onceB x.names) && decide ((x.names.length : Int) ≤ 30)) && (decide (x.vals.length = x.names.length) && (decide ((x.links.length : Int) ≤ 30) && decide ((x.types.length : Int) ≤ 8))))) && (x.vals.all (valZ y.heap) && ((x.links.foldlM (gather (linkP y.insts.length) KLink.name) x.names).isSome && (x.types.foldlM (gather typeP KType.name) []).isSome))) := by
 unfold instB
 rw [linksB_eq, typesB_eq]
 have e : (x.vals.all fun v => isZero v || valB y.heap v) = x.vals.all (valZ y.heap) := rfl
 rw [e]
 ac_rfl
theorem specInstOk (y : KSys) (i : Nat) (x : KInst) (hx : y.insts[i]? = some x) (hw : (KSys.w y : Int) ≤ 1048576) : A 116 [.agg (KSys.row false y), .leaf (.int .i64 i)] = some ([.leaf (.bool (instB y i x))], [.gone, .gone]) := by
 have hxu := insts_at hx
 have hil : i < y.insts.length := (List.getElem?_eq_some_iff.1 hx).1
 obtain ⟨w1, w2, w3, w4⟩ := sysw hw
 have hv := fun (v : KValue) => specValueOk y.heap v (by omega)
 simp only [KInst.w] at hxu
 have hN := l3Names x.names 30 (by omega) (by omega)
 rw [namesAll] at hN
 have hI := specIsName x.lib (by omega)
 have hR := l1In' x.ver 1 1000
 rw [instB_eq]
 have hvl : (x.vals.length : Int) ≤ 1048576 := by omega
 have hvu : (KValue.us x.vals : Int) ≤ 1048576 := by omega
 generalize ((x.names.all isName && onceB x.names) && decide ((x.names.length : Int) ≤ 30)) = b3 at *
 refine run_spec_l8InstOk ?_
 by_cases hall : instHeadB i x = true ∧ b3 = true ∧ x.vals.length = x.names.length ∧ (x.links.length : Int) ≤ 30 ∧ (x.types.length : Int) ≤ 8
 ·obtain ⟨hh, rfl, h3, h4, h5⟩ := hall
  have e1 : (instHeadB i x && (true && (decide (x.vals.length = x.names.length) && (decide ((x.links.length : Int) ≤ 30) && decide ((x.types.length : Int) ≤ 8))))) = true := by simp [hh, h3, h4, h5]
  rw [e1, Bool.true_and]
  rcases Nat.eq_zero_or_pos i with rfl | hpos
  focus
   simp [instHeadB] at hh
   simp (maxSteps := 1000000) (disch := omega) [ip, wr, spec_l8InstOk.b, hx, at_get hx, hh.1, hh.2, hN, h3, h4, h5]
  rotate_left
  focus
   have hn : ¬ i = 0 := by omega
   simp [instHeadB, hn] at hh
   rw [hh.1] at hI
   rw [hh.2] at hR
   simp (maxSteps := 1000000) (disch := omega) [ip, wr, spec_l8InstOk.b, hx, at_get hx, hn, hpos, hI, hR, hN, h3, h4, h5]
  all_goals (
   refine at_all 6 spec_l8InstOk.l0.eq_1 (valZ y.heap) x.vals (by simp) (fun g => ?_) (fun j v hvx hj hp ih => ?_) (fun j v hvx hj hp g => ?_)
   ·rw [g, Bool.true_and]
    simp (maxSteps := 1000000) (disch := omega) [ip, wr, ]
    refine at_foldM (fun e i (s : List ByteArray) => (e.put 8 (.v (.leaf (.int .i64 i)))).put 7 (.v (.leaf (Kstrs true s)))) spec_l8InstOk.l1.eq_1 (gather (linkP y.insts.length) KLink.name) x.links x.names (by simp) (fun s g2 => ?_) (fun j l s s' hl hj hs hf ih => ?_) (fun j l s hl hj hs hf g2 => ?_)
    ·rw [g2, Option.isSome_some, Bool.true_and]
     simp (maxSteps := 1000000) (disch := omega) [ip, wr, ]
     refine at_foldM (fun e i (s : List ByteArray) => (e.put 11 (.v (.leaf (.int .i64 i)))).put 10 (.v (.leaf (Kstrs true s)))) spec_l8InstOk.l2.eq_1 (gather typeP KType.name) x.types [] (by simp) (fun s g3 => ?_) (fun j l s s' hl hj hs hf ih => ?_) (fun j l s hl hj hs hf g3 => ?_)
     ·rw [g3, Option.isSome_some]
      simp (maxSteps := 1000000) (disch := omega) [ip, wr, ]
     ·have hsl := gather_state _ _ _ _ _ hs
      have hlu := types_at hl
      simp only [KType.w] at hlu
      have hsz : (s.length : Int) ≤ 1048576 := by rw [hsl]; simp; omega
      have k1 := specIsName l.name (by omega)
      have k2 := l3In l.name s (by omega)
      have k3 := l1In' l.size 0 8
      rw [gather_at] at hf
      unfold typeP at hf
      split at hf
      ·rename_i hp
       obtain rfl := (Option.some.inj hf).symm
       simp only [Bool.and_eq_true, Bool.not_eq_true'] at hp
       rw [hp.1.1] at k1
       rw [hp.2] at k2
       rw [hp.1.2] at k3
       simp (maxSteps := 1000000) (disch := omega) [ip, wr, hl, at_get hl, k1, k2, k3]
       refine run_env ih ?_
       simp
      ·cases hf
     ·have hsl := gather_state _ _ _ _ _ hs
      have hlu := types_at hl
      simp only [KType.w] at hlu
      have hsz : (s.length : Int) ≤ 1048576 := by rw [hsl]; simp; omega
      have k1 := specIsName l.name (by omega)
      have k2 := l3In l.name s (by omega)
      have k3 := l1In' l.size 0 8
      rw [g3, Option.isSome_none]
      rw [gather_at] at hf
      unfold typeP at hf
      split at hf
      ·cases hf
      ·rename_i hp
       cases p1 : isName l.name <;> rw [p1] at k1 hp
       ·simp (maxSteps := 1000000) (disch := omega) [ip, wr, hl, at_get hl, k1]
       ·cases p2 : decide (l.name ∈ s) <;> rw [p2] at k2 hp
        ·cases p3 : within 0 8 l.size <;> rw [p3] at k3 hp
         ·simp (maxSteps := 1000000) (disch := omega) [ip, wr, hl, at_get hl, k1, k2, k3]
         ·simp at hp
        ·simp (maxSteps := 1000000) (disch := omega) [ip, wr, hl, at_get hl, k1, k2]
    ·have hsl := gather_state _ _ _ _ _ hs
     have hlu := links_at hl
     simp only [KLink.w] at hlu
     have hsz : (s.length : Int) ≤ 1048576 := by rw [hsl]; simp; omega
     have k1 := specIsName l.name (by omega)
     have k2 := l3In l.name s (by omega)
     have k4 := specIsName l.at_ (by omega)
     rw [gather_at] at hf
     unfold linkP at hf
     split at hf
     ·rename_i hp
      obtain rfl := (Option.some.inj hf).symm
      simp only [Bool.and_eq_true, Bool.not_eq_true'] at hp
      rw [hp.1.1] at k1
      rw [hp.2] at k2
      rw [hp.1.2.2] at k4
      have k3 := hp.1.2.1
      simp only [within, decide_eq_true_eq] at k3
      have k5 : ¬ l.inst < 0 := by omega
      have k6 : l.inst < y.insts.length := by omega
      simp (maxSteps := 1000000) (disch := omega) [ip, wr, hl, at_get hl, k1, k2, k4, k5, k6]
      refine run_env ih ?_
      simp
     ·cases hf
    ·have hsl := gather_state _ _ _ _ _ hs
     have hlu := links_at hl
     simp only [KLink.w] at hlu
     have hsz : (s.length : Int) ≤ 1048576 := by rw [hsl]; simp; omega
     have k1 := specIsName l.name (by omega)
     have k2 := l3In l.name s (by omega)
     have k4 := specIsName l.at_ (by omega)
     rw [g2, Option.isSome_none, Bool.false_and]
     rw [gather_at] at hf
     unfold linkP at hf
     split at hf
     ·cases hf
     ·rename_i hp
      cases p1 : isName l.name <;> rw [p1] at k1 hp
      ·simp (maxSteps := 1000000) (disch := omega) [ip, wr, hl, at_get hl, k1]
      ·cases p2 : decide (l.name ∈ s) <;> rw [p2] at k2 hp
       ·by_cases p3 : l.inst < 0
        ·simp (maxSteps := 1000000) (disch := omega) [ip, wr, hl, at_get hl, k1, k2, p3]
        ·by_cases p4 : l.inst < y.insts.length
         ·have p5 : within 0 ((y.insts.length : Int) - 1) l.inst = true := by simp [within]; omega
          rw [p5] at hp
          cases p6 : isName l.at_ <;> rw [p6] at k4 hp
          ·simp (maxSteps := 1000000) (disch := omega) [ip, wr, hl, at_get hl, k1, k2, p3, p4, k4]
          ·simp at hp
         ·simp (maxSteps := 1000000) (disch := omega) [ip, wr, hl, at_get hl, k1, k2, p3, p4]
       ·simp (maxSteps := 1000000) (disch := omega) [ip, wr, hl, at_get hl, k1, k2]
   ·have k0 := vals_at hvx
    have k1 := hv v (by simp only [KValue.w] at k0; omega)
    unfold valZ at hp
    by_cases hz : v.kind = 0 ∧ v.n = 0 ∧ v.s = ⟨#[]⟩
    ·simp (maxSteps := 1000000) (disch := omega) [ip, wr, hvx, at_get hvx, hz]
     refine run_env ih ?_
     simp
    ·have hz' : isZero v = false := isZero_false hz
     rw [hz', Bool.false_or] at hp
     rw [hp] at k1
     have hz2 := ne_zero hz
     simp (maxSteps := 1000000) (disch := omega) [ip, wr, hvx, at_get hvx, hz2, k1]
     refine run_env ih ?_
     simp
   ·have k0 := vals_at hvx
    have k1 := hv v (by simp only [KValue.w] at k0; omega)
    unfold valZ at hp
    simp only [Bool.or_eq_false_iff] at hp
    rw [hp.2] at k1
    rw [g, Bool.false_and]
    have hz2 := ne_zero (v := v) (fun h => by
     have := hp.1
     simp [isZero, h] at this)
    simp (maxSteps := 1000000) (disch := omega) [ip, wr, hvx, at_get hvx, hz2, k1])
 ·have e1 : (instHeadB i x && (b3 && (decide (x.vals.length = x.names.length) && (decide ((x.links.length : Int) ≤ 30) && decide ((x.types.length : Int) ≤ 8))))) = false := by
   cases p1 : instHeadB i x
   ·rfl
   ·cases b3
    ·rfl
    ·by_cases p3 : x.vals.length = x.names.length
     ·by_cases p4 : (x.links.length : Int) ≤ 30
      ·by_cases p5 : (x.types.length : Int) ≤ 8
       ·exact absurd ⟨p1, rfl, p3, p4, p5⟩ hall
       ·simp [p5]
      ·simp [p4]
     ·simp [p3]
  rw [e1, Bool.false_and]
  have rest : instHeadB i x = true → ¬ (b3 = true ∧ x.vals.length = x.names.length ∧ (x.links.length : Int) ≤ 30 ∧ (x.types.length : Int) ≤ 8) := fun h1 h2 => hall ⟨h1, h2.1, h2.2.1, h2.2.2.1, h2.2.2.2⟩
  rcases Nat.eq_zero_or_pos i with rfl | hpos
  ·by_cases p1 : x.lib = ⟨#[]⟩
   ·by_cases p2 : x.ver = 0
    ·have rest := rest (by simp [instHeadB, p1, p2])
     cases b3
     ·simp (maxSteps := 1000000) (disch := omega) [ip, wr, spec_l8InstOk.b, hx, at_get hx, p1, p2, hN]
     ·by_cases p3 : x.vals.length = x.names.length
      ·by_cases p4 : (x.links.length : Int) ≤ 30
       ·have p5 : ¬ (x.types.length : Int) ≤ 8 := fun h => rest ⟨rfl, p3, p4, h⟩
        simp (maxSteps := 1000000) (disch := omega) [ip, wr, spec_l8InstOk.b, hx, at_get hx, p1, p2, hN, p3, p4, p5]
       ·simp (maxSteps := 1000000) (disch := omega) [ip, wr, spec_l8InstOk.b, hx, at_get hx, p1, p2, hN, p3, p4]
      ·simp (maxSteps := 1000000) (disch := omega) [ip, wr, spec_l8InstOk.b, hx, at_get hx, p1, p2, hN, p3]
    ·simp (maxSteps := 1000000) (disch := omega) [ip, wr, spec_l8InstOk.b, hx, at_get hx, p1, p2]
   ·simp (maxSteps := 1000000) (disch := omega) [ip, wr, spec_l8InstOk.b, hx, at_get hx, p1]
  ·have hn : ¬ i = 0 := by omega
   cases p1 : isName x.lib with
   | false =>
    rw [p1] at hI
    simp (maxSteps := 1000000) (disch := omega) [ip, wr, spec_l8InstOk.b, hx, at_get hx, hn, hpos, hI]
   | true =>
    rw [p1] at hI
    cases p2 : within 1 1000 x.ver with
    | false =>
     rw [p2] at hR
     simp (maxSteps := 1000000) (disch := omega) [ip, wr, spec_l8InstOk.b, hx, at_get hx, hn, hpos, hI, hR]
    | true =>
     rw [p2] at hR
     have rest := rest (by simp [instHeadB, hn, p1, p2])
     cases b3
     ·simp (maxSteps := 1000000) (disch := omega) [ip, wr, spec_l8InstOk.b, hx, at_get hx, hn, hpos, hI, hR, hN]
     ·by_cases p3 : x.vals.length = x.names.length
      ·by_cases p4 : (x.links.length : Int) ≤ 30
       ·have p5 : ¬ (x.types.length : Int) ≤ 8 := fun h => rest ⟨rfl, p3, p4, h⟩
        simp (maxSteps := 1000000) (disch := omega) [ip, wr, spec_l8InstOk.b, hx, at_get hx, hn, hpos, hI, hR, hN, p3, p4, p5]
       ·simp (maxSteps := 1000000) (disch := omega) [ip, wr, spec_l8InstOk.b, hx, at_get hx, hn, hpos, hI, hR, hN, p3, p4]
      ·simp (maxSteps := 1000000) (disch := omega) [ip, wr, spec_l8InstOk.b, hx, at_get hx, hn, hpos, hI, hR, hN, p3]
theorem specSysOk (y : KSys) (hw : (KSys.w y : Int) ≤ 1048576) : A 52 [.agg (KSys.row false y)] = some ([.leaf (.bool (sysB y))], [.gone]) := by
 obtain ⟨w1, w2, w3, w4⟩ := sysw hw
 have k1 := l1In' (y.insts.length : Int) 1 12
 have k2 := specHeapOk y.heap w1
 unfold sysB
 refine run_spec_SysOk ?_
 by_cases hall : within 1 12 y.insts.length = true ∧ (y.units.length : Int) ≤ 60 ∧ (y.out.length : Int) ≤ 40 ∧ heapB y.heap = true
 ·obtain ⟨h1, h2, h3, h4⟩ := hall
  rw [h1] at k1 ⊢
  have hheap := h4
  rw [h4] at k2 ⊢
  rw [decide_eq_true h2, decide_eq_true h3]
  simp only [Bool.true_and]
  simp (maxSteps := 1000000) (disch := omega) [ip, wr, spec_SysOk.b, k1, h2, h3, k2]
  refine at_from 3 spec_SysOk.l0.eq_1 (instB y) y.insts (by simp) (fun g => ?_) (fun i x hx hi hp ih => ?_) (fun i x hx hi hp g => ?_)
  ·rw [g]
   simp (maxSteps := 1000000) (disch := omega) [ip, wr, ]
   refine at_all 4 spec_SysOk.l1.eq_1 (unitB y) y.units (by simp) (fun g2 => ?_) (fun i x hx hi hp ih => ?_) (fun i x hx hi hp g2 => ?_)
   ·rw [g2]
    simp (maxSteps := 1000000) (disch := omega) [ip, wr, ]
    refine at_all 5 spec_SysOk.l2.eq_1 (fnB y) y.heap (by simp) (fun g3 => ?_) (fun i x hx hi hp ih => ?_) (fun i x hx hi hp g3 => ?_)
    ·rw [g3]
     simp (maxSteps := 1000000) (disch := omega) [ip, wr, ]
    ·unfold fnB at hp
     by_cases q2 : x.kind = 2
     ·have q3 : lamAt y x.a x.b = true := by simpa [q2] using hp
      have q0 := fn_ge (heap_at' hheap hx) q2
      unfold lamAt at q3
      simp only [Bool.and_eq_true, decide_eq_true_eq] at q3
      obtain ⟨_, q3⟩ := q3
      split at q3
      ·rename_i u hu
       simp only [Bool.and_eq_true, decide_eq_true_eq] at q3
       obtain ⟨_, q3⟩ := q3
       split at q3
       ·rename_i z hz
        have q4 : z.kind = 7 := by simpa using q3
        have u1 := (List.getElem?_eq_some_iff.1 hu).1
        have z1 := (List.getElem?_eq_some_iff.1 hz).1
        have hxu := units_at hu
        simp only [KUnit.w, KProg.w] at hxu
        have a1 : x.a < y.units.length := by omega
        have b1 : x.b < u.prog.nodes.length := by omega
        simp (maxSteps := 1000000) (disch := omega) [ip, wr, hx, at_get hx, q2, q0.1, q0.2, hu, at_get hu, hz, at_get hz, a1, b1, q4]
        refine run_env ih ?_
        simp
       ·cases q3
      ·cases q3
     ·simp (maxSteps := 1000000) (disch := omega) [ip, wr, hx, at_get hx, q2]
      refine run_env ih ?_
      simp
    ·unfold fnB at hp
     simp at hp
     rw [g3]
     have q2 := hp.1
     have q3 := hp.2
     have q0 := fn_ge (heap_at' hheap hx) q2
     by_cases a1 : x.a < y.units.length
     ·have u1 : x.a.toNat < y.units.length := by omega
      have hu : y.units[x.a.toNat]? = some y.units[x.a.toNat] := List.getElem?_eq_getElem u1
      unfold lamAt at q3
      simp only [hu] at q3
      have hxu := units_at hu
      generalize y.units[x.a.toNat] = u at *
      simp only [KUnit.w, KProg.w] at hxu
      by_cases b1 : x.b < u.prog.nodes.length
      ·have z1 : x.b.toNat < u.prog.nodes.length := by omega
       have hz : u.prog.nodes[x.b.toNat]? = some u.prog.nodes[x.b.toNat] := List.getElem?_eq_getElem z1
       rw [hz] at q3
       generalize u.prog.nodes[x.b.toNat] = z at *
       have q4 : ¬ z.kind = 7 := by simpa [q0.1, q0.2] using q3
       simp (maxSteps := 1000000) (disch := omega) [ip, wr, hx, at_get hx, q2, q0.1, q0.2, hu, at_get hu, hz, at_get hz, a1, b1, q4]
      ·simp (maxSteps := 1000000) (disch := omega) [ip, wr, hx, at_get hx, q2, q0.1, q0.2, hu, at_get hu, a1, b1]
     ·simp (maxSteps := 1000000) (disch := omega) [ip, wr, hx, at_get hx, q2, a1]
   ·have hxu := units_at hx
    simp only [KUnit.w] at hxu
    have q2 := specProgOk x.prog (by omega)
    unfold unitB at hp
    simp only [Bool.and_eq_true] at hp
    have q1 := hp.1
    simp only [within, decide_eq_true_eq] at q1
    have q3 : ¬ x.home < 0 := by omega
    have q4 : x.home < y.insts.length := by omega
    rw [hp.2] at q2
    simp (maxSteps := 1000000) (disch := omega) [ip, wr, hx, at_get hx, q3, q4, q2]
    refine run_env ih ?_
    simp
   ·have hxu := units_at hx
    simp only [KUnit.w] at hxu
    have q2 := specProgOk x.prog (by omega)
    rw [g2]
    unfold unitB at hp
    by_cases q3 : x.home < 0
    ·simp (maxSteps := 1000000) (disch := omega) [ip, wr, hx, at_get hx, q3]
    ·by_cases q4 : x.home < y.insts.length
     ·have q5 : within 0 ((y.insts.length : Int) - 1) x.home = true := by simp [within]; omega
      rw [q5, Bool.true_and] at hp
      rw [hp] at q2
      simp (maxSteps := 1000000) (disch := omega) [ip, wr, hx, at_get hx, q3, q4, q2]
     ·simp (maxSteps := 1000000) (disch := omega) [ip, wr, hx, at_get hx, q3, q4]
  ·have q1 := specInstOk y i x hx hw
   rw [hp] at q1
   simp (maxSteps := 1000000) (disch := omega) [ip, wr, q1]
   refine run_env ih ?_
   simp
  ·have q1 := specInstOk y i x hx hw
   rw [hp] at q1
   rw [g]
   simp (maxSteps := 1000000) (disch := omega) [ip, wr, q1]
 ·have hf : (within 1 12 y.insts.length && (decide ((y.units.length : Int) ≤ 60) && (decide ((y.out.length : Int) ≤ 40) && (heapB y.heap && (fromB (instB y) 0 y.insts && (y.units.all (unitB y) && y.heap.all (fnB y))))))) = false := by
   cases p1 : within 1 12 y.insts.length
   ·simp
   ·by_cases p2 : (y.units.length : Int) ≤ 60
    ·by_cases p3 : (y.out.length : Int) ≤ 40
     ·cases p4 : heapB y.heap
      ·simp
      ·exact absurd ⟨p1, p2, p3, p4⟩ hall
     ·simp [p3]
    ·simp [p2]
  rw [hf]
  cases p4 : heapB y.heap <;> rw [p4] at k2
  ·simp (maxSteps := 1000000) (disch := omega) [ip, wr, spec_SysOk.b, k2]
  ·cases p1 : within 1 12 y.insts.length <;> rw [p1] at k1
   ·simp (maxSteps := 1000000) (disch := omega) [ip, wr, spec_SysOk.b, k1, k2]
   ·by_cases p2 : (y.units.length : Int) ≤ 60
    ·by_cases p3 : (y.out.length : Int) ≤ 40
     ·exact absurd ⟨p1, p2, p3, p4⟩ hall
     ·simp (maxSteps := 1000000) (disch := omega) [ip, wr, spec_SysOk.b, k1, p2, p3, k2]
    ·simp (maxSteps := 1000000) (disch := omega) [ip, wr, spec_SysOk.b, k1, p2, k2]
end Go.Proofs.YticecjjfbjnaaaaGreatDoor.SA
