/- Sources, as a whole: the program's and the reference's tell the same. -/
import Derived.Test.YthkfnfppihgejaaGreatDoorLNSrcA
namespace Go.Proofs.YthkfnfppihgejaaGreatDoor.LN
open Go Go.VS Go.Lib
set_option maxRecDepth 10000
set_option maxHeartbeats 8000000
set_option linter.unusedSimpArgs false
set_option linter.unusedVariables false
def fewB (s : KSrc) : Bool := decide ((s.imports.length : Int) ≤ 30) && (decide ((s.exports.length : Int) ≤ 30) && (decide ((s.defs.length : Int) ≤ 30) && (decide ((s.types.length : Int) ≤ 8) && decide ((s.convs.length : Int) ≤ 8))))
def unlikeB (s : KSrc) : Bool := onceB s.imports && (onceB s.exports && (onceB (s.types.map KType.name) && (onceB (s.defs.map KDef.name) && (onceB (s.convs.map KDef.name) && !decide (s.name ∈ s.imports)))))
def fitB (s : KSrc) : Bool := inB s.exports (s.defs.map KDef.name) && inB (s.convs.map KDef.name) (s.types.map KType.name)
/-- Is a source right? -/
noncomputable def srcB (s : KSrc) : Bool := isName s.name && (fewB s && (unlikeB s && (fitB s && (s.imports.all isName && (s.exports.all isName && ((s.types.map KType.name).all isName && ((s.defs.map KDef.name).all isName && ((s.convs.map KDef.name).all isName && (sizesB s.types && ((s.defs.all fun d => progB d.prog) && (s.convs.all fun d => progB d.prog)))))))))))
theorem implFew (s : KSrc) : A 55 [.box (KSrc.row false s)] = some ([.leaf (.bool (fewB s))], [.box (KSrc.row false s)]) := by
 obtain ⟨name, imports, exports, types, defs, convs⟩ := s
 refine run_impl_Src_isFew ?_
 simp (maxSteps := 1000000) (disch := omega) [ip, wr, impl_Src_isFew.b, fewB]
 all_goals repeat' ((first | refine runD_cases (fun hcz => ?_) (fun hcz => ?_) | refine gopB_cases (fun hcz => ?_) (fun hcz => ?_) | refine gopB_drawn (fun hcz => ?_) (fun hcz => ?_)) <;> (try simp only [decide_eq_true_eq, decide_eq_false_iff_not, Bool.not_eq_true', Bool.not_eq_false', Bool.not_eq_true, Bool.not_eq_false] at hcz) <;> (try simp (maxSteps := 1000000) (disch := omega) [ip, wr, hcz, fewB]))
theorem implUnlike (s : KSrc) (hw : (KSrc.w s : Int) ≤ 1048576) : A 56 [.box (KSrc.row false s)] = some ([.leaf (.bool (unlikeB s))], [.box (KSrc.row false s)]) := by
 obtain ⟨name, imports, exports, types, defs, convs⟩ := s
 simp only [KSrc.w] at hw
 have h1 := implOnce imports (by omega)
 have h2 := implOnce exports (by omega)
 have h3 := implTypeNames types (by omega)
 have h4 := implOnce (types.map KType.name) (by simp; omega)
 have h5 := implDefNames defs (by omega)
 have h6 := implOnce (defs.map KDef.name) (by simp; omega)
 have h7 := implDefNames convs (by omega)
 have h8 := implOnce (convs.map KDef.name) (by simp; omega)
 have h9 := sContains imports name (by omega)
 unfold unlikeB
 simp only
 generalize onceB imports = b1 at *
 generalize onceB exports = b2 at *
 generalize onceB (types.map KType.name) = b3 at *
 generalize onceB (defs.map KDef.name) = b4 at *
 generalize onceB (convs.map KDef.name) = b5 at *
 generalize decide (name ∈ imports) = b6 at *
 simp only [Kstrs, List.map_map] at h3 h4 h5 h6 h7 h8
 refine run_impl_Src_isUnlike ?_
 simp (maxSteps := 1000000) (disch := omega) [ip, wr, impl_Src_isUnlike.b, h1, h2, h3, h4, h5, h6, h7, h8, h9]
 all_goals repeat' ((first | refine runD_cases (fun hcz => ?_) (fun hcz => ?_) | refine gopB_cases (fun hcz => ?_) (fun hcz => ?_) | refine gopB_drawn (fun hcz => ?_) (fun hcz => ?_)) <;> (try simp only [decide_eq_true_eq, decide_eq_false_iff_not, Bool.not_eq_true', Bool.not_eq_false', Bool.not_eq_true, Bool.not_eq_false] at hcz) <;> (try simp (maxSteps := 1000000) (disch := omega) [ip, wr, hcz, h1, h2, h3, h4, h5, h6, h7, h8, h9]))
theorem implFit (s : KSrc) (hw : (KSrc.w s : Int) ≤ 1048576) : A 57 [.box (KSrc.row false s)] = some ([.leaf (.bool (fitB s))], [.box (KSrc.row false s)]) := by
 obtain ⟨name, imports, exports, types, defs, convs⟩ := s
 simp only [KSrc.w] at hw
 have h1 := implDefNames defs (by omega)
 have h2 := implAreIn exports (defs.map KDef.name) (by omega) (by simp; omega)
 have h3 := implDefNames convs (by omega)
 have h4 := implTypeNames types (by omega)
 have h5 := implAreIn (convs.map KDef.name) (types.map KType.name) (by simp; omega) (by simp; omega)
 unfold fitB
 simp only
 generalize inB exports (defs.map KDef.name) = b1 at *
 generalize inB (convs.map KDef.name) (types.map KType.name) = b2 at *
 simp only [Kstrs, List.map_map] at h1 h2 h3 h4 h5
 refine run_impl_Src_isFit ?_
 simp (maxSteps := 1000000) (disch := omega) [ip, wr, impl_Src_isFit.b, h1, h2, h3, h4, h5]
 all_goals repeat' ((first | refine runD_cases (fun hcz => ?_) (fun hcz => ?_) | refine gopB_cases (fun hcz => ?_) (fun hcz => ?_) | refine gopB_drawn (fun hcz => ?_) (fun hcz => ?_)) <;> (try simp only [decide_eq_true_eq, decide_eq_false_iff_not, Bool.not_eq_true', Bool.not_eq_false', Bool.not_eq_true, Bool.not_eq_false] at hcz) <;> (try simp (maxSteps := 1000000) (disch := omega) [ip, wr, hcz, h1, h2, h3, h4, h5]))
theorem implSrcOk (s : KSrc) (hw : (KSrc.w s : Int) ≤ 1048576) : A 27 [.agg (KSrc.row false s)] = some ([.leaf (.bool (srcB s))], [.gone]) := by
 have f1 := implFew s
 have f2 := implUnlike s hw
 have f3 := implFit s hw
 have ho : unlikeB s = true → onceB (s.types.map KType.name) = true := by
  unfold unlikeB
  simp only [Bool.and_eq_true]
  exact fun h => h.2.2.1
 have hl : fewB s = true → decide ((s.types.length : Int) ≤ 8) = true := by
  unfold fewB
  simp only [Bool.and_eq_true]
  exact fun h => h.2.2.2.1
 unfold srcB
 generalize fewB s = b1 at *
 generalize unlikeB s = b2 at *
 generalize fitB s = b3 at *
 obtain ⟨name, imports, exports, types, defs, convs⟩ := s
 simp only [KSrc.w] at hw
 have hdu := defNames_us defs
 have hcu := defNames_us convs
 have h0 := implIsName name (by omega)
 have h1 := implAllNames' imports (by omega) (by omega)
 have h2 := implAllNames' exports (by omega) (by omega)
 have h3 := implDefNames defs (by omega)
 have h4 := implAllNames' (defs.map KDef.name) (by simp; omega) (by omega)
 have h5 := implDefNames convs (by omega)
 have h6 := implAllNames' (convs.map KDef.name) (by simp; omega) (by omega)
 have h7 := implTypesOk types (by omega) (by omega)
 have h8 := implProgsOk defs (by omega) (by omega)
 have h9 := implProgsOk convs (by omega) (by omega)
 simp only at ho hl ⊢
 generalize isName name = c0 at *
 generalize imports.all isName = c1 at *
 generalize exports.all isName = c2 at *
 generalize (defs.map KDef.name).all isName = c3 at *
 generalize (convs.map KDef.name).all isName = c4 at *
 generalize (types.map KType.name).all isName = c5 at *
 generalize onceB (types.map KType.name) = c6 at *
 generalize sizesB types = c7 at *
 generalize (defs.all fun d => progB d.prog) = c8 at *
 generalize (convs.all fun d => progB d.prog) = c9 at *
 generalize decide ((types.length : Int) ≤ 8) = c10 at *
 simp only [Kstrs, List.map_map] at h1 h2 h3 h4 h5 h6 h7
 refine run_impl_SrcOk ?_
 simp (maxSteps := 1000000) (disch := omega) [ip, wr, impl_SrcOk.b, h0, f1, f2, f3, h1, h2, h3, h4, h5, h6, h7, h8, h9]
 all_goals repeat' ((first | refine runD_cases (fun hcz => ?_) (fun hcz => ?_) | refine gopB_cases (fun hcz => ?_) (fun hcz => ?_) | refine gopB_drawn (fun hcz => ?_) (fun hcz => ?_)) <;> (try simp only [decide_eq_true_eq, decide_eq_false_iff_not, Bool.not_eq_true', Bool.not_eq_false', Bool.not_eq_true, Bool.not_eq_false] at hcz) <;> (try simp (maxSteps := 1000000) (disch := omega) [ip, wr, hcz, h0, f1, f2, f3, h1, h2, h3, h4, h5, h6, h7, h8, h9]))
 all_goals (simp_all <;> (try (cases c5 <;> simp_all)))
theorem l11Many (s : KSrc) : A 45 [.agg (KSrc.row false s)] = some ([.leaf (.bool (!fewB s))], [.gone]) := by
 obtain ⟨name, imports, exports, types, defs, convs⟩ := s
 unfold fewB
 simp only
 refine run_spec_l11Many ?_
 by_cases c1 : (imports.length : Int) ≤ 30
 ·by_cases c2 : (exports.length : Int) ≤ 30
  ·by_cases c3 : (defs.length : Int) ≤ 30
   ·by_cases c4 : (types.length : Int) ≤ 8
    ·by_cases c5 : (convs.length : Int) ≤ 8
     ·simp (maxSteps := 1000000) (disch := omega) [ip, wr, spec_l11Many.b, c1, c2, c3, c4, c5]
     ·simp (maxSteps := 1000000) (disch := omega) [ip, wr, spec_l11Many.b, c1, c2, c3, c4, c5] <;> omega
    ·simp (maxSteps := 1000000) (disch := omega) [ip, wr, spec_l11Many.b, c1, c2, c3, c4] <;> omega
   ·simp (maxSteps := 1000000) (disch := omega) [ip, wr, spec_l11Many.b, c1, c2, c3] <;> omega
  ·simp (maxSteps := 1000000) (disch := omega) [ip, wr, spec_l11Many.b, c1, c2] <;> omega
 ·simp (maxSteps := 1000000) (disch := omega) [ip, wr, spec_l11Many.b, c1] <;> omega
theorem l11Dup (s : KSrc) (hw : (KSrc.w s : Int) ≤ 1048576) : A 46 [.agg (KSrc.row false s)] = some ([.leaf (.bool (!unlikeB s))], [.gone]) := by
 obtain ⟨name, imports, exports, types, defs, convs⟩ := s
 simp only [KSrc.w] at hw
 have h1 := l11Twice imports (by omega)
 have h2 := l11Twice exports (by omega)
 have h3 := specTypeNames types (by omega)
 have h4 := l11Twice (types.map KType.name) (by simp; omega)
 have h5 := specDefNames defs (by omega)
 have h6 := l11Twice (defs.map KDef.name) (by simp; omega)
 have h7 := specDefNames convs (by omega)
 have h8 := l11Twice (convs.map KDef.name) (by simp; omega)
 have h9 := l3In name imports (by omega)
 unfold unlikeB
 simp only
 generalize onceB imports = b1 at *
 generalize onceB exports = b2 at *
 generalize onceB (types.map KType.name) = b3 at *
 generalize onceB (defs.map KDef.name) = b4 at *
 generalize onceB (convs.map KDef.name) = b5 at *
 generalize decide (name ∈ imports) = b6 at *
 simp only [Kstrs, List.map_map] at h3 h4 h5 h6 h7 h8
 refine run_spec_l11Dup ?_
 simp (maxSteps := 1000000) (disch := omega) [ip, wr, spec_l11Dup.b, h1, h2, h3, h4, h5, h6, h7, h8, h9]
 all_goals repeat' ((first | refine runD_cases (fun hcz => ?_) (fun hcz => ?_) | refine gopB_cases (fun hcz => ?_) (fun hcz => ?_) | refine gopB_drawn (fun hcz => ?_) (fun hcz => ?_)) <;> (try simp only [decide_eq_true_eq, decide_eq_false_iff_not, Bool.not_eq_true', Bool.not_eq_false', Bool.not_eq_true, Bool.not_eq_false] at hcz) <;> (try simp (maxSteps := 1000000) (disch := omega) [ip, wr, hcz, h1, h2, h3, h4, h5, h6, h7, h8, h9]))
theorem l11Lacks (s : KSrc) (hw : (KSrc.w s : Int) ≤ 1048576) : A 47 [.agg (KSrc.row false s)] = some ([.leaf (.bool (!fitB s))], [.gone]) := by
 obtain ⟨name, imports, exports, types, defs, convs⟩ := s
 simp only [KSrc.w] at hw
 have h5 := specDefNames defs (by omega)
 have h3 := specTypeNames types (by omega)
 have h6 := fun x => l3In x (defs.map KDef.name) (by simp; omega)
 have h7 := fun x => l3In x (types.map KType.name) (by simp; omega)
 have hfit : fitB ⟨name, imports, exports, types, defs, convs⟩ = (exports.all (fun x => decide (x ∈ defs.map KDef.name)) && convs.all (fun d => decide (d.name ∈ types.map KType.name))) := by
  simp only [fitB, inB, List.all_map]
  rfl
 rw [hfit]
 generalize hA : exports.all (fun x => decide (x ∈ defs.map KDef.name)) = a1
 generalize hB : convs.all (fun d : KDef => decide (d.name ∈ types.map KType.name)) = a2
 have hk : ∀ x, decide (x ∈ defs.map KDef.name) = decide (x ∈ defs.map KDef.name) := fun _ => rfl
 simp only [Kstrs, List.map_map] at h3 h5 h6 h7
 refine run_spec_l11Lacks ?_
 simp (maxSteps := 1000000) (disch := omega) [ip, wr, spec_l11Lacks.b]
 refine at_all 3 spec_l11Lacks.l0.eq_1 (fun x => decide (x ∈ defs.map KDef.name)) exports (by simp) (fun g => ?_) (fun i x hx hi hp ih => ?_) (fun i x hx hi hp g => ?_)
 ·simp (maxSteps := 1000000) (disch := omega) [ip, wr, ]
  refine at_all 4 spec_l11Lacks.l1.eq_1 (fun d : KDef => decide (d.name ∈ types.map KType.name)) convs (by simp) (fun g2 => ?_) (fun i x hx hi hp ih => ?_) (fun i x hx hi hp g2 => ?_)
  ·obtain rfl : a1 = true := hA.symm.trans g
   obtain rfl : a2 = true := hB.symm.trans g2
   simp (maxSteps := 1000000) (disch := omega) [ip, wr, ]
  ·have h8 := h7 x.name
   rw [hp] at h8
   simp (maxSteps := 1000000) (disch := omega) [ip, wr, hx, at_get hx, h3, h8]
   refine run_env ih ?_
   simp
  ·have h8 := h7 x.name
   rw [hp] at h8
   obtain rfl : a1 = true := hA.symm.trans g
   obtain rfl : a2 = false := hB.symm.trans g2
   simp (maxSteps := 1000000) (disch := omega) [ip, wr, hx, at_get hx, h3, h8]
 ·have h8 := h6 x
  rw [hp] at h8
  simp (maxSteps := 1000000) (disch := omega) [ip, wr, hx, at_get hx, h5, h8]
  refine run_env ih ?_
  simp
 ·have h8 := h6 x
  rw [hp] at h8
  obtain rfl : a1 = false := hA.symm.trans g
  simp (maxSteps := 1000000) (disch := omega) [ip, wr, hx, at_get hx, h5, h8]
theorem specSrcOk (s : KSrc) (hw : (KSrc.w s : Int) ≤ 1048576) : A 19 [.agg (KSrc.row false s)] = some ([.leaf (.bool (srcB s))], [.gone]) := by
 have f1 := l11Many s
 have f2 := l11Dup s hw
 have f3 := l11Lacks s hw
 obtain ⟨name, imports, exports, types, defs, convs⟩ := s
 simp only [KSrc.w] at hw
 have hdu := defNames_us defs
 have hcu := defNames_us convs
 have htu := typeNames_us types
 have h0 := specIsName name (by omega)
 have h1 := specAllNames imports (by omega) (by omega)
 have h2 := specAllNames exports (by omega) (by omega)
 have h3 := specDefNames defs (by omega)
 have h4 := specAllNames (defs.map KDef.name) (by simp; omega) (by omega)
 have h5 := specDefNames convs (by omega)
 have h6 := specAllNames (convs.map KDef.name) (by simp; omega) (by omega)
 have h7 := specTypeNames types (by omega)
 have h8 := specAllNames (types.map KType.name) (by simp; omega) (by omega)
 unfold srcB
 simp only
 generalize fewB ⟨name, imports, exports, types, defs, convs⟩ = b1 at *
 generalize unlikeB ⟨name, imports, exports, types, defs, convs⟩ = b2 at *
 generalize fitB ⟨name, imports, exports, types, defs, convs⟩ = b3 at *
 generalize isName name = c0 at *
 generalize imports.all isName = c1 at *
 generalize exports.all isName = c2 at *
 generalize (defs.map KDef.name).all isName = c3 at *
 generalize (convs.map KDef.name).all isName = c4 at *
 generalize (types.map KType.name).all isName = c5 at *
 simp only [Kstrs, List.map_map] at h1 h2 h3 h4 h5 h6 h7 h8
 by_cases hall : c0 = true ∧ b1 = true ∧ b2 = true ∧ b3 = true ∧ c1 = true ∧ c2 = true ∧ c5 = true ∧ c3 = true ∧ c4 = true
 ·obtain ⟨rfl, rfl, rfl, rfl, rfl, rfl, rfl, rfl, rfl⟩ := hall
  simp only [Bool.true_and]
  refine run_spec_SrcOk ?_
  simp (maxSteps := 1000000) (disch := omega) [ip, wr, spec_SrcOk.b, h0, f1, f2, f3, h1, h2, h3, h4, h5, h6, h7, h8]
  refine at_all 3 spec_SrcOk.l0.eq_1 (fun t : KType => within 0 8 t.size) types (by simp) (fun g => ?_) (fun i x hx hi hp ih => ?_) (fun i x hx hi hp g => ?_)
  ·have g' : sizesB types = true := g
   simp (maxSteps := 1000000) (disch := omega) [ip, wr, g']
   refine at_all 4 spec_SrcOk.l1.eq_1 (fun d : KDef => progB d.prog) defs (by simp) (fun g1 => ?_) (fun i x hx hi hp ih => ?_) (fun i x hx hi hp g1 => ?_)
   ·simp (maxSteps := 1000000) (disch := omega) [ip, wr, g1]
    refine at_all 5 spec_SrcOk.l2.eq_1 (fun d : KDef => progB d.prog) convs (by simp) (fun g2 => ?_) (fun i x hx hi hp ih => ?_) (fun i x hx hi hp g2 => ?_)
    ·simp (maxSteps := 1000000) (disch := omega) [ip, wr, g2]
    ·have k1 := specProgOk x.prog (by have := defs_at hx; simp only [KDef.w] at this; omega)
     rw [hp] at k1
     simp (maxSteps := 1000000) (disch := omega) [ip, wr, hx, at_get hx, k1]
     refine run_env ih ?_
     simp
    ·have k1 := specProgOk x.prog (by have := defs_at hx; simp only [KDef.w] at this; omega)
     rw [hp] at k1
     simp (maxSteps := 1000000) (disch := omega) [ip, wr, hx, at_get hx, k1, g2]
   ·have k1 := specProgOk x.prog (by have := defs_at hx; simp only [KDef.w] at this; omega)
    rw [hp] at k1
    simp (maxSteps := 1000000) (disch := omega) [ip, wr, hx, at_get hx, k1]
    refine run_env ih ?_
    simp
   ·have k1 := specProgOk x.prog (by have := defs_at hx; simp only [KDef.w] at this; omega)
    rw [hp] at k1
    simp (maxSteps := 1000000) (disch := omega) [ip, wr, hx, at_get hx, k1, g1]
  ·have k1 := l1In' x.size 0 8
   rw [hp] at k1
   simp (maxSteps := 1000000) (disch := omega) [ip, wr, hx, at_get hx, k1]
   refine run_env ih ?_
   simp
  ·have g' : sizesB types = false := g
   have k1 := l1In' x.size 0 8
   rw [hp] at k1
   simp (maxSteps := 1000000) (disch := omega) [ip, wr, hx, at_get hx, k1, g']
 ·have hf : (c0 && (b1 && (b2 && (b3 && (c1 && (c2 && (c5 && (c3 && (c4 && (sizesB types && ((defs.all fun d => progB d.prog) && (convs.all fun d => progB d.prog)))))))))))) = false := by
   cases c0 <;> cases b1 <;> cases b2 <;> cases b3 <;> cases c1 <;> cases c2 <;> cases c5 <;> cases c3 <;> cases c4 <;> first | rfl | exact absurd ⟨rfl, rfl, rfl, rfl, rfl, rfl, rfl, rfl, rfl⟩ hall
  rw [hf]
  refine run_spec_SrcOk ?_
  simp (maxSteps := 1000000) (disch := omega) [ip, wr, spec_SrcOk.b, h0, f1, f2, f3, h1, h2, h3, h4, h5, h6, h7, h8]
  all_goals repeat' ((first | refine runD_cases (fun hcz => ?_) (fun hcz => ?_) | refine gopB_cases (fun hcz => ?_) (fun hcz => ?_) | refine gopB_drawn (fun hcz => ?_) (fun hcz => ?_)) <;> (try simp only [decide_eq_true_eq, decide_eq_false_iff_not, Bool.not_eq_true', Bool.not_eq_false', Bool.not_eq_true, Bool.not_eq_false] at hcz) <;> (try simp (maxSteps := 1000000) (disch := omega) [ip, wr, hcz, h0, f1, f2, f3, h1, h2, h3, h4, h5, h6, h7, h8]))
  all_goals simp_all
end Go.Proofs.YthkfnfppihgejaaGreatDoor.LN
