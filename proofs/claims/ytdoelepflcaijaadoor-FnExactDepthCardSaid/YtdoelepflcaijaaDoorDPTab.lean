/- The table of the functions. -/
import Derived.Test.YtdoelepflcaijaaDoorDPFn0
import Derived.Test.YtdoelepflcaijaaDoorEngM7
import Derived.Test.YtdoelepflcaijaaDoorEngPContains
import Derived.Test.YtdoelepflcaijaaDoorEngPIndexByte
import Derived.Test.YtdoelepflcaijaaDoorEngPReadDec
namespace Go.Proofs.YtdoelepflcaijaaDoor.DP
open Go Go.VS
set_option maxRecDepth 100000
set_option linter.unusedVariables false
set_option linter.unusedSimpArgs false
noncomputable def tab : List (Entry Tryd.prog) := [⟨7, laws_FnExactDepth, Tryd.f7, Tryd.func7, laws_FnExactDepth.turned⟩,
  ⟨34, laws_szProg, Tryd.f34, Tryd.func34, laws_szProg.turned⟩,
  ⟨35, spec_Depth, Tryd.f35, Tryd.func35, spec_Depth.turned⟩,
  ⟨36, laws_toProg, Tryd.f36, Tryd.func36, laws_toProg.turned⟩,
  ⟨37, impl_Depth, Tryd.f37, Tryd.func37, impl_Depth.turned⟩,
  ⟨38, laws_eqProg, Tryd.f38, Tryd.func38, laws_eqProg.turned⟩,
  ⟨77, laws_szNodeS, Tryd.f77, Tryd.func77, laws_szNodeS.turned⟩,
  ⟨78, spec_ProgOk, Tryd.f78, Tryd.func78, spec_ProgOk.turned⟩,
  ⟨79, laws_toNodeS, Tryd.f79, Tryd.func79, laws_toNodeS.turned⟩,
  ⟨80, impl_ProgOk, Tryd.f80, Tryd.func80, impl_ProgOk.turned⟩,
  ⟨81, laws_eqNodeS, Tryd.f81, Tryd.func81, laws_eqNodeS.turned⟩,
  ⟨120, laws_szNode, Tryd.f120, Tryd.func120, laws_szNode.turned⟩,
  ⟨97, spec_l1In, Tryd.f97, Tryd.func97, spec_l1In.turned⟩,
  ⟨121, spec_l3Node, Tryd.f121, Tryd.func121, spec_l3Node.turned⟩,
  ⟨122, laws_toNode, Tryd.f122, Tryd.func122, laws_toNode.turned⟩,
  ⟨54, impl_inRange, Tryd.f54, Tryd.func54, impl_inRange.turned⟩,
  ⟨123, impl_nodeOk, Tryd.f123, Tryd.func123, impl_nodeOk.turned⟩,
  ⟨124, laws_eqNode, Tryd.f124, Tryd.func124, laws_eqNode.turned⟩,
  ⟨40, laws_szIntS, Tryd.f40, Tryd.func40, laws_szIntS.turned⟩,
  ⟨108, laws_szStringS, Tryd.f108, Tryd.func108, laws_szStringS.turned⟩,
  ⟨112, spec_IsName, Tryd.f112, Tryd.func112, spec_IsName.turned⟩,
  ⟨137, spec_l2Sym, Tryd.f137, Tryd.func137, spec_l2Sym.turned⟩,
  ⟨151, spec_l3Names, Tryd.f151, Tryd.func151, spec_l3Names.turned⟩,
  ⟨152, spec_l3Prim, Tryd.f152, Tryd.func152, spec_l3Prim.turned⟩,
  ⟨44, laws_toIntS, Tryd.f44, Tryd.func44, laws_toIntS.turned⟩,
  ⟨113, laws_toStringS, Tryd.f113, Tryd.func113, laws_toStringS.turned⟩,
  ⟨148, impl_IsName, Tryd.f148, Tryd.func148, impl_IsName.turned⟩,
  ⟨149, impl_symOk, Tryd.f149, Tryd.func149, impl_symOk.turned⟩,
  ⟨153, impl_namesOk, Tryd.f153, Tryd.func153, impl_namesOk.turned⟩,
  ⟨154, impl_primOk, Tryd.f154, Tryd.func154, impl_primOk.turned⟩,
  ⟨50, laws_eqIntS, Tryd.f50, Tryd.func50, laws_eqIntS.turned⟩,
  ⟨118, laws_eqStringS, Tryd.f118, Tryd.func118, laws_eqStringS.turned⟩,
  ⟨145, spec_l3Word, Tryd.f145, Tryd.func145, spec_l3Word.turned⟩,
  ⟨146, spec_Arity, Tryd.f146, Tryd.func146, spec_Arity.turned⟩,
  ⟨135, spec_l2Sign, Tryd.f135, Tryd.func135, spec_l2Sign.turned⟩,
  ⟨136, spec_ReadDec, Tryd.f136, Tryd.func136, spec_ReadDec.turned⟩,
  ⟨162, spec_l2Digit, Tryd.f162, Tryd.func162, spec_l2Digit.turned⟩,
  ⟨165, spec_l3In, Tryd.f165, Tryd.func165, spec_l3In.turned⟩,
  ⟨166, impl_isOneOf, Tryd.f166, Tryd.func166, impl_isOneOf.turned⟩,
  ⟨167, impl_Arity, Tryd.f167, Tryd.func167, impl_Arity.turned⟩,
  ⟨163, impl_isSymByte, Tryd.f163, Tryd.func163, impl_isSymByte.turned⟩,
  ⟨168, slices_Index_string_string, Tryd.f168, Tryd.func168, slices_Index_string_string.turned⟩,
  ⟨169, impl_isTyped, Tryd.f169, Tryd.func169, impl_isTyped.turned⟩,
  ⟨134, spec_l2In, Tryd.f134, Tryd.func134, spec_l2In.turned⟩,
  ⟨83, spec_Dec, Tryd.f83, Tryd.func83, spec_Dec.turned⟩]
noncomputable def ptab : List (PEntry Tryd.prog LaidX) := [prim_impl_ReadDec, prim_strings_Contains, prim_strings_IndexByte]
noncomputable def T : FuncId → Option VFn := tabT tab
noncomputable def G : Sigs := tabG tab ptab
noncomputable def A : Fns := lim G T (tabP ptab)
theorem A_run {f : FuncId} {vf : VFn} {cs : List CV} {r : List CV × List CV} (hT : T f = some vf) (h : Run G A vf.body (params 0 cs) [] (QF vf.sig.own vf.sig.modes vf.res r)) : A f cs = some r := lim_run hT h
theorem A_runE {f : FuncId} {vf : VFn} {cs : List CV} {X : List CV → List CV → Prop} (hT : T f = some vf) (h : Run G A vf.body (params 0 cs) [] (QE vf.sig.own vf.sig.modes vf.res X)) : ∃ rs os, A f cs = some (rs, os) ∧ X rs os := lim_runE hT h
theorem A_prim {f : FuncId} {cs : List CV} {r : List CV × List CV} (hT : T f = none) (h : tabP ptab f cs = some r) : A f cs = some r := lim_prim hT h
theorem A_answers {W : World} (hX : LaidX W) {f : FuncId} {g : Sig} {cs res outs : List CV} (hg : G f = some g) (h : A f cs = some (res, outs)) : Answers Tryd.prog W f cs res outs := lim_answers (tabT_ok tab ptab) (tabP_ok hX tab ptab) hg h
theorem T_laws_FnExactDepth : T 7 = some laws_FnExactDepth := by kernel_rfl
@[simp] theorem G_7 : G 7 = some ⟨[.V], true⟩ := by kernel_rfl
theorem T_laws_szProg : T 34 = some laws_szProg := by kernel_rfl
@[simp] theorem G_34 : G 34 = some ⟨[.V, .V], true⟩ := by kernel_rfl
theorem T_spec_Depth : T 35 = some spec_Depth := by kernel_rfl
@[simp] theorem G_35 : G 35 = some ⟨[.V], true⟩ := by kernel_rfl
theorem T_laws_toProg : T 36 = some laws_toProg := by kernel_rfl
@[simp] theorem G_36 : G 36 = some ⟨[.V], true⟩ := by kernel_rfl
theorem T_impl_Depth : T 37 = some impl_Depth := by kernel_rfl
@[simp] theorem G_37 : G 37 = some ⟨[.V], true⟩ := by kernel_rfl
theorem T_laws_eqProg : T 38 = some laws_eqProg := by kernel_rfl
@[simp] theorem G_38 : G 38 = some ⟨[.V, .V], true⟩ := by kernel_rfl
theorem T_laws_szNodeS : T 77 = some laws_szNodeS := by kernel_rfl
@[simp] theorem G_77 : G 77 = some ⟨[.V, .V], true⟩ := by kernel_rfl
theorem T_spec_ProgOk : T 78 = some spec_ProgOk := by kernel_rfl
@[simp] theorem G_78 : G 78 = some ⟨[.V], true⟩ := by kernel_rfl
theorem T_laws_toNodeS : T 79 = some laws_toNodeS := by kernel_rfl
@[simp] theorem G_79 : G 79 = some ⟨[.V], true⟩ := by kernel_rfl
theorem T_impl_ProgOk : T 80 = some impl_ProgOk := by kernel_rfl
@[simp] theorem G_80 : G 80 = some ⟨[.V], true⟩ := by kernel_rfl
theorem T_laws_eqNodeS : T 81 = some laws_eqNodeS := by kernel_rfl
@[simp] theorem G_81 : G 81 = some ⟨[.V, .V], true⟩ := by kernel_rfl
theorem T_laws_szNode : T 120 = some laws_szNode := by kernel_rfl
@[simp] theorem G_120 : G 120 = some ⟨[.V, .V], true⟩ := by kernel_rfl
theorem T_spec_l1In : T 97 = some spec_l1In := by kernel_rfl
@[simp] theorem G_97 : G 97 = some ⟨[.V, .V, .V], true⟩ := by kernel_rfl
theorem T_spec_l3Node : T 121 = some spec_l3Node := by kernel_rfl
@[simp] theorem G_121 : G 121 = some ⟨[.V], true⟩ := by kernel_rfl
theorem T_laws_toNode : T 122 = some laws_toNode := by kernel_rfl
@[simp] theorem G_122 : G 122 = some ⟨[.V], true⟩ := by kernel_rfl
theorem T_impl_inRange : T 54 = some impl_inRange := by kernel_rfl
@[simp] theorem G_54 : G 54 = some ⟨[.V, .V, .V], true⟩ := by kernel_rfl
theorem T_impl_nodeOk : T 123 = some impl_nodeOk := by kernel_rfl
@[simp] theorem G_123 : G 123 = some ⟨[.V], true⟩ := by kernel_rfl
theorem T_laws_eqNode : T 124 = some laws_eqNode := by kernel_rfl
@[simp] theorem G_124 : G 124 = some ⟨[.V, .V], true⟩ := by kernel_rfl
theorem T_laws_szIntS : T 40 = some laws_szIntS := by kernel_rfl
@[simp] theorem G_40 : G 40 = some ⟨[.V, .V], true⟩ := by kernel_rfl
theorem T_laws_szStringS : T 108 = some laws_szStringS := by kernel_rfl
@[simp] theorem G_108 : G 108 = some ⟨[.V, .V], true⟩ := by kernel_rfl
theorem T_spec_IsName : T 112 = some spec_IsName := by kernel_rfl
@[simp] theorem G_112 : G 112 = some ⟨[.V], true⟩ := by kernel_rfl
theorem T_spec_l2Sym : T 137 = some spec_l2Sym := by kernel_rfl
@[simp] theorem G_137 : G 137 = some ⟨[.V], true⟩ := by kernel_rfl
theorem T_spec_l3Names : T 151 = some spec_l3Names := by kernel_rfl
@[simp] theorem G_151 : G 151 = some ⟨[.V, .V], true⟩ := by kernel_rfl
theorem T_spec_l3Prim : T 152 = some spec_l3Prim := by kernel_rfl
@[simp] theorem G_152 : G 152 = some ⟨[.V], true⟩ := by kernel_rfl
theorem T_laws_toIntS : T 44 = some laws_toIntS := by kernel_rfl
@[simp] theorem G_44 : G 44 = some ⟨[.V], true⟩ := by kernel_rfl
theorem T_laws_toStringS : T 113 = some laws_toStringS := by kernel_rfl
@[simp] theorem G_113 : G 113 = some ⟨[.V], true⟩ := by kernel_rfl
theorem T_impl_IsName : T 148 = some impl_IsName := by kernel_rfl
@[simp] theorem G_148 : G 148 = some ⟨[.V], true⟩ := by kernel_rfl
theorem T_impl_symOk : T 149 = some impl_symOk := by kernel_rfl
@[simp] theorem G_149 : G 149 = some ⟨[.V], true⟩ := by kernel_rfl
theorem T_impl_namesOk : T 153 = some impl_namesOk := by kernel_rfl
@[simp] theorem G_153 : G 153 = some ⟨[.V, .V], true⟩ := by kernel_rfl
theorem T_impl_primOk : T 154 = some impl_primOk := by kernel_rfl
@[simp] theorem G_154 : G 154 = some ⟨[.V], true⟩ := by kernel_rfl
theorem T_laws_eqIntS : T 50 = some laws_eqIntS := by kernel_rfl
@[simp] theorem G_50 : G 50 = some ⟨[.V, .V], true⟩ := by kernel_rfl
theorem T_laws_eqStringS : T 118 = some laws_eqStringS := by kernel_rfl
@[simp] theorem G_118 : G 118 = some ⟨[.V, .V], true⟩ := by kernel_rfl
theorem T_spec_l3Word : T 145 = some spec_l3Word := by kernel_rfl
@[simp] theorem G_145 : G 145 = some ⟨[.V], true⟩ := by kernel_rfl
theorem T_spec_Arity : T 146 = some spec_Arity := by kernel_rfl
@[simp] theorem G_146 : G 146 = some ⟨[.V], true⟩ := by kernel_rfl
theorem T_spec_l2Sign : T 135 = some spec_l2Sign := by kernel_rfl
@[simp] theorem G_135 : G 135 = some ⟨[.V], true⟩ := by kernel_rfl
theorem T_spec_ReadDec : T 136 = some spec_ReadDec := by kernel_rfl
@[simp] theorem G_136 : G 136 = some ⟨[.V], true⟩ := by kernel_rfl
theorem T_spec_l2Digit : T 162 = some spec_l2Digit := by kernel_rfl
@[simp] theorem G_162 : G 162 = some ⟨[.V], true⟩ := by kernel_rfl
theorem T_spec_l3In : T 165 = some spec_l3In := by kernel_rfl
@[simp] theorem G_165 : G 165 = some ⟨[.V, .V], true⟩ := by kernel_rfl
theorem T_impl_isOneOf : T 166 = some impl_isOneOf := by kernel_rfl
@[simp] theorem G_166 : G 166 = some ⟨[.V, .V], true⟩ := by kernel_rfl
theorem T_impl_Arity : T 167 = some impl_Arity := by kernel_rfl
@[simp] theorem G_167 : G 167 = some ⟨[.V], true⟩ := by kernel_rfl
theorem T_impl_isSymByte : T 163 = some impl_isSymByte := by kernel_rfl
@[simp] theorem G_163 : G 163 = some ⟨[.V], true⟩ := by kernel_rfl
theorem T_slices_Index_string_string : T 168 = some slices_Index_string_string := by kernel_rfl
@[simp] theorem G_168 : G 168 = some ⟨[.V, .V], true⟩ := by kernel_rfl
theorem T_impl_isTyped : T 169 = some impl_isTyped := by kernel_rfl
@[simp] theorem G_169 : G 169 = some ⟨[.V], true⟩ := by kernel_rfl
theorem T_spec_l2In : T 134 = some spec_l2In := by kernel_rfl
@[simp] theorem G_134 : G 134 = some ⟨[.V, .V], true⟩ := by kernel_rfl
theorem T_spec_Dec : T 83 = some spec_Dec := by kernel_rfl
@[simp] theorem G_83 : G 83 = some ⟨[.V], true⟩ := by kernel_rfl
theorem run_laws_FnExactDepth {cs : List CV} {r : List CV × List CV} (h : Run G A laws_FnExactDepth.b (params 0 cs) [] (QF true [.V] [.tmp 2] r)) : A 7 cs = some r := A_run T_laws_FnExactDepth h
theorem runE_laws_FnExactDepth {cs : List CV} {X : List CV → List CV → Prop} (h : Run G A laws_FnExactDepth.b (params 0 cs) [] (QE true [.V] [.tmp 2] X)) : ∃ rs os, A 7 cs = some (rs, os) ∧ X rs os := A_runE T_laws_FnExactDepth h
theorem run_laws_szProg {cs : List CV} {r : List CV × List CV} (h : Run G A laws_szProg.b (params 0 cs) [] (QF true [.V, .V] [.tmp 4] r)) : A 34 cs = some r := A_run T_laws_szProg h
theorem runE_laws_szProg {cs : List CV} {X : List CV → List CV → Prop} (h : Run G A laws_szProg.b (params 0 cs) [] (QE true [.V, .V] [.tmp 4] X)) : ∃ rs os, A 34 cs = some (rs, os) ∧ X rs os := A_runE T_laws_szProg h
theorem run_spec_Depth {cs : List CV} {r : List CV × List CV} (h : Run G A spec_Depth.b (params 0 cs) [] (QF true [.V] [.tmp 2] r)) : A 35 cs = some r := A_run T_spec_Depth h
theorem runE_spec_Depth {cs : List CV} {X : List CV → List CV → Prop} (h : Run G A spec_Depth.b (params 0 cs) [] (QE true [.V] [.tmp 2] X)) : ∃ rs os, A 35 cs = some (rs, os) ∧ X rs os := A_runE T_spec_Depth h
theorem run_laws_toProg {cs : List CV} {r : List CV × List CV} (h : Run G A laws_toProg.b (params 0 cs) [] (QF true [.V] [.cell 2 2 true] r)) : A 36 cs = some r := A_run T_laws_toProg h
theorem runE_laws_toProg {cs : List CV} {X : List CV → List CV → Prop} (h : Run G A laws_toProg.b (params 0 cs) [] (QE true [.V] [.cell 2 2 true] X)) : ∃ rs os, A 36 cs = some (rs, os) ∧ X rs os := A_runE T_laws_toProg h
theorem run_impl_Depth {cs : List CV} {r : List CV × List CV} (h : Run G A impl_Depth.b (params 0 cs) [] (QF true [.V] [.tmp 2] r)) : A 37 cs = some r := A_run T_impl_Depth h
theorem runE_impl_Depth {cs : List CV} {X : List CV → List CV → Prop} (h : Run G A impl_Depth.b (params 0 cs) [] (QE true [.V] [.tmp 2] X)) : ∃ rs os, A 37 cs = some (rs, os) ∧ X rs os := A_runE T_impl_Depth h
theorem run_laws_eqProg {cs : List CV} {r : List CV × List CV} (h : Run G A laws_eqProg.b (params 0 cs) [] (QF true [.V, .V] [.tmp 4] r)) : A 38 cs = some r := A_run T_laws_eqProg h
theorem runE_laws_eqProg {cs : List CV} {X : List CV → List CV → Prop} (h : Run G A laws_eqProg.b (params 0 cs) [] (QE true [.V, .V] [.tmp 4] X)) : ∃ rs os, A 38 cs = some (rs, os) ∧ X rs os := A_runE T_laws_eqProg h
theorem run_laws_szNodeS {cs : List CV} {r : List CV × List CV} (h : Run G A laws_szNodeS.b (params 0 cs) [] (QF true [.V, .V] [.tmp 4] r)) : A 77 cs = some r := A_run T_laws_szNodeS h
theorem runE_laws_szNodeS {cs : List CV} {X : List CV → List CV → Prop} (h : Run G A laws_szNodeS.b (params 0 cs) [] (QE true [.V, .V] [.tmp 4] X)) : ∃ rs os, A 77 cs = some (rs, os) ∧ X rs os := A_runE T_laws_szNodeS h
theorem run_spec_ProgOk {cs : List CV} {r : List CV × List CV} (h : Run G A spec_ProgOk.b (params 0 cs) [] (QF true [.V] [.tmp 2] r)) : A 78 cs = some r := A_run T_spec_ProgOk h
theorem runE_spec_ProgOk {cs : List CV} {X : List CV → List CV → Prop} (h : Run G A spec_ProgOk.b (params 0 cs) [] (QE true [.V] [.tmp 2] X)) : ∃ rs os, A 78 cs = some (rs, os) ∧ X rs os := A_runE T_spec_ProgOk h
theorem run_laws_toNodeS {cs : List CV} {r : List CV × List CV} (h : Run G A laws_toNodeS.b (params 0 cs) [] (QF true [.V] [.tmp 2] r)) : A 79 cs = some r := A_run T_laws_toNodeS h
theorem runE_laws_toNodeS {cs : List CV} {X : List CV → List CV → Prop} (h : Run G A laws_toNodeS.b (params 0 cs) [] (QE true [.V] [.tmp 2] X)) : ∃ rs os, A 79 cs = some (rs, os) ∧ X rs os := A_runE T_laws_toNodeS h
theorem run_impl_ProgOk {cs : List CV} {r : List CV × List CV} (h : Run G A impl_ProgOk.b (params 0 cs) [] (QF true [.V] [.tmp 2] r)) : A 80 cs = some r := A_run T_impl_ProgOk h
theorem runE_impl_ProgOk {cs : List CV} {X : List CV → List CV → Prop} (h : Run G A impl_ProgOk.b (params 0 cs) [] (QE true [.V] [.tmp 2] X)) : ∃ rs os, A 80 cs = some (rs, os) ∧ X rs os := A_runE T_impl_ProgOk h
theorem run_laws_eqNodeS {cs : List CV} {r : List CV × List CV} (h : Run G A laws_eqNodeS.b (params 0 cs) [] (QF true [.V, .V] [.tmp 4] r)) : A 81 cs = some r := A_run T_laws_eqNodeS h
theorem runE_laws_eqNodeS {cs : List CV} {X : List CV → List CV → Prop} (h : Run G A laws_eqNodeS.b (params 0 cs) [] (QE true [.V, .V] [.tmp 4] X)) : ∃ rs os, A 81 cs = some (rs, os) ∧ X rs os := A_runE T_laws_eqNodeS h
theorem run_laws_szNode {cs : List CV} {r : List CV × List CV} (h : Run G A laws_szNode.b (params 0 cs) [] (QF true [.V, .V] [.tmp 4] r)) : A 120 cs = some r := A_run T_laws_szNode h
theorem runE_laws_szNode {cs : List CV} {X : List CV → List CV → Prop} (h : Run G A laws_szNode.b (params 0 cs) [] (QE true [.V, .V] [.tmp 4] X)) : ∃ rs os, A 120 cs = some (rs, os) ∧ X rs os := A_runE T_laws_szNode h
theorem run_spec_l1In {cs : List CV} {r : List CV × List CV} (h : Run G A spec_l1In.b (params 0 cs) [] (QF true [.V, .V, .V] [.tmp 6] r)) : A 97 cs = some r := A_run T_spec_l1In h
theorem runE_spec_l1In {cs : List CV} {X : List CV → List CV → Prop} (h : Run G A spec_l1In.b (params 0 cs) [] (QE true [.V, .V, .V] [.tmp 6] X)) : ∃ rs os, A 97 cs = some (rs, os) ∧ X rs os := A_runE T_spec_l1In h
theorem run_spec_l3Node {cs : List CV} {r : List CV × List CV} (h : Run G A spec_l3Node.b (params 0 cs) [] (QF true [.V] [.tmp 2] r)) : A 121 cs = some r := A_run T_spec_l3Node h
theorem runE_spec_l3Node {cs : List CV} {X : List CV → List CV → Prop} (h : Run G A spec_l3Node.b (params 0 cs) [] (QE true [.V] [.tmp 2] X)) : ∃ rs os, A 121 cs = some (rs, os) ∧ X rs os := A_runE T_spec_l3Node h
theorem run_laws_toNode {cs : List CV} {r : List CV × List CV} (h : Run G A laws_toNode.b (params 0 cs) [] (QF true [.V] [.cell 2 5 true] r)) : A 122 cs = some r := A_run T_laws_toNode h
theorem runE_laws_toNode {cs : List CV} {X : List CV → List CV → Prop} (h : Run G A laws_toNode.b (params 0 cs) [] (QE true [.V] [.cell 2 5 true] X)) : ∃ rs os, A 122 cs = some (rs, os) ∧ X rs os := A_runE T_laws_toNode h
theorem run_impl_inRange {cs : List CV} {r : List CV × List CV} (h : Run G A impl_inRange.b (params 0 cs) [] (QF true [.V, .V, .V] [.tmp 6] r)) : A 54 cs = some r := A_run T_impl_inRange h
theorem runE_impl_inRange {cs : List CV} {X : List CV → List CV → Prop} (h : Run G A impl_inRange.b (params 0 cs) [] (QE true [.V, .V, .V] [.tmp 6] X)) : ∃ rs os, A 54 cs = some (rs, os) ∧ X rs os := A_runE T_impl_inRange h
theorem run_impl_nodeOk {cs : List CV} {r : List CV × List CV} (h : Run G A impl_nodeOk.b (params 0 cs) [] (QF true [.V] [.tmp 2] r)) : A 123 cs = some r := A_run T_impl_nodeOk h
theorem runE_impl_nodeOk {cs : List CV} {X : List CV → List CV → Prop} (h : Run G A impl_nodeOk.b (params 0 cs) [] (QE true [.V] [.tmp 2] X)) : ∃ rs os, A 123 cs = some (rs, os) ∧ X rs os := A_runE T_impl_nodeOk h
theorem run_laws_eqNode {cs : List CV} {r : List CV × List CV} (h : Run G A laws_eqNode.b (params 0 cs) [] (QF true [.V, .V] [.tmp 4] r)) : A 124 cs = some r := A_run T_laws_eqNode h
theorem runE_laws_eqNode {cs : List CV} {X : List CV → List CV → Prop} (h : Run G A laws_eqNode.b (params 0 cs) [] (QE true [.V, .V] [.tmp 4] X)) : ∃ rs os, A 124 cs = some (rs, os) ∧ X rs os := A_runE T_laws_eqNode h
theorem run_laws_szIntS {cs : List CV} {r : List CV × List CV} (h : Run G A laws_szIntS.b (params 0 cs) [] (QF true [.V, .V] [.tmp 4] r)) : A 40 cs = some r := A_run T_laws_szIntS h
theorem runE_laws_szIntS {cs : List CV} {X : List CV → List CV → Prop} (h : Run G A laws_szIntS.b (params 0 cs) [] (QE true [.V, .V] [.tmp 4] X)) : ∃ rs os, A 40 cs = some (rs, os) ∧ X rs os := A_runE T_laws_szIntS h
theorem run_laws_szStringS {cs : List CV} {r : List CV × List CV} (h : Run G A laws_szStringS.b (params 0 cs) [] (QF true [.V, .V] [.tmp 4] r)) : A 108 cs = some r := A_run T_laws_szStringS h
theorem runE_laws_szStringS {cs : List CV} {X : List CV → List CV → Prop} (h : Run G A laws_szStringS.b (params 0 cs) [] (QE true [.V, .V] [.tmp 4] X)) : ∃ rs os, A 108 cs = some (rs, os) ∧ X rs os := A_runE T_laws_szStringS h
theorem run_spec_IsName {cs : List CV} {r : List CV × List CV} (h : Run G A spec_IsName.b (params 0 cs) [] (QF true [.V] [.tmp 2] r)) : A 112 cs = some r := A_run T_spec_IsName h
theorem runE_spec_IsName {cs : List CV} {X : List CV → List CV → Prop} (h : Run G A spec_IsName.b (params 0 cs) [] (QE true [.V] [.tmp 2] X)) : ∃ rs os, A 112 cs = some (rs, os) ∧ X rs os := A_runE T_spec_IsName h
theorem run_spec_l2Sym {cs : List CV} {r : List CV × List CV} (h : Run G A spec_l2Sym.b (params 0 cs) [] (QF true [.V] [.tmp 2] r)) : A 137 cs = some r := A_run T_spec_l2Sym h
theorem runE_spec_l2Sym {cs : List CV} {X : List CV → List CV → Prop} (h : Run G A spec_l2Sym.b (params 0 cs) [] (QE true [.V] [.tmp 2] X)) : ∃ rs os, A 137 cs = some (rs, os) ∧ X rs os := A_runE T_spec_l2Sym h
theorem run_spec_l3Names {cs : List CV} {r : List CV × List CV} (h : Run G A spec_l3Names.b (params 0 cs) [] (QF true [.V, .V] [.tmp 4] r)) : A 151 cs = some r := A_run T_spec_l3Names h
theorem runE_spec_l3Names {cs : List CV} {X : List CV → List CV → Prop} (h : Run G A spec_l3Names.b (params 0 cs) [] (QE true [.V, .V] [.tmp 4] X)) : ∃ rs os, A 151 cs = some (rs, os) ∧ X rs os := A_runE T_spec_l3Names h
theorem run_spec_l3Prim {cs : List CV} {r : List CV × List CV} (h : Run G A spec_l3Prim.b (params 0 cs) [] (QF true [.V] [.tmp 2] r)) : A 152 cs = some r := A_run T_spec_l3Prim h
theorem runE_spec_l3Prim {cs : List CV} {X : List CV → List CV → Prop} (h : Run G A spec_l3Prim.b (params 0 cs) [] (QE true [.V] [.tmp 2] X)) : ∃ rs os, A 152 cs = some (rs, os) ∧ X rs os := A_runE T_spec_l3Prim h
theorem run_laws_toIntS {cs : List CV} {r : List CV × List CV} (h : Run G A laws_toIntS.b (params 0 cs) [] (QF true [.V] [.tmp 2] r)) : A 44 cs = some r := A_run T_laws_toIntS h
theorem runE_laws_toIntS {cs : List CV} {X : List CV → List CV → Prop} (h : Run G A laws_toIntS.b (params 0 cs) [] (QE true [.V] [.tmp 2] X)) : ∃ rs os, A 44 cs = some (rs, os) ∧ X rs os := A_runE T_laws_toIntS h
theorem run_laws_toStringS {cs : List CV} {r : List CV × List CV} (h : Run G A laws_toStringS.b (params 0 cs) [] (QF true [.V] [.tmp 2] r)) : A 113 cs = some r := A_run T_laws_toStringS h
theorem runE_laws_toStringS {cs : List CV} {X : List CV → List CV → Prop} (h : Run G A laws_toStringS.b (params 0 cs) [] (QE true [.V] [.tmp 2] X)) : ∃ rs os, A 113 cs = some (rs, os) ∧ X rs os := A_runE T_laws_toStringS h
theorem run_impl_IsName {cs : List CV} {r : List CV × List CV} (h : Run G A impl_IsName.b (params 0 cs) [] (QF true [.V] [.tmp 2] r)) : A 148 cs = some r := A_run T_impl_IsName h
theorem runE_impl_IsName {cs : List CV} {X : List CV → List CV → Prop} (h : Run G A impl_IsName.b (params 0 cs) [] (QE true [.V] [.tmp 2] X)) : ∃ rs os, A 148 cs = some (rs, os) ∧ X rs os := A_runE T_impl_IsName h
theorem run_impl_symOk {cs : List CV} {r : List CV × List CV} (h : Run G A impl_symOk.b (params 0 cs) [] (QF true [.V] [.tmp 2] r)) : A 149 cs = some r := A_run T_impl_symOk h
theorem runE_impl_symOk {cs : List CV} {X : List CV → List CV → Prop} (h : Run G A impl_symOk.b (params 0 cs) [] (QE true [.V] [.tmp 2] X)) : ∃ rs os, A 149 cs = some (rs, os) ∧ X rs os := A_runE T_impl_symOk h
theorem run_impl_namesOk {cs : List CV} {r : List CV × List CV} (h : Run G A impl_namesOk.b (params 0 cs) [] (QF true [.V, .V] [.tmp 4] r)) : A 153 cs = some r := A_run T_impl_namesOk h
theorem runE_impl_namesOk {cs : List CV} {X : List CV → List CV → Prop} (h : Run G A impl_namesOk.b (params 0 cs) [] (QE true [.V, .V] [.tmp 4] X)) : ∃ rs os, A 153 cs = some (rs, os) ∧ X rs os := A_runE T_impl_namesOk h
theorem run_impl_primOk {cs : List CV} {r : List CV × List CV} (h : Run G A impl_primOk.b (params 0 cs) [] (QF true [.V] [.tmp 2] r)) : A 154 cs = some r := A_run T_impl_primOk h
theorem runE_impl_primOk {cs : List CV} {X : List CV → List CV → Prop} (h : Run G A impl_primOk.b (params 0 cs) [] (QE true [.V] [.tmp 2] X)) : ∃ rs os, A 154 cs = some (rs, os) ∧ X rs os := A_runE T_impl_primOk h
theorem run_laws_eqIntS {cs : List CV} {r : List CV × List CV} (h : Run G A laws_eqIntS.b (params 0 cs) [] (QF true [.V, .V] [.tmp 4] r)) : A 50 cs = some r := A_run T_laws_eqIntS h
theorem runE_laws_eqIntS {cs : List CV} {X : List CV → List CV → Prop} (h : Run G A laws_eqIntS.b (params 0 cs) [] (QE true [.V, .V] [.tmp 4] X)) : ∃ rs os, A 50 cs = some (rs, os) ∧ X rs os := A_runE T_laws_eqIntS h
theorem run_laws_eqStringS {cs : List CV} {r : List CV × List CV} (h : Run G A laws_eqStringS.b (params 0 cs) [] (QF true [.V, .V] [.tmp 4] r)) : A 118 cs = some r := A_run T_laws_eqStringS h
theorem runE_laws_eqStringS {cs : List CV} {X : List CV → List CV → Prop} (h : Run G A laws_eqStringS.b (params 0 cs) [] (QE true [.V, .V] [.tmp 4] X)) : ∃ rs os, A 118 cs = some (rs, os) ∧ X rs os := A_runE T_laws_eqStringS h
theorem run_spec_l3Word {cs : List CV} {r : List CV × List CV} (h : Run G A spec_l3Word.b (params 0 cs) [] (QF true [.V] [.tmp 2] r)) : A 145 cs = some r := A_run T_spec_l3Word h
theorem runE_spec_l3Word {cs : List CV} {X : List CV → List CV → Prop} (h : Run G A spec_l3Word.b (params 0 cs) [] (QE true [.V] [.tmp 2] X)) : ∃ rs os, A 145 cs = some (rs, os) ∧ X rs os := A_runE T_spec_l3Word h
theorem run_spec_Arity {cs : List CV} {r : List CV × List CV} (h : Run G A spec_Arity.b (params 0 cs) [] (QF true [.V] [.tmp 2] r)) : A 146 cs = some r := A_run T_spec_Arity h
theorem runE_spec_Arity {cs : List CV} {X : List CV → List CV → Prop} (h : Run G A spec_Arity.b (params 0 cs) [] (QE true [.V] [.tmp 2] X)) : ∃ rs os, A 146 cs = some (rs, os) ∧ X rs os := A_runE T_spec_Arity h
theorem run_spec_l2Sign {cs : List CV} {r : List CV × List CV} (h : Run G A spec_l2Sign.b (params 0 cs) [] (QF true [.V] [.tmp 2] r)) : A 135 cs = some r := A_run T_spec_l2Sign h
theorem runE_spec_l2Sign {cs : List CV} {X : List CV → List CV → Prop} (h : Run G A spec_l2Sign.b (params 0 cs) [] (QE true [.V] [.tmp 2] X)) : ∃ rs os, A 135 cs = some (rs, os) ∧ X rs os := A_runE T_spec_l2Sign h
theorem run_spec_ReadDec {cs : List CV} {r : List CV × List CV} (h : Run G A spec_ReadDec.b (params 0 cs) [] (QF true [.V] [.tmp 2, .tmp 3] r)) : A 136 cs = some r := A_run T_spec_ReadDec h
theorem runE_spec_ReadDec {cs : List CV} {X : List CV → List CV → Prop} (h : Run G A spec_ReadDec.b (params 0 cs) [] (QE true [.V] [.tmp 2, .tmp 3] X)) : ∃ rs os, A 136 cs = some (rs, os) ∧ X rs os := A_runE T_spec_ReadDec h
theorem run_spec_l2Digit {cs : List CV} {r : List CV × List CV} (h : Run G A spec_l2Digit.b (params 0 cs) [] (QF true [.V] [.tmp 2] r)) : A 162 cs = some r := A_run T_spec_l2Digit h
theorem runE_spec_l2Digit {cs : List CV} {X : List CV → List CV → Prop} (h : Run G A spec_l2Digit.b (params 0 cs) [] (QE true [.V] [.tmp 2] X)) : ∃ rs os, A 162 cs = some (rs, os) ∧ X rs os := A_runE T_spec_l2Digit h
theorem run_spec_l3In {cs : List CV} {r : List CV × List CV} (h : Run G A spec_l3In.b (params 0 cs) [] (QF true [.V, .V] [.tmp 4] r)) : A 165 cs = some r := A_run T_spec_l3In h
theorem runE_spec_l3In {cs : List CV} {X : List CV → List CV → Prop} (h : Run G A spec_l3In.b (params 0 cs) [] (QE true [.V, .V] [.tmp 4] X)) : ∃ rs os, A 165 cs = some (rs, os) ∧ X rs os := A_runE T_spec_l3In h
theorem run_impl_isOneOf {cs : List CV} {r : List CV × List CV} (h : Run G A impl_isOneOf.b (params 0 cs) [] (QF true [.V, .V] [.tmp 4] r)) : A 166 cs = some r := A_run T_impl_isOneOf h
theorem runE_impl_isOneOf {cs : List CV} {X : List CV → List CV → Prop} (h : Run G A impl_isOneOf.b (params 0 cs) [] (QE true [.V, .V] [.tmp 4] X)) : ∃ rs os, A 166 cs = some (rs, os) ∧ X rs os := A_runE T_impl_isOneOf h
theorem run_impl_Arity {cs : List CV} {r : List CV × List CV} (h : Run G A impl_Arity.b (params 0 cs) [] (QF true [.V] [.tmp 2] r)) : A 167 cs = some r := A_run T_impl_Arity h
theorem runE_impl_Arity {cs : List CV} {X : List CV → List CV → Prop} (h : Run G A impl_Arity.b (params 0 cs) [] (QE true [.V] [.tmp 2] X)) : ∃ rs os, A 167 cs = some (rs, os) ∧ X rs os := A_runE T_impl_Arity h
theorem run_impl_isSymByte {cs : List CV} {r : List CV × List CV} (h : Run G A impl_isSymByte.b (params 0 cs) [] (QF true [.V] [.tmp 2] r)) : A 163 cs = some r := A_run T_impl_isSymByte h
theorem runE_impl_isSymByte {cs : List CV} {X : List CV → List CV → Prop} (h : Run G A impl_isSymByte.b (params 0 cs) [] (QE true [.V] [.tmp 2] X)) : ∃ rs os, A 163 cs = some (rs, os) ∧ X rs os := A_runE T_impl_isSymByte h
theorem run_slices_Index_string_string {cs : List CV} {r : List CV × List CV} (h : Run G A slices_Index_string_string.b (params 0 cs) [] (QF true [.V, .V] [.tmp 4] r)) : A 168 cs = some r := A_run T_slices_Index_string_string h
theorem runE_slices_Index_string_string {cs : List CV} {X : List CV → List CV → Prop} (h : Run G A slices_Index_string_string.b (params 0 cs) [] (QE true [.V, .V] [.tmp 4] X)) : ∃ rs os, A 168 cs = some (rs, os) ∧ X rs os := A_runE T_slices_Index_string_string h
theorem run_impl_isTyped {cs : List CV} {r : List CV × List CV} (h : Run G A impl_isTyped.b (params 0 cs) [] (QF true [.V] [.tmp 2] r)) : A 169 cs = some r := A_run T_impl_isTyped h
theorem runE_impl_isTyped {cs : List CV} {X : List CV → List CV → Prop} (h : Run G A impl_isTyped.b (params 0 cs) [] (QE true [.V] [.tmp 2] X)) : ∃ rs os, A 169 cs = some (rs, os) ∧ X rs os := A_runE T_impl_isTyped h
theorem run_spec_l2In {cs : List CV} {r : List CV × List CV} (h : Run G A spec_l2In.b (params 0 cs) [] (QF true [.V, .V] [.tmp 4] r)) : A 134 cs = some r := A_run T_spec_l2In h
theorem runE_spec_l2In {cs : List CV} {X : List CV → List CV → Prop} (h : Run G A spec_l2In.b (params 0 cs) [] (QE true [.V, .V] [.tmp 4] X)) : ∃ rs os, A 134 cs = some (rs, os) ∧ X rs os := A_runE T_spec_l2In h
theorem run_spec_Dec {cs : List CV} {r : List CV × List CV} (h : Run G A spec_Dec.b (params 0 cs) [] (QF true [.V] [.tmp 2] r)) : A 83 cs = some r := A_run T_spec_Dec h
theorem runE_spec_Dec {cs : List CV} {X : List CV → List CV → Prop} (h : Run G A spec_Dec.b (params 0 cs) [] (QE true [.V] [.tmp 2] X)) : ∃ rs os, A 83 cs = some (rs, os) ∧ X rs os := A_runE T_spec_Dec h
theorem T_impl_ReadDec : T 20 = none := by kernel_rfl
@[simp] theorem G_20 : G 20 = some ⟨[.V], true⟩ := by kernel_rfl
theorem P_impl_ReadDec {cs : List CV} {r : List CV × List CV} (h : prim_impl_ReadDec.run cs = some r) : A 20 cs = some r := A_prim T_impl_ReadDec (by rw [← h]; rfl)
theorem T_strings_Contains : T 178 = none := by kernel_rfl
@[simp] theorem G_178 : G 178 = some ⟨[.V, .V], true⟩ := by kernel_rfl
theorem P_strings_Contains {cs : List CV} {r : List CV × List CV} (h : prim_strings_Contains.run cs = some r) : A 178 cs = some r := A_prim T_strings_Contains (by rw [← h]; rfl)
theorem T_strings_IndexByte : T 58 = none := by kernel_rfl
@[simp] theorem G_58 : G 58 = some ⟨[.V, .V], true⟩ := by kernel_rfl
theorem P_strings_IndexByte {cs : List CV} {r : List CV × List CV} (h : prim_strings_IndexByte.run cs = some r) : A 58 cs = some r := A_prim T_strings_IndexByte (by rw [← h]; rfl)
end Go.Proofs.YtdoelepflcaijaaDoor.DP
