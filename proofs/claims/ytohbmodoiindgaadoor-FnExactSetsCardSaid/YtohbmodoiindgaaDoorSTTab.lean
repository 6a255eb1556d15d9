/- The table of the functions. -/
import Derived.Test.YtohbmodoiindgaaDoorSTFn0
import Derived.Test.YtohbmodoiindgaaDoorEngM7
import Derived.Test.YtohbmodoiindgaaDoorEngPContains
import Derived.Test.YtohbmodoiindgaaDoorEngPIndexByte
import Derived.Test.YtohbmodoiindgaaDoorEngPReadDec
namespace Go.Proofs.YtohbmodoiindgaaDoor.ST
open Go Go.VS
set_option maxRecDepth 100000
set_option linter.unusedVariables false
set_option linter.unusedSimpArgs false
noncomputable def tab : List (Entry Tryd.prog) := [⟨4, laws_FnExactSets, Tryd.f4, Tryd.func4, laws_FnExactSets.turned⟩,
  ⟨17, laws_szProg, Tryd.f17, Tryd.func17, laws_szProg.turned⟩,
  ⟨18, spec_Sets, Tryd.f18, Tryd.func18, spec_Sets.turned⟩,
  ⟨19, laws_toProg, Tryd.f19, Tryd.func19, laws_toProg.turned⟩,
  ⟨20, impl_Sets, Tryd.f20, Tryd.func20, impl_Sets.turned⟩,
  ⟨21, laws_eqStringS, Tryd.f21, Tryd.func21, laws_eqStringS.turned⟩,
  ⟨22, laws_eqProg, Tryd.f22, Tryd.func22, laws_eqProg.turned⟩,
  ⟨23, laws_markProg, Tryd.f23, Tryd.func23, laws_markProg.turned⟩,
  ⟨24, laws_markStringS, Tryd.f24, Tryd.func24, laws_markStringS.turned⟩,
  ⟨25, laws_heldStringS, Tryd.f25, Tryd.func25, laws_heldStringS.turned⟩,
  ⟨39, laws_szNodeS, Tryd.f39, Tryd.func39, laws_szNodeS.turned⟩,
  ⟨40, spec_ProgOk, Tryd.f40, Tryd.func40, spec_ProgOk.turned⟩,
  ⟨41, spec_l3In, Tryd.f41, Tryd.func41, spec_l3In.turned⟩,
  ⟨42, laws_toNodeS, Tryd.f42, Tryd.func42, laws_toNodeS.turned⟩,
  ⟨43, impl_ProgOk, Tryd.f43, Tryd.func43, impl_ProgOk.turned⟩,
  ⟨44, impl_addOnce, Tryd.f44, Tryd.func44, impl_addOnce.turned⟩,
  ⟨45, laws_eqNodeS, Tryd.f45, Tryd.func45, laws_eqNodeS.turned⟩,
  ⟨46, laws_markNodeS, Tryd.f46, Tryd.func46, laws_markNodeS.turned⟩,
  ⟨38, laws_markText, Tryd.f38, Tryd.func38, laws_markText.turned⟩,
  ⟨63, laws_szNode, Tryd.f63, Tryd.func63, laws_szNode.turned⟩,
  ⟨52, spec_l1In, Tryd.f52, Tryd.func52, spec_l1In.turned⟩,
  ⟨64, spec_l3Node, Tryd.f64, Tryd.func64, spec_l3Node.turned⟩,
  ⟨65, laws_toNode, Tryd.f65, Tryd.func65, laws_toNode.turned⟩,
  ⟨60, impl_inRange, Tryd.f60, Tryd.func60, impl_inRange.turned⟩,
  ⟨66, impl_nodeOk, Tryd.f66, Tryd.func66, impl_nodeOk.turned⟩,
  ⟨67, slices_Contains_string_string, Tryd.f67, Tryd.func67, slices_Contains_string_string.turned⟩,
  ⟨68, laws_eqNode, Tryd.f68, Tryd.func68, laws_eqNode.turned⟩,
  ⟨69, laws_markIntS, Tryd.f69, Tryd.func69, laws_markIntS.turned⟩,
  ⟨49, laws_szStringS, Tryd.f49, Tryd.func49, laws_szStringS.turned⟩,
  ⟨80, laws_szIntS, Tryd.f80, Tryd.func80, laws_szIntS.turned⟩,
  ⟨53, spec_l2Sym, Tryd.f53, Tryd.func53, spec_l2Sym.turned⟩,
  ⟨73, spec_IsName, Tryd.f73, Tryd.func73, spec_IsName.turned⟩,
  ⟨81, spec_l3Names, Tryd.f81, Tryd.func81, spec_l3Names.turned⟩,
  ⟨82, spec_l3Prim, Tryd.f82, Tryd.func82, spec_l3Prim.turned⟩,
  ⟨55, laws_toStringS, Tryd.f55, Tryd.func55, laws_toStringS.turned⟩,
  ⟨83, laws_toIntS, Tryd.f83, Tryd.func83, laws_toIntS.turned⟩,
  ⟨61, impl_symOk, Tryd.f61, Tryd.func61, impl_symOk.turned⟩,
  ⟨84, impl_IsName, Tryd.f84, Tryd.func84, impl_IsName.turned⟩,
  ⟨85, impl_namesOk, Tryd.f85, Tryd.func85, impl_namesOk.turned⟩,
  ⟨86, impl_primOk, Tryd.f86, Tryd.func86, impl_primOk.turned⟩,
  ⟨87, slices_Index_string_string, Tryd.f87, Tryd.func87, slices_Index_string_string.turned⟩,
  ⟨88, laws_eqIntS, Tryd.f88, Tryd.func88, laws_eqIntS.turned⟩,
  ⟨74, spec_l2Digit, Tryd.f74, Tryd.func74, spec_l2Digit.turned⟩,
  ⟨75, spec_l2Sign, Tryd.f75, Tryd.func75, spec_l2Sign.turned⟩,
  ⟨76, spec_ReadDec, Tryd.f76, Tryd.func76, spec_ReadDec.turned⟩,
  ⟨95, spec_l3Word, Tryd.f95, Tryd.func95, spec_l3Word.turned⟩,
  ⟨96, spec_Arity, Tryd.f96, Tryd.func96, spec_Arity.turned⟩,
  ⟨78, impl_isSymByte, Tryd.f78, Tryd.func78, impl_isSymByte.turned⟩,
  ⟨101, impl_isOneOf, Tryd.f101, Tryd.func101, impl_isOneOf.turned⟩,
  ⟨102, impl_Arity, Tryd.f102, Tryd.func102, impl_Arity.turned⟩,
  ⟨103, impl_isTyped, Tryd.f103, Tryd.func103, impl_isTyped.turned⟩,
  ⟨97, spec_l2In, Tryd.f97, Tryd.func97, spec_l2In.turned⟩,
  ⟨89, spec_Dec, Tryd.f89, Tryd.func89, spec_Dec.turned⟩]
noncomputable def ptab : List (PEntry Tryd.prog LaidX) := [prim_impl_ReadDec, prim_strings_IndexByte, prim_strings_Contains]
noncomputable def T : FuncId → Option VFn := tabT tab
noncomputable def G : Sigs := tabG tab ptab
noncomputable def A : Fns := lim G T (tabP ptab)
theorem A_run {f : FuncId} {vf : VFn} {cs : List CV} {r : List CV × List CV} (hT : T f = some vf) (h : Run G A vf.body (params 0 cs) [] (QF vf.sig.own vf.sig.modes vf.res r)) : A f cs = some r := lim_run hT h
theorem A_runE {f : FuncId} {vf : VFn} {cs : List CV} {X : List CV → List CV → Prop} (hT : T f = some vf) (h : Run G A vf.body (params 0 cs) [] (QE vf.sig.own vf.sig.modes vf.res X)) : ∃ rs os, A f cs = some (rs, os) ∧ X rs os := lim_runE hT h
theorem A_prim {f : FuncId} {cs : List CV} {r : List CV × List CV} (hT : T f = none) (h : tabP ptab f cs = some r) : A f cs = some r := lim_prim hT h
theorem A_answers {W : World} (hX : LaidX W) {f : FuncId} {g : Sig} {cs res outs : List CV} (hg : G f = some g) (h : A f cs = some (res, outs)) : Answers Tryd.prog W f cs res outs := lim_answers (tabT_ok tab ptab) (tabP_ok hX tab ptab) hg h
theorem T_laws_FnExactSets : T 4 = some laws_FnExactSets := by kernel_rfl
@[simp] theorem G_4 : G 4 = some ⟨[.V], true⟩ := by kernel_rfl
theorem T_laws_szProg : T 17 = some laws_szProg := by kernel_rfl
@[simp] theorem G_17 : G 17 = some ⟨[.V, .V], true⟩ := by kernel_rfl
theorem T_spec_Sets : T 18 = some spec_Sets := by kernel_rfl
@[simp] theorem G_18 : G 18 = some ⟨[.V], true⟩ := by kernel_rfl
theorem T_laws_toProg : T 19 = some laws_toProg := by kernel_rfl
@[simp] theorem G_19 : G 19 = some ⟨[.V], true⟩ := by kernel_rfl
theorem T_impl_Sets : T 20 = some impl_Sets := by kernel_rfl
@[simp] theorem G_20 : G 20 = some ⟨[.V], true⟩ := by kernel_rfl
theorem T_laws_eqStringS : T 21 = some laws_eqStringS := by kernel_rfl
@[simp] theorem G_21 : G 21 = some ⟨[.V, .V], true⟩ := by kernel_rfl
theorem T_laws_eqProg : T 22 = some laws_eqProg := by kernel_rfl
@[simp] theorem G_22 : G 22 = some ⟨[.V, .V], true⟩ := by kernel_rfl
theorem T_laws_markProg : T 23 = some laws_markProg := by kernel_rfl
@[simp] theorem G_23 : G 23 = some ⟨[.M, .V], true⟩ := by kernel_rfl
theorem T_laws_markStringS : T 24 = some laws_markStringS := by kernel_rfl
@[simp] theorem G_24 : G 24 = some ⟨[.M, .V], true⟩ := by kernel_rfl
theorem T_laws_heldStringS : T 25 = some laws_heldStringS := by kernel_rfl
@[simp] theorem G_25 : G 25 = some ⟨[.V, .V], true⟩ := by kernel_rfl
theorem T_laws_szNodeS : T 39 = some laws_szNodeS := by kernel_rfl
@[simp] theorem G_39 : G 39 = some ⟨[.V, .V], true⟩ := by kernel_rfl
theorem T_spec_ProgOk : T 40 = some spec_ProgOk := by kernel_rfl
@[simp] theorem G_40 : G 40 = some ⟨[.V], true⟩ := by kernel_rfl
theorem T_spec_l3In : T 41 = some spec_l3In := by kernel_rfl
@[simp] theorem G_41 : G 41 = some ⟨[.V, .V], true⟩ := by kernel_rfl
theorem T_laws_toNodeS : T 42 = some laws_toNodeS := by kernel_rfl
@[simp] theorem G_42 : G 42 = some ⟨[.V], true⟩ := by kernel_rfl
theorem T_impl_ProgOk : T 43 = some impl_ProgOk := by kernel_rfl
@[simp] theorem G_43 : G 43 = some ⟨[.V], true⟩ := by kernel_rfl
theorem T_impl_addOnce : T 44 = some impl_addOnce := by kernel_rfl
@[simp] theorem G_44 : G 44 = some ⟨[.O, .V], true⟩ := by kernel_rfl
theorem T_laws_eqNodeS : T 45 = some laws_eqNodeS := by kernel_rfl
@[simp] theorem G_45 : G 45 = some ⟨[.V, .V], true⟩ := by kernel_rfl
theorem T_laws_markNodeS : T 46 = some laws_markNodeS := by kernel_rfl
@[simp] theorem G_46 : G 46 = some ⟨[.M, .V], true⟩ := by kernel_rfl
theorem T_laws_markText : T 38 = some laws_markText := by kernel_rfl
@[simp] theorem G_38 : G 38 = some ⟨[.V], true⟩ := by kernel_rfl
theorem T_laws_szNode : T 63 = some laws_szNode := by kernel_rfl
@[simp] theorem G_63 : G 63 = some ⟨[.V, .V], true⟩ := by kernel_rfl
theorem T_spec_l1In : T 52 = some spec_l1In := by kernel_rfl
@[simp] theorem G_52 : G 52 = some ⟨[.V, .V, .V], true⟩ := by kernel_rfl
theorem T_spec_l3Node : T 64 = some spec_l3Node := by kernel_rfl
@[simp] theorem G_64 : G 64 = some ⟨[.V], true⟩ := by kernel_rfl
theorem T_laws_toNode : T 65 = some laws_toNode := by kernel_rfl
@[simp] theorem G_65 : G 65 = some ⟨[.V], true⟩ := by kernel_rfl
theorem T_impl_inRange : T 60 = some impl_inRange := by kernel_rfl
@[simp] theorem G_60 : G 60 = some ⟨[.V, .V, .V], true⟩ := by kernel_rfl
theorem T_impl_nodeOk : T 66 = some impl_nodeOk := by kernel_rfl
@[simp] theorem G_66 : G 66 = some ⟨[.V], true⟩ := by kernel_rfl
theorem T_slices_Contains_string_string : T 67 = some slices_Contains_string_string := by kernel_rfl
@[simp] theorem G_67 : G 67 = some ⟨[.V, .V], true⟩ := by kernel_rfl
theorem T_laws_eqNode : T 68 = some laws_eqNode := by kernel_rfl
@[simp] theorem G_68 : G 68 = some ⟨[.V, .V], true⟩ := by kernel_rfl
theorem T_laws_markIntS : T 69 = some laws_markIntS := by kernel_rfl
@[simp] theorem G_69 : G 69 = some ⟨[.M, .V], true⟩ := by kernel_rfl
theorem T_laws_szStringS : T 49 = some laws_szStringS := by kernel_rfl
@[simp] theorem G_49 : G 49 = some ⟨[.V, .V], true⟩ := by kernel_rfl
theorem T_laws_szIntS : T 80 = some laws_szIntS := by kernel_rfl
@[simp] theorem G_80 : G 80 = some ⟨[.V, .V], true⟩ := by kernel_rfl
theorem T_spec_l2Sym : T 53 = some spec_l2Sym := by kernel_rfl
@[simp] theorem G_53 : G 53 = some ⟨[.V], true⟩ := by kernel_rfl
theorem T_spec_IsName : T 73 = some spec_IsName := by kernel_rfl
@[simp] theorem G_73 : G 73 = some ⟨[.V], true⟩ := by kernel_rfl
theorem T_spec_l3Names : T 81 = some spec_l3Names := by kernel_rfl
@[simp] theorem G_81 : G 81 = some ⟨[.V, .V], true⟩ := by kernel_rfl
theorem T_spec_l3Prim : T 82 = some spec_l3Prim := by kernel_rfl
@[simp] theorem G_82 : G 82 = some ⟨[.V], true⟩ := by kernel_rfl
theorem T_laws_toStringS : T 55 = some laws_toStringS := by kernel_rfl
@[simp] theorem G_55 : G 55 = some ⟨[.V], true⟩ := by kernel_rfl
theorem T_laws_toIntS : T 83 = some laws_toIntS := by kernel_rfl
@[simp] theorem G_83 : G 83 = some ⟨[.V], true⟩ := by kernel_rfl
theorem T_impl_symOk : T 61 = some impl_symOk := by kernel_rfl
@[simp] theorem G_61 : G 61 = some ⟨[.V], true⟩ := by kernel_rfl
theorem T_impl_IsName : T 84 = some impl_IsName := by kernel_rfl
@[simp] theorem G_84 : G 84 = some ⟨[.V], true⟩ := by kernel_rfl
theorem T_impl_namesOk : T 85 = some impl_namesOk := by kernel_rfl
@[simp] theorem G_85 : G 85 = some ⟨[.V, .V], true⟩ := by kernel_rfl
theorem T_impl_primOk : T 86 = some impl_primOk := by kernel_rfl
@[simp] theorem G_86 : G 86 = some ⟨[.V], true⟩ := by kernel_rfl
theorem T_slices_Index_string_string : T 87 = some slices_Index_string_string := by kernel_rfl
@[simp] theorem G_87 : G 87 = some ⟨[.V, .V], true⟩ := by kernel_rfl
theorem T_laws_eqIntS : T 88 = some laws_eqIntS := by kernel_rfl
@[simp] theorem G_88 : G 88 = some ⟨[.V, .V], true⟩ := by kernel_rfl
theorem T_spec_l2Digit : T 74 = some spec_l2Digit := by kernel_rfl
@[simp] theorem G_74 : G 74 = some ⟨[.V], true⟩ := by kernel_rfl
theorem T_spec_l2Sign : T 75 = some spec_l2Sign := by kernel_rfl
@[simp] theorem G_75 : G 75 = some ⟨[.V], true⟩ := by kernel_rfl
theorem T_spec_ReadDec : T 76 = some spec_ReadDec := by kernel_rfl
@[simp] theorem G_76 : G 76 = some ⟨[.V], true⟩ := by kernel_rfl
theorem T_spec_l3Word : T 95 = some spec_l3Word := by kernel_rfl
@[simp] theorem G_95 : G 95 = some ⟨[.V], true⟩ := by kernel_rfl
theorem T_spec_Arity : T 96 = some spec_Arity := by kernel_rfl
@[simp] theorem G_96 : G 96 = some ⟨[.V], true⟩ := by kernel_rfl
theorem T_impl_isSymByte : T 78 = some impl_isSymByte := by kernel_rfl
@[simp] theorem G_78 : G 78 = some ⟨[.V], true⟩ := by kernel_rfl
theorem T_impl_isOneOf : T 101 = some impl_isOneOf := by kernel_rfl
@[simp] theorem G_101 : G 101 = some ⟨[.V, .V], true⟩ := by kernel_rfl
theorem T_impl_Arity : T 102 = some impl_Arity := by kernel_rfl
@[simp] theorem G_102 : G 102 = some ⟨[.V], true⟩ := by kernel_rfl
theorem T_impl_isTyped : T 103 = some impl_isTyped := by kernel_rfl
@[simp] theorem G_103 : G 103 = some ⟨[.V], true⟩ := by kernel_rfl
theorem T_spec_l2In : T 97 = some spec_l2In := by kernel_rfl
@[simp] theorem G_97 : G 97 = some ⟨[.V, .V], true⟩ := by kernel_rfl
theorem T_spec_Dec : T 89 = some spec_Dec := by kernel_rfl
@[simp] theorem G_89 : G 89 = some ⟨[.V], true⟩ := by kernel_rfl
theorem run_laws_FnExactSets {cs : List CV} {r : List CV × List CV} (h : Run G A laws_FnExactSets.b (params 0 cs) [] (QF true [.V] [.tmp 2] r)) : A 4 cs = some r := A_run T_laws_FnExactSets h
theorem runE_laws_FnExactSets {cs : List CV} {X : List CV → List CV → Prop} (h : Run G A laws_FnExactSets.b (params 0 cs) [] (QE true [.V] [.tmp 2] X)) : ∃ rs os, A 4 cs = some (rs, os) ∧ X rs os := A_runE T_laws_FnExactSets h
theorem run_laws_szProg {cs : List CV} {r : List CV × List CV} (h : Run G A laws_szProg.b (params 0 cs) [] (QF true [.V, .V] [.tmp 4] r)) : A 17 cs = some r := A_run T_laws_szProg h
theorem runE_laws_szProg {cs : List CV} {X : List CV → List CV → Prop} (h : Run G A laws_szProg.b (params 0 cs) [] (QE true [.V, .V] [.tmp 4] X)) : ∃ rs os, A 17 cs = some (rs, os) ∧ X rs os := A_runE T_laws_szProg h
theorem run_spec_Sets {cs : List CV} {r : List CV × List CV} (h : Run G A spec_Sets.b (params 0 cs) [] (QF true [.V] [.tmp 2] r)) : A 18 cs = some r := A_run T_spec_Sets h
theorem runE_spec_Sets {cs : List CV} {X : List CV → List CV → Prop} (h : Run G A spec_Sets.b (params 0 cs) [] (QE true [.V] [.tmp 2] X)) : ∃ rs os, A 18 cs = some (rs, os) ∧ X rs os := A_runE T_spec_Sets h
theorem run_laws_toProg {cs : List CV} {r : List CV × List CV} (h : Run G A laws_toProg.b (params 0 cs) [] (QF true [.V] [.cell 2 2 true] r)) : A 19 cs = some r := A_run T_laws_toProg h
theorem runE_laws_toProg {cs : List CV} {X : List CV → List CV → Prop} (h : Run G A laws_toProg.b (params 0 cs) [] (QE true [.V] [.cell 2 2 true] X)) : ∃ rs os, A 19 cs = some (rs, os) ∧ X rs os := A_runE T_laws_toProg h
theorem run_impl_Sets {cs : List CV} {r : List CV × List CV} (h : Run G A impl_Sets.b (params 0 cs) [] (QF true [.V] [.tmp 2] r)) : A 20 cs = some r := A_run T_impl_Sets h
theorem runE_impl_Sets {cs : List CV} {X : List CV → List CV → Prop} (h : Run G A impl_Sets.b (params 0 cs) [] (QE true [.V] [.tmp 2] X)) : ∃ rs os, A 20 cs = some (rs, os) ∧ X rs os := A_runE T_impl_Sets h
theorem run_laws_eqStringS {cs : List CV} {r : List CV × List CV} (h : Run G A laws_eqStringS.b (params 0 cs) [] (QF true [.V, .V] [.tmp 4] r)) : A 21 cs = some r := A_run T_laws_eqStringS h
theorem runE_laws_eqStringS {cs : List CV} {X : List CV → List CV → Prop} (h : Run G A laws_eqStringS.b (params 0 cs) [] (QE true [.V, .V] [.tmp 4] X)) : ∃ rs os, A 21 cs = some (rs, os) ∧ X rs os := A_runE T_laws_eqStringS h
theorem run_laws_eqProg {cs : List CV} {r : List CV × List CV} (h : Run G A laws_eqProg.b (params 0 cs) [] (QF true [.V, .V] [.tmp 4] r)) : A 22 cs = some r := A_run T_laws_eqProg h
theorem runE_laws_eqProg {cs : List CV} {X : List CV → List CV → Prop} (h : Run G A laws_eqProg.b (params 0 cs) [] (QE true [.V, .V] [.tmp 4] X)) : ∃ rs os, A 22 cs = some (rs, os) ∧ X rs os := A_runE T_laws_eqProg h
theorem run_laws_markProg {cs : List CV} {r : List CV × List CV} (h : Run G A laws_markProg.b (params 0 cs) [] (QF true [.M, .V] [.tmp 4] r)) : A 23 cs = some r := A_run T_laws_markProg h
theorem runE_laws_markProg {cs : List CV} {X : List CV → List CV → Prop} (h : Run G A laws_markProg.b (params 0 cs) [] (QE true [.M, .V] [.tmp 4] X)) : ∃ rs os, A 23 cs = some (rs, os) ∧ X rs os := A_runE T_laws_markProg h
theorem run_laws_markStringS {cs : List CV} {r : List CV × List CV} (h : Run G A laws_markStringS.b (params 0 cs) [] (QF true [.M, .V] [.tmp 4] r)) : A 24 cs = some r := A_run T_laws_markStringS h
theorem runE_laws_markStringS {cs : List CV} {X : List CV → List CV → Prop} (h : Run G A laws_markStringS.b (params 0 cs) [] (QE true [.M, .V] [.tmp 4] X)) : ∃ rs os, A 24 cs = some (rs, os) ∧ X rs os := A_runE T_laws_markStringS h
theorem run_laws_heldStringS {cs : List CV} {r : List CV × List CV} (h : Run G A laws_heldStringS.b (params 0 cs) [] (QF true [.V, .V] [.tmp 4] r)) : A 25 cs = some r := A_run T_laws_heldStringS h
theorem runE_laws_heldStringS {cs : List CV} {X : List CV → List CV → Prop} (h : Run G A laws_heldStringS.b (params 0 cs) [] (QE true [.V, .V] [.tmp 4] X)) : ∃ rs os, A 25 cs = some (rs, os) ∧ X rs os := A_runE T_laws_heldStringS h
theorem run_laws_szNodeS {cs : List CV} {r : List CV × List CV} (h : Run G A laws_szNodeS.b (params 0 cs) [] (QF true [.V, .V] [.tmp 4] r)) : A 39 cs = some r := A_run T_laws_szNodeS h
theorem runE_laws_szNodeS {cs : List CV} {X : List CV → List CV → Prop} (h : Run G A laws_szNodeS.b (params 0 cs) [] (QE true [.V, .V] [.tmp 4] X)) : ∃ rs os, A 39 cs = some (rs, os) ∧ X rs os := A_runE T_laws_szNodeS h
theorem run_spec_ProgOk {cs : List CV} {r : List CV × List CV} (h : Run G A spec_ProgOk.b (params 0 cs) [] (QF true [.V] [.tmp 2] r)) : A 40 cs = some r := A_run T_spec_ProgOk h
theorem runE_spec_ProgOk {cs : List CV} {X : List CV → List CV → Prop} (h : Run G A spec_ProgOk.b (params 0 cs) [] (QE true [.V] [.tmp 2] X)) : ∃ rs os, A 40 cs = some (rs, os) ∧ X rs os := A_runE T_spec_ProgOk h
theorem run_spec_l3In {cs : List CV} {r : List CV × List CV} (h : Run G A spec_l3In.b (params 0 cs) [] (QF true [.V, .V] [.tmp 4] r)) : A 41 cs = some r := A_run T_spec_l3In h
theorem runE_spec_l3In {cs : List CV} {X : List CV → List CV → Prop} (h : Run G A spec_l3In.b (params 0 cs) [] (QE true [.V, .V] [.tmp 4] X)) : ∃ rs os, A 41 cs = some (rs, os) ∧ X rs os := A_runE T_spec_l3In h
theorem run_laws_toNodeS {cs : List CV} {r : List CV × List CV} (h : Run G A laws_toNodeS.b (params 0 cs) [] (QF true [.V] [.tmp 2] r)) : A 42 cs = some r := A_run T_laws_toNodeS h
theorem runE_laws_toNodeS {cs : List CV} {X : List CV → List CV → Prop} (h : Run G A laws_toNodeS.b (params 0 cs) [] (QE true [.V] [.tmp 2] X)) : ∃ rs os, A 42 cs = some (rs, os) ∧ X rs os := A_runE T_laws_toNodeS h
theorem run_impl_ProgOk {cs : List CV} {r : List CV × List CV} (h : Run G A impl_ProgOk.b (params 0 cs) [] (QF true [.V] [.tmp 2] r)) : A 43 cs = some r := A_run T_impl_ProgOk h
theorem runE_impl_ProgOk {cs : List CV} {X : List CV → List CV → Prop} (h : Run G A impl_ProgOk.b (params 0 cs) [] (QE true [.V] [.tmp 2] X)) : ∃ rs os, A 43 cs = some (rs, os) ∧ X rs os := A_runE T_impl_ProgOk h
theorem run_impl_addOnce {cs : List CV} {r : List CV × List CV} (h : Run G A impl_addOnce.b (params 0 cs) [] (QF true [.O, .V] [.tmp 4] r)) : A 44 cs = some r := A_run T_impl_addOnce h
theorem runE_impl_addOnce {cs : List CV} {X : List CV → List CV → Prop} (h : Run G A impl_addOnce.b (params 0 cs) [] (QE true [.O, .V] [.tmp 4] X)) : ∃ rs os, A 44 cs = some (rs, os) ∧ X rs os := A_runE T_impl_addOnce h
theorem run_laws_eqNodeS {cs : List CV} {r : List CV × List CV} (h : Run G A laws_eqNodeS.b (params 0 cs) [] (QF true [.V, .V] [.tmp 4] r)) : A 45 cs = some r := A_run T_laws_eqNodeS h
theorem runE_laws_eqNodeS {cs : List CV} {X : List CV → List CV → Prop} (h : Run G A laws_eqNodeS.b (params 0 cs) [] (QE true [.V, .V] [.tmp 4] X)) : ∃ rs os, A 45 cs = some (rs, os) ∧ X rs os := A_runE T_laws_eqNodeS h
theorem run_laws_markNodeS {cs : List CV} {r : List CV × List CV} (h : Run G A laws_markNodeS.b (params 0 cs) [] (QF true [.M, .V] [.tmp 4] r)) : A 46 cs = some r := A_run T_laws_markNodeS h
theorem runE_laws_markNodeS {cs : List CV} {X : List CV → List CV → Prop} (h : Run G A laws_markNodeS.b (params 0 cs) [] (QE true [.M, .V] [.tmp 4] X)) : ∃ rs os, A 46 cs = some (rs, os) ∧ X rs os := A_runE T_laws_markNodeS h
theorem run_laws_markText {cs : List CV} {r : List CV × List CV} (h : Run G A laws_markText.b (params 0 cs) [] (QF true [.V] [.tmp 2] r)) : A 38 cs = some r := A_run T_laws_markText h
theorem runE_laws_markText {cs : List CV} {X : List CV → List CV → Prop} (h : Run G A laws_markText.b (params 0 cs) [] (QE true [.V] [.tmp 2] X)) : ∃ rs os, A 38 cs = some (rs, os) ∧ X rs os := A_runE T_laws_markText h
theorem run_laws_szNode {cs : List CV} {r : List CV × List CV} (h : Run G A laws_szNode.b (params 0 cs) [] (QF true [.V, .V] [.tmp 4] r)) : A 63 cs = some r := A_run T_laws_szNode h
theorem runE_laws_szNode {cs : List CV} {X : List CV → List CV → Prop} (h : Run G A laws_szNode.b (params 0 cs) [] (QE true [.V, .V] [.tmp 4] X)) : ∃ rs os, A 63 cs = some (rs, os) ∧ X rs os := A_runE T_laws_szNode h
theorem run_spec_l1In {cs : List CV} {r : List CV × List CV} (h : Run G A spec_l1In.b (params 0 cs) [] (QF true [.V, .V, .V] [.tmp 6] r)) : A 52 cs = some r := A_run T_spec_l1In h
theorem runE_spec_l1In {cs : List CV} {X : List CV → List CV → Prop} (h : Run G A spec_l1In.b (params 0 cs) [] (QE true [.V, .V, .V] [.tmp 6] X)) : ∃ rs os, A 52 cs = some (rs, os) ∧ X rs os := A_runE T_spec_l1In h
theorem run_spec_l3Node {cs : List CV} {r : List CV × List CV} (h : Run G A spec_l3Node.b (params 0 cs) [] (QF true [.V] [.tmp 2] r)) : A 64 cs = some r := A_run T_spec_l3Node h
theorem runE_spec_l3Node {cs : List CV} {X : List CV → List CV → Prop} (h : Run G A spec_l3Node.b (params 0 cs) [] (QE true [.V] [.tmp 2] X)) : ∃ rs os, A 64 cs = some (rs, os) ∧ X rs os := A_runE T_spec_l3Node h
theorem run_laws_toNode {cs : List CV} {r : List CV × List CV} (h : Run G A laws_toNode.b (params 0 cs) [] (QF true [.V] [.cell 2 5 true] r)) : A 65 cs = some r := A_run T_laws_toNode h
theorem runE_laws_toNode {cs : List CV} {X : List CV → List CV → Prop} (h : Run G A laws_toNode.b (params 0 cs) [] (QE true [.V] [.cell 2 5 true] X)) : ∃ rs os, A 65 cs = some (rs, os) ∧ X rs os := A_runE T_laws_toNode h
theorem run_impl_inRange {cs : List CV} {r : List CV × List CV} (h : Run G A impl_inRange.b (params 0 cs) [] (QF true [.V, .V, .V] [.tmp 6] r)) : A 60 cs = some r := A_run T_impl_inRange h
theorem runE_impl_inRange {cs : List CV} {X : List CV → List CV → Prop} (h : Run G A impl_inRange.b (params 0 cs) [] (QE true [.V, .V, .V] [.tmp 6] X)) : ∃ rs os, A 60 cs = some (rs, os) ∧ X rs os := A_runE T_impl_inRange h
theorem run_impl_nodeOk {cs : List CV} {r : List CV × List CV} (h : Run G A impl_nodeOk.b (params 0 cs) [] (QF true [.V] [.tmp 2] r)) : A 66 cs = some r := A_run T_impl_nodeOk h
theorem runE_impl_nodeOk {cs : List CV} {X : List CV → List CV → Prop} (h : Run G A impl_nodeOk.b (params 0 cs) [] (QE true [.V] [.tmp 2] X)) : ∃ rs os, A 66 cs = some (rs, os) ∧ X rs os := A_runE T_impl_nodeOk h
theorem run_slices_Contains_string_string {cs : List CV} {r : List CV × List CV} (h : Run G A slices_Contains_string_string.b (params 0 cs) [] (QF true [.V, .V] [.tmp 4] r)) : A 67 cs = some r := A_run T_slices_Contains_string_string h
theorem runE_slices_Contains_string_string {cs : List CV} {X : List CV → List CV → Prop} (h : Run G A slices_Contains_string_string.b (params 0 cs) [] (QE true [.V, .V] [.tmp 4] X)) : ∃ rs os, A 67 cs = some (rs, os) ∧ X rs os := A_runE T_slices_Contains_string_string h
theorem run_laws_eqNode {cs : List CV} {r : List CV × List CV} (h : Run G A laws_eqNode.b (params 0 cs) [] (QF true [.V, .V] [.tmp 4] r)) : A 68 cs = some r := A_run T_laws_eqNode h
theorem runE_laws_eqNode {cs : List CV} {X : List CV → List CV → Prop} (h : Run G A laws_eqNode.b (params 0 cs) [] (QE true [.V, .V] [.tmp 4] X)) : ∃ rs os, A 68 cs = some (rs, os) ∧ X rs os := A_runE T_laws_eqNode h
theorem run_laws_markIntS {cs : List CV} {r : List CV × List CV} (h : Run G A laws_markIntS.b (params 0 cs) [] (QF true [.M, .V] [.tmp 4] r)) : A 69 cs = some r := A_run T_laws_markIntS h
theorem runE_laws_markIntS {cs : List CV} {X : List CV → List CV → Prop} (h : Run G A laws_markIntS.b (params 0 cs) [] (QE true [.M, .V] [.tmp 4] X)) : ∃ rs os, A 69 cs = some (rs, os) ∧ X rs os := A_runE T_laws_markIntS h
theorem run_laws_szStringS {cs : List CV} {r : List CV × List CV} (h : Run G A laws_szStringS.b (params 0 cs) [] (QF true [.V, .V] [.tmp 4] r)) : A 49 cs = some r := A_run T_laws_szStringS h
theorem runE_laws_szStringS {cs : List CV} {X : List CV → List CV → Prop} (h : Run G A laws_szStringS.b (params 0 cs) [] (QE true [.V, .V] [.tmp 4] X)) : ∃ rs os, A 49 cs = some (rs, os) ∧ X rs os := A_runE T_laws_szStringS h
theorem run_laws_szIntS {cs : List CV} {r : List CV × List CV} (h : Run G A laws_szIntS.b (params 0 cs) [] (QF true [.V, .V] [.tmp 4] r)) : A 80 cs = some r := A_run T_laws_szIntS h
theorem runE_laws_szIntS {cs : List CV} {X : List CV → List CV → Prop} (h : Run G A laws_szIntS.b (params 0 cs) [] (QE true [.V, .V] [.tmp 4] X)) : ∃ rs os, A 80 cs = some (rs, os) ∧ X rs os := A_runE T_laws_szIntS h
theorem run_spec_l2Sym {cs : List CV} {r : List CV × List CV} (h : Run G A spec_l2Sym.b (params 0 cs) [] (QF true [.V] [.tmp 2] r)) : A 53 cs = some r := A_run T_spec_l2Sym h
theorem runE_spec_l2Sym {cs : List CV} {X : List CV → List CV → Prop} (h : Run G A spec_l2Sym.b (params 0 cs) [] (QE true [.V] [.tmp 2] X)) : ∃ rs os, A 53 cs = some (rs, os) ∧ X rs os := A_runE T_spec_l2Sym h
theorem run_spec_IsName {cs : List CV} {r : List CV × List CV} (h : Run G A spec_IsName.b (params 0 cs) [] (QF true [.V] [.tmp 2] r)) : A 73 cs = some r := A_run T_spec_IsName h
theorem runE_spec_IsName {cs : List CV} {X : List CV → List CV → Prop} (h : Run G A spec_IsName.b (params 0 cs) [] (QE true [.V] [.tmp 2] X)) : ∃ rs os, A 73 cs = some (rs, os) ∧ X rs os := A_runE T_spec_IsName h
theorem run_spec_l3Names {cs : List CV} {r : List CV × List CV} (h : Run G A spec_l3Names.b (params 0 cs) [] (QF true [.V, .V] [.tmp 4] r)) : A 81 cs = some r := A_run T_spec_l3Names h
theorem runE_spec_l3Names {cs : List CV} {X : List CV → List CV → Prop} (h : Run G A spec_l3Names.b (params 0 cs) [] (QE true [.V, .V] [.tmp 4] X)) : ∃ rs os, A 81 cs = some (rs, os) ∧ X rs os := A_runE T_spec_l3Names h
theorem run_spec_l3Prim {cs : List CV} {r : List CV × List CV} (h : Run G A spec_l3Prim.b (params 0 cs) [] (QF true [.V] [.tmp 2] r)) : A 82 cs = some r := A_run T_spec_l3Prim h
theorem runE_spec_l3Prim {cs : List CV} {X : List CV → List CV → Prop} (h : Run G A spec_l3Prim.b (params 0 cs) [] (QE true [.V] [.tmp 2] X)) : ∃ rs os, A 82 cs = some (rs, os) ∧ X rs os := A_runE T_spec_l3Prim h
theorem run_laws_toStringS {cs : List CV} {r : List CV × List CV} (h : Run G A laws_toStringS.b (params 0 cs) [] (QF true [.V] [.tmp 2] r)) : A 55 cs = some r := A_run T_laws_toStringS h
theorem runE_laws_toStringS {cs : List CV} {X : List CV → List CV → Prop} (h : Run G A laws_toStringS.b (params 0 cs) [] (QE true [.V] [.tmp 2] X)) : ∃ rs os, A 55 cs = some (rs, os) ∧ X rs os := A_runE T_laws_toStringS h
theorem run_laws_toIntS {cs : List CV} {r : List CV × List CV} (h : Run G A laws_toIntS.b (params 0 cs) [] (QF true [.V] [.tmp 2] r)) : A 83 cs = some r := A_run T_laws_toIntS h
theorem runE_laws_toIntS {cs : List CV} {X : List CV → List CV → Prop} (h : Run G A laws_toIntS.b (params 0 cs) [] (QE true [.V] [.tmp 2] X)) : ∃ rs os, A 83 cs = some (rs, os) ∧ X rs os := A_runE T_laws_toIntS h
theorem run_impl_symOk {cs : List CV} {r : List CV × List CV} (h : Run G A impl_symOk.b (params 0 cs) [] (QF true [.V] [.tmp 2] r)) : A 61 cs = some r := A_run T_impl_symOk h
theorem runE_impl_symOk {cs : List CV} {X : List CV → List CV → Prop} (h : Run G A impl_symOk.b (params 0 cs) [] (QE true [.V] [.tmp 2] X)) : ∃ rs os, A 61 cs = some (rs, os) ∧ X rs os := A_runE T_impl_symOk h
theorem run_impl_IsName {cs : List CV} {r : List CV × List CV} (h : Run G A impl_IsName.b (params 0 cs) [] (QF true [.V] [.tmp 2] r)) : A 84 cs = some r := A_run T_impl_IsName h
theorem runE_impl_IsName {cs : List CV} {X : List CV → List CV → Prop} (h : Run G A impl_IsName.b (params 0 cs) [] (QE true [.V] [.tmp 2] X)) : ∃ rs os, A 84 cs = some (rs, os) ∧ X rs os := A_runE T_impl_IsName h
theorem run_impl_namesOk {cs : List CV} {r : List CV × List CV} (h : Run G A impl_namesOk.b (params 0 cs) [] (QF true [.V, .V] [.tmp 4] r)) : A 85 cs = some r := A_run T_impl_namesOk h
theorem runE_impl_namesOk {cs : List CV} {X : List CV → List CV → Prop} (h : Run G A impl_namesOk.b (params 0 cs) [] (QE true [.V, .V] [.tmp 4] X)) : ∃ rs os, A 85 cs = some (rs, os) ∧ X rs os := A_runE T_impl_namesOk h
theorem run_impl_primOk {cs : List CV} {r : List CV × List CV} (h : Run G A impl_primOk.b (params 0 cs) [] (QF true [.V] [.tmp 2] r)) : A 86 cs = some r := A_run T_impl_primOk h
theorem runE_impl_primOk {cs : List CV} {X : List CV → List CV → Prop} (h : Run G A impl_primOk.b (params 0 cs) [] (QE true [.V] [.tmp 2] X)) : ∃ rs os, A 86 cs = some (rs, os) ∧ X rs os := A_runE T_impl_primOk h
theorem run_slices_Index_string_string {cs : List CV} {r : List CV × List CV} (h : Run G A slices_Index_string_string.b (params 0 cs) [] (QF true [.V, .V] [.tmp 4] r)) : A 87 cs = some r := A_run T_slices_Index_string_string h
theorem runE_slices_Index_string_string {cs : List CV} {X : List CV → List CV → Prop} (h : Run G A slices_Index_string_string.b (params 0 cs) [] (QE true [.V, .V] [.tmp 4] X)) : ∃ rs os, A 87 cs = some (rs, os) ∧ X rs os := A_runE T_slices_Index_string_string h
theorem run_laws_eqIntS {cs : List CV} {r : List CV × List CV} (h : Run G A laws_eqIntS.b (params 0 cs) [] (QF true [.V, .V] [.tmp 4] r)) : A 88 cs = some r := A_run T_laws_eqIntS h
theorem runE_laws_eqIntS {cs : List CV} {X : List CV → List CV → Prop} (h : Run G A laws_eqIntS.b (params 0 cs) [] (QE true [.V, .V] [.tmp 4] X)) : ∃ rs os, A 88 cs = some (rs, os) ∧ X rs os := A_runE T_laws_eqIntS h
theorem run_spec_l2Digit {cs : List CV} {r : List CV × List CV} (h : Run G A spec_l2Digit.b (params 0 cs) [] (QF true [.V] [.tmp 2] r)) : A 74 cs = some r := A_run T_spec_l2Digit h
theorem runE_spec_l2Digit {cs : List CV} {X : List CV → List CV → Prop} (h : Run G A spec_l2Digit.b (params 0 cs) [] (QE true [.V] [.tmp 2] X)) : ∃ rs os, A 74 cs = some (rs, os) ∧ X rs os := A_runE T_spec_l2Digit h
theorem run_spec_l2Sign {cs : List CV} {r : List CV × List CV} (h : Run G A spec_l2Sign.b (params 0 cs) [] (QF true [.V] [.tmp 2] r)) : A 75 cs = some r := A_run T_spec_l2Sign h
theorem runE_spec_l2Sign {cs : List CV} {X : List CV → List CV → Prop} (h : Run G A spec_l2Sign.b (params 0 cs) [] (QE true [.V] [.tmp 2] X)) : ∃ rs os, A 75 cs = some (rs, os) ∧ X rs os := A_runE T_spec_l2Sign h
theorem run_spec_ReadDec {cs : List CV} {r : List CV × List CV} (h : Run G A spec_ReadDec.b (params 0 cs) [] (QF true [.V] [.tmp 2, .tmp 3] r)) : A 76 cs = some r := A_run T_spec_ReadDec h
theorem runE_spec_ReadDec {cs : List CV} {X : List CV → List CV → Prop} (h : Run G A spec_ReadDec.b (params 0 cs) [] (QE true [.V] [.tmp 2, .tmp 3] X)) : ∃ rs os, A 76 cs = some (rs, os) ∧ X rs os := A_runE T_spec_ReadDec h
theorem run_spec_l3Word {cs : List CV} {r : List CV × List CV} (h : Run G A spec_l3Word.b (params 0 cs) [] (QF true [.V] [.tmp 2] r)) : A 95 cs = some r := A_run T_spec_l3Word h
theorem runE_spec_l3Word {cs : List CV} {X : List CV → List CV → Prop} (h : Run G A spec_l3Word.b (params 0 cs) [] (QE true [.V] [.tmp 2] X)) : ∃ rs os, A 95 cs = some (rs, os) ∧ X rs os := A_runE T_spec_l3Word h
theorem run_spec_Arity {cs : List CV} {r : List CV × List CV} (h : Run G A spec_Arity.b (params 0 cs) [] (QF true [.V] [.tmp 2] r)) : A 96 cs = some r := A_run T_spec_Arity h
theorem runE_spec_Arity {cs : List CV} {X : List CV → List CV → Prop} (h : Run G A spec_Arity.b (params 0 cs) [] (QE true [.V] [.tmp 2] X)) : ∃ rs os, A 96 cs = some (rs, os) ∧ X rs os := A_runE T_spec_Arity h
theorem run_impl_isSymByte {cs : List CV} {r : List CV × List CV} (h : Run G A impl_isSymByte.b (params 0 cs) [] (QF true [.V] [.tmp 2] r)) : A 78 cs = some r := A_run T_impl_isSymByte h
theorem runE_impl_isSymByte {cs : List CV} {X : List CV → List CV → Prop} (h : Run G A impl_isSymByte.b (params 0 cs) [] (QE true [.V] [.tmp 2] X)) : ∃ rs os, A 78 cs = some (rs, os) ∧ X rs os := A_runE T_impl_isSymByte h
theorem run_impl_isOneOf {cs : List CV} {r : List CV × List CV} (h : Run G A impl_isOneOf.b (params 0 cs) [] (QF true [.V, .V] [.tmp 4] r)) : A 101 cs = some r := A_run T_impl_isOneOf h
theorem runE_impl_isOneOf {cs : List CV} {X : List CV → List CV → Prop} (h : Run G A impl_isOneOf.b (params 0 cs) [] (QE true [.V, .V] [.tmp 4] X)) : ∃ rs os, A 101 cs = some (rs, os) ∧ X rs os := A_runE T_impl_isOneOf h
theorem run_impl_Arity {cs : List CV} {r : List CV × List CV} (h : Run G A impl_Arity.b (params 0 cs) [] (QF true [.V] [.tmp 2] r)) : A 102 cs = some r := A_run T_impl_Arity h
theorem runE_impl_Arity {cs : List CV} {X : List CV → List CV → Prop} (h : Run G A impl_Arity.b (params 0 cs) [] (QE true [.V] [.tmp 2] X)) : ∃ rs os, A 102 cs = some (rs, os) ∧ X rs os := A_runE T_impl_Arity h
theorem run_impl_isTyped {cs : List CV} {r : List CV × List CV} (h : Run G A impl_isTyped.b (params 0 cs) [] (QF true [.V] [.tmp 2] r)) : A 103 cs = some r := A_run T_impl_isTyped h
theorem runE_impl_isTyped {cs : List CV} {X : List CV → List CV → Prop} (h : Run G A impl_isTyped.b (params 0 cs) [] (QE true [.V] [.tmp 2] X)) : ∃ rs os, A 103 cs = some (rs, os) ∧ X rs os := A_runE T_impl_isTyped h
theorem run_spec_l2In {cs : List CV} {r : List CV × List CV} (h : Run G A spec_l2In.b (params 0 cs) [] (QF true [.V, .V] [.tmp 4] r)) : A 97 cs = some r := A_run T_spec_l2In h
theorem runE_spec_l2In {cs : List CV} {X : List CV → List CV → Prop} (h : Run G A spec_l2In.b (params 0 cs) [] (QE true [.V, .V] [.tmp 4] X)) : ∃ rs os, A 97 cs = some (rs, os) ∧ X rs os := A_runE T_spec_l2In h
theorem run_spec_Dec {cs : List CV} {r : List CV × List CV} (h : Run G A spec_Dec.b (params 0 cs) [] (QF true [.V] [.tmp 2] r)) : A 89 cs = some r := A_run T_spec_Dec h
theorem runE_spec_Dec {cs : List CV} {X : List CV → List CV → Prop} (h : Run G A spec_Dec.b (params 0 cs) [] (QE true [.V] [.tmp 2] X)) : ∃ rs os, A 89 cs = some (rs, os) ∧ X rs os := A_runE T_spec_Dec h
theorem T_impl_ReadDec : T 79 = none := by kernel_rfl
@[simp] theorem G_79 : G 79 = some ⟨[.V], true⟩ := by kernel_rfl
theorem P_impl_ReadDec {cs : List CV} {r : List CV × List CV} (h : prim_impl_ReadDec.run cs = some r) : A 79 cs = some r := A_prim T_impl_ReadDec (by rw [← h]; rfl)
theorem T_strings_IndexByte : T 98 = none := by kernel_rfl
@[simp] theorem G_98 : G 98 = some ⟨[.V, .V], true⟩ := by kernel_rfl
theorem P_strings_IndexByte {cs : List CV} {r : List CV × List CV} (h : prim_strings_IndexByte.run cs = some r) : A 98 cs = some r := A_prim T_strings_IndexByte (by rw [← h]; rfl)
theorem T_strings_Contains : T 109 = none := by kernel_rfl
@[simp] theorem G_109 : G 109 = some ⟨[.V, .V], true⟩ := by kernel_rfl
theorem P_strings_Contains {cs : List CV} {r : List CV × List CV} (h : prim_strings_Contains.run cs = some r) : A 109 cs = some r := A_prim T_strings_Contains (by rw [← h]; rfl)
end Go.Proofs.YtohbmodoiindgaaDoor.ST
