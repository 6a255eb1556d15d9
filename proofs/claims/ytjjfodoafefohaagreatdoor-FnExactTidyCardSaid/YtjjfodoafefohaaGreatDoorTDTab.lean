/- The table of the functions. -/
import Derived.Test.YtjjfodoafefohaaGreatDoorTDFn0
import Derived.Test.YtjjfodoafefohaaGreatDoorEngM7
import Derived.Test.YtjjfodoafefohaaGreatDoorEngPClone
import Derived.Test.YtjjfodoafefohaaGreatDoorEngPContains
import Derived.Test.YtjjfodoafefohaaGreatDoorEngPIndexByte
import Derived.Test.YtjjfodoafefohaaGreatDoorEngPReadDec
namespace Go.Proofs.YtjjfodoafefohaaGreatDoor.TD
open Go Go.VS
set_option maxRecDepth 100000
set_option linter.unusedVariables false
set_option linter.unusedSimpArgs false
noncomputable def tab : List (Entry Tryz.prog) := [⟨4, laws_FnExactTidy, Tryz.f4, Tryz.func4, laws_FnExactTidy.turned⟩,
  ⟨12, laws_szProg, Tryz.f12, Tryz.func12, laws_szProg.turned⟩,
  ⟨14, laws_toProg, Tryz.f14, Tryz.func14, laws_toProg.turned⟩,
  ⟨17, laws_eqProg, Tryz.f17, Tryz.func17, laws_eqProg.turned⟩,
  ⟨18, laws_markProg, Tryz.f18, Tryz.func18, laws_markProg.turned⟩,
  ⟨21, spec_Tidy, Tryz.f21, Tryz.func21, spec_Tidy.turned⟩,
  ⟨22, impl_Tidy, Tryz.f22, Tryz.func22, impl_Tidy.turned⟩,
  ⟨23, laws_heldProg, Tryz.f23, Tryz.func23, laws_heldProg.turned⟩,
  ⟨50, laws_szNodeS, Tryz.f50, Tryz.func50, laws_szNodeS.turned⟩,
  ⟨53, laws_toNodeS, Tryz.f53, Tryz.func53, laws_toNodeS.turned⟩,
  ⟨57, laws_eqNodeS, Tryz.f57, Tryz.func57, laws_eqNodeS.turned⟩,
  ⟨58, laws_markNodeS, Tryz.f58, Tryz.func58, laws_markNodeS.turned⟩,
  ⟨51, spec_ProgOk, Tryz.f51, Tryz.func51, spec_ProgOk.turned⟩,
  ⟨60, spec_l23Tidy, Tryz.f60, Tryz.func60, spec_l23Tidy.turned⟩,
  ⟨55, impl_ProgOk, Tryz.f55, Tryz.func55, impl_ProgOk.turned⟩,
  ⟨61, impl_tidy, Tryz.f61, Tryz.func61, impl_tidy.turned⟩,
  ⟨62, laws_heldNodeS, Tryz.f62, Tryz.func62, laws_heldNodeS.turned⟩,
  ⟨121, laws_szNode, Tryz.f121, Tryz.func121, laws_szNode.turned⟩,
  ⟨123, laws_toNode, Tryz.f123, Tryz.func123, laws_toNode.turned⟩,
  ⟨126, laws_eqNode, Tryz.f126, Tryz.func126, laws_eqNode.turned⟩,
  ⟨19, laws_markStringS, Tryz.f19, Tryz.func19, laws_markStringS.turned⟩,
  ⟨59, laws_markText, Tryz.f59, Tryz.func59, laws_markText.turned⟩,
  ⟨127, laws_markIntS, Tryz.f127, Tryz.func127, laws_markIntS.turned⟩,
  ⟨77, spec_l1In, Tryz.f77, Tryz.func77, spec_l1In.turned⟩,
  ⟨122, spec_l3Node, Tryz.f122, Tryz.func122, spec_l3Node.turned⟩,
  ⟨54, impl_inRange, Tryz.f54, Tryz.func54, impl_inRange.turned⟩,
  ⟨124, impl_nodeOk, Tryz.f124, Tryz.func124, impl_nodeOk.turned⟩,
  ⟨128, impl_tidier_put, Tryz.f128, Tryz.func128, impl_tidier_put.turned⟩,
  ⟨20, laws_heldStringS, Tryz.f20, Tryz.func20, laws_heldStringS.turned⟩,
  ⟨129, laws_heldIntS, Tryz.f129, Tryz.func129, laws_heldIntS.turned⟩,
  ⟨67, laws_szStringS, Tryz.f67, Tryz.func67, laws_szStringS.turned⟩,
  ⟨177, laws_szIntS, Tryz.f177, Tryz.func177, laws_szIntS.turned⟩,
  ⟨78, laws_toStringS, Tryz.f78, Tryz.func78, laws_toStringS.turned⟩,
  ⟨179, laws_toIntS, Tryz.f179, Tryz.func179, laws_toIntS.turned⟩,
  ⟨16, laws_eqStringS, Tryz.f16, Tryz.func16, laws_eqStringS.turned⟩,
  ⟨181, laws_eqIntS, Tryz.f181, Tryz.func181, laws_eqIntS.turned⟩,
  ⟨70, spec_IsName, Tryz.f70, Tryz.func70, spec_IsName.turned⟩,
  ⟨141, spec_l2Sym, Tryz.f141, Tryz.func141, spec_l2Sym.turned⟩,
  ⟨162, spec_l3Names, Tryz.f162, Tryz.func162, spec_l3Names.turned⟩,
  ⟨178, spec_l3Prim, Tryz.f178, Tryz.func178, spec_l3Prim.turned⟩,
  ⟨81, impl_IsName, Tryz.f81, Tryz.func81, impl_IsName.turned⟩,
  ⟨147, impl_symOk, Tryz.f147, Tryz.func147, impl_symOk.turned⟩,
  ⟨151, impl_namesOk, Tryz.f151, Tryz.func151, impl_namesOk.turned⟩,
  ⟨180, impl_primOk, Tryz.f180, Tryz.func180, impl_primOk.turned⟩,
  ⟨142, spec_l3Word, Tryz.f142, Tryz.func142, spec_l3Word.turned⟩,
  ⟨143, spec_Arity, Tryz.f143, Tryz.func143, spec_Arity.turned⟩,
  ⟨188, spec_l2Digit, Tryz.f188, Tryz.func188, spec_l2Digit.turned⟩,
  ⟨189, spec_l2Sign, Tryz.f189, Tryz.func189, spec_l2Sign.turned⟩,
  ⟨190, spec_ReadDec, Tryz.f190, Tryz.func190, spec_ReadDec.turned⟩,
  ⟨91, spec_l3In, Tryz.f91, Tryz.func91, spec_l3In.turned⟩,
  ⟨148, impl_isOneOf, Tryz.f148, Tryz.func148, impl_isOneOf.turned⟩,
  ⟨149, impl_Arity, Tryz.f149, Tryz.func149, impl_Arity.turned⟩,
  ⟨191, impl_isSymByte, Tryz.f191, Tryz.func191, impl_isSymByte.turned⟩,
  ⟨157, slices_Index_string_string, Tryz.f157, Tryz.func157, slices_Index_string_string.turned⟩,
  ⟨203, impl_isTyped, Tryz.f203, Tryz.func203, impl_isTyped.turned⟩,
  ⟨207, spec_l2In, Tryz.f207, Tryz.func207, spec_l2In.turned⟩,
  ⟨130, spec_Dec, Tryz.f130, Tryz.func130, spec_Dec.turned⟩]
noncomputable def ptab : List (PEntry Tryz.prog LaidX) := [prim_slices_Clone_string_string, prim_impl_ReadDec, prim_strings_Contains, prim_strings_IndexByte]
noncomputable def T : FuncId → Option VFn := tabT tab
noncomputable def G : Sigs := tabG tab ptab
noncomputable def A : Fns := lim G T (tabP ptab)
theorem A_run {f : FuncId} {vf : VFn} {cs : List CV} {r : List CV × List CV} (hT : T f = some vf) (h : Run G A vf.body (params 0 cs) [] (QF vf.sig.own vf.sig.modes vf.res r)) : A f cs = some r := lim_run hT h
theorem A_runE {f : FuncId} {vf : VFn} {cs : List CV} {X : List CV → List CV → Prop} (hT : T f = some vf) (h : Run G A vf.body (params 0 cs) [] (QE vf.sig.own vf.sig.modes vf.res X)) : ∃ rs os, A f cs = some (rs, os) ∧ X rs os := lim_runE hT h
theorem A_prim {f : FuncId} {cs : List CV} {r : List CV × List CV} (hT : T f = none) (h : tabP ptab f cs = some r) : A f cs = some r := lim_prim hT h
theorem A_answers {W : World} (hX : LaidX W) {f : FuncId} {g : Sig} {cs res outs : List CV} (hg : G f = some g) (h : A f cs = some (res, outs)) : Answers Tryz.prog W f cs res outs := lim_answers (tabT_ok tab ptab) (tabP_ok hX tab ptab) hg h
theorem T_laws_FnExactTidy : T 4 = some laws_FnExactTidy := by kernel_rfl
@[simp] theorem G_4 : G 4 = some ⟨[.V], true⟩ := by kernel_rfl
theorem T_laws_szProg : T 12 = some laws_szProg := by kernel_rfl
@[simp] theorem G_12 : G 12 = some ⟨[.V, .V], true⟩ := by kernel_rfl
theorem T_laws_toProg : T 14 = some laws_toProg := by kernel_rfl
@[simp] theorem G_14 : G 14 = some ⟨[.V], true⟩ := by kernel_rfl
theorem T_laws_eqProg : T 17 = some laws_eqProg := by kernel_rfl
@[simp] theorem G_17 : G 17 = some ⟨[.V, .V], true⟩ := by kernel_rfl
theorem T_laws_markProg : T 18 = some laws_markProg := by kernel_rfl
@[simp] theorem G_18 : G 18 = some ⟨[.M, .V], true⟩ := by kernel_rfl
theorem T_spec_Tidy : T 21 = some spec_Tidy := by kernel_rfl
@[simp] theorem G_21 : G 21 = some ⟨[.V], true⟩ := by kernel_rfl
theorem T_impl_Tidy : T 22 = some impl_Tidy := by kernel_rfl
@[simp] theorem G_22 : G 22 = some ⟨[.V], true⟩ := by kernel_rfl
theorem T_laws_heldProg : T 23 = some laws_heldProg := by kernel_rfl
@[simp] theorem G_23 : G 23 = some ⟨[.V, .V], true⟩ := by kernel_rfl
theorem T_laws_szNodeS : T 50 = some laws_szNodeS := by kernel_rfl
@[simp] theorem G_50 : G 50 = some ⟨[.V, .V], true⟩ := by kernel_rfl
theorem T_laws_toNodeS : T 53 = some laws_toNodeS := by kernel_rfl
@[simp] theorem G_53 : G 53 = some ⟨[.V], true⟩ := by kernel_rfl
theorem T_laws_eqNodeS : T 57 = some laws_eqNodeS := by kernel_rfl
@[simp] theorem G_57 : G 57 = some ⟨[.V, .V], true⟩ := by kernel_rfl
theorem T_laws_markNodeS : T 58 = some laws_markNodeS := by kernel_rfl
@[simp] theorem G_58 : G 58 = some ⟨[.M, .V], true⟩ := by kernel_rfl
theorem T_spec_ProgOk : T 51 = some spec_ProgOk := by kernel_rfl
@[simp] theorem G_51 : G 51 = some ⟨[.V], true⟩ := by kernel_rfl
theorem T_spec_l23Tidy : T 60 = some spec_l23Tidy := by kernel_rfl
@[simp] theorem G_60 : G 60 = some ⟨[.V, .V, .O], true⟩ := by kernel_rfl
theorem T_impl_ProgOk : T 55 = some impl_ProgOk := by kernel_rfl
@[simp] theorem G_55 : G 55 = some ⟨[.V], true⟩ := by kernel_rfl
theorem T_impl_tidy : T 61 = some impl_tidy := by kernel_rfl
@[simp] theorem G_61 : G 61 = some ⟨[.V, .V], true⟩ := by kernel_rfl
theorem T_laws_heldNodeS : T 62 = some laws_heldNodeS := by kernel_rfl
@[simp] theorem G_62 : G 62 = some ⟨[.V, .V], true⟩ := by kernel_rfl
theorem T_laws_szNode : T 121 = some laws_szNode := by kernel_rfl
@[simp] theorem G_121 : G 121 = some ⟨[.V, .V], true⟩ := by kernel_rfl
theorem T_laws_toNode : T 123 = some laws_toNode := by kernel_rfl
@[simp] theorem G_123 : G 123 = some ⟨[.V], true⟩ := by kernel_rfl
theorem T_laws_eqNode : T 126 = some laws_eqNode := by kernel_rfl
@[simp] theorem G_126 : G 126 = some ⟨[.V, .V], true⟩ := by kernel_rfl
theorem T_laws_markStringS : T 19 = some laws_markStringS := by kernel_rfl
@[simp] theorem G_19 : G 19 = some ⟨[.M, .V], true⟩ := by kernel_rfl
theorem T_laws_markText : T 59 = some laws_markText := by kernel_rfl
@[simp] theorem G_59 : G 59 = some ⟨[.V], true⟩ := by kernel_rfl
theorem T_laws_markIntS : T 127 = some laws_markIntS := by kernel_rfl
@[simp] theorem G_127 : G 127 = some ⟨[.M, .V], true⟩ := by kernel_rfl
theorem T_spec_l1In : T 77 = some spec_l1In := by kernel_rfl
@[simp] theorem G_77 : G 77 = some ⟨[.V, .V, .V], true⟩ := by kernel_rfl
theorem T_spec_l3Node : T 122 = some spec_l3Node := by kernel_rfl
@[simp] theorem G_122 : G 122 = some ⟨[.V], true⟩ := by kernel_rfl
theorem T_impl_inRange : T 54 = some impl_inRange := by kernel_rfl
@[simp] theorem G_54 : G 54 = some ⟨[.V, .V, .V], true⟩ := by kernel_rfl
theorem T_impl_nodeOk : T 124 = some impl_nodeOk := by kernel_rfl
@[simp] theorem G_124 : G 124 = some ⟨[.V], true⟩ := by kernel_rfl
theorem T_impl_tidier_put : T 128 = some impl_tidier_put := by kernel_rfl
@[simp] theorem G_128 : G 128 = some ⟨[.M, .V], false⟩ := by kernel_rfl
theorem T_laws_heldStringS : T 20 = some laws_heldStringS := by kernel_rfl
@[simp] theorem G_20 : G 20 = some ⟨[.V, .V], true⟩ := by kernel_rfl
theorem T_laws_heldIntS : T 129 = some laws_heldIntS := by kernel_rfl
@[simp] theorem G_129 : G 129 = some ⟨[.V, .V], true⟩ := by kernel_rfl
theorem T_laws_szStringS : T 67 = some laws_szStringS := by kernel_rfl
@[simp] theorem G_67 : G 67 = some ⟨[.V, .V], true⟩ := by kernel_rfl
theorem T_laws_szIntS : T 177 = some laws_szIntS := by kernel_rfl
@[simp] theorem G_177 : G 177 = some ⟨[.V, .V], true⟩ := by kernel_rfl
theorem T_laws_toStringS : T 78 = some laws_toStringS := by kernel_rfl
@[simp] theorem G_78 : G 78 = some ⟨[.V], true⟩ := by kernel_rfl
theorem T_laws_toIntS : T 179 = some laws_toIntS := by kernel_rfl
@[simp] theorem G_179 : G 179 = some ⟨[.V], true⟩ := by kernel_rfl
theorem T_laws_eqStringS : T 16 = some laws_eqStringS := by kernel_rfl
@[simp] theorem G_16 : G 16 = some ⟨[.V, .V], true⟩ := by kernel_rfl
theorem T_laws_eqIntS : T 181 = some laws_eqIntS := by kernel_rfl
@[simp] theorem G_181 : G 181 = some ⟨[.V, .V], true⟩ := by kernel_rfl
theorem T_spec_IsName : T 70 = some spec_IsName := by kernel_rfl
@[simp] theorem G_70 : G 70 = some ⟨[.V], true⟩ := by kernel_rfl
theorem T_spec_l2Sym : T 141 = some spec_l2Sym := by kernel_rfl
@[simp] theorem G_141 : G 141 = some ⟨[.V], true⟩ := by kernel_rfl
theorem T_spec_l3Names : T 162 = some spec_l3Names := by kernel_rfl
@[simp] theorem G_162 : G 162 = some ⟨[.V, .V], true⟩ := by kernel_rfl
theorem T_spec_l3Prim : T 178 = some spec_l3Prim := by kernel_rfl
@[simp] theorem G_178 : G 178 = some ⟨[.V], true⟩ := by kernel_rfl
theorem T_impl_IsName : T 81 = some impl_IsName := by kernel_rfl
@[simp] theorem G_81 : G 81 = some ⟨[.V], true⟩ := by kernel_rfl
theorem T_impl_symOk : T 147 = some impl_symOk := by kernel_rfl
@[simp] theorem G_147 : G 147 = some ⟨[.V], true⟩ := by kernel_rfl
theorem T_impl_namesOk : T 151 = some impl_namesOk := by kernel_rfl
@[simp] theorem G_151 : G 151 = some ⟨[.V, .V], true⟩ := by kernel_rfl
theorem T_impl_primOk : T 180 = some impl_primOk := by kernel_rfl
@[simp] theorem G_180 : G 180 = some ⟨[.V], true⟩ := by kernel_rfl
theorem T_spec_l3Word : T 142 = some spec_l3Word := by kernel_rfl
@[simp] theorem G_142 : G 142 = some ⟨[.V], true⟩ := by kernel_rfl
theorem T_spec_Arity : T 143 = some spec_Arity := by kernel_rfl
@[simp] theorem G_143 : G 143 = some ⟨[.V], true⟩ := by kernel_rfl
theorem T_spec_l2Digit : T 188 = some spec_l2Digit := by kernel_rfl
@[simp] theorem G_188 : G 188 = some ⟨[.V], true⟩ := by kernel_rfl
theorem T_spec_l2Sign : T 189 = some spec_l2Sign := by kernel_rfl
@[simp] theorem G_189 : G 189 = some ⟨[.V], true⟩ := by kernel_rfl
theorem T_spec_ReadDec : T 190 = some spec_ReadDec := by kernel_rfl
@[simp] theorem G_190 : G 190 = some ⟨[.V], true⟩ := by kernel_rfl
theorem T_spec_l3In : T 91 = some spec_l3In := by kernel_rfl
@[simp] theorem G_91 : G 91 = some ⟨[.V, .V], true⟩ := by kernel_rfl
theorem T_impl_isOneOf : T 148 = some impl_isOneOf := by kernel_rfl
@[simp] theorem G_148 : G 148 = some ⟨[.V, .V], true⟩ := by kernel_rfl
theorem T_impl_Arity : T 149 = some impl_Arity := by kernel_rfl
@[simp] theorem G_149 : G 149 = some ⟨[.V], true⟩ := by kernel_rfl
theorem T_impl_isSymByte : T 191 = some impl_isSymByte := by kernel_rfl
@[simp] theorem G_191 : G 191 = some ⟨[.V], true⟩ := by kernel_rfl
theorem T_slices_Index_string_string : T 157 = some slices_Index_string_string := by kernel_rfl
@[simp] theorem G_157 : G 157 = some ⟨[.V, .V], true⟩ := by kernel_rfl
theorem T_impl_isTyped : T 203 = some impl_isTyped := by kernel_rfl
@[simp] theorem G_203 : G 203 = some ⟨[.V], true⟩ := by kernel_rfl
theorem T_spec_l2In : T 207 = some spec_l2In := by kernel_rfl
@[simp] theorem G_207 : G 207 = some ⟨[.V, .V], true⟩ := by kernel_rfl
theorem T_spec_Dec : T 130 = some spec_Dec := by kernel_rfl
@[simp] theorem G_130 : G 130 = some ⟨[.V], true⟩ := by kernel_rfl
theorem run_laws_FnExactTidy {cs : List CV} {r : List CV × List CV} (h : Run G A laws_FnExactTidy.b (params 0 cs) [] (QF true [.V] [.tmp 2] r)) : A 4 cs = some r := A_run T_laws_FnExactTidy h
theorem run_laws_szProg {cs : List CV} {r : List CV × List CV} (h : Run G A laws_szProg.b (params 0 cs) [] (QF true [.V, .V] [.tmp 4] r)) : A 12 cs = some r := A_run T_laws_szProg h
theorem run_laws_toProg {cs : List CV} {r : List CV × List CV} (h : Run G A laws_toProg.b (params 0 cs) [] (QF true [.V] [.cell 2 2 true] r)) : A 14 cs = some r := A_run T_laws_toProg h
theorem run_laws_eqProg {cs : List CV} {r : List CV × List CV} (h : Run G A laws_eqProg.b (params 0 cs) [] (QF true [.V, .V] [.tmp 4] r)) : A 17 cs = some r := A_run T_laws_eqProg h
theorem run_laws_markProg {cs : List CV} {r : List CV × List CV} (h : Run G A laws_markProg.b (params 0 cs) [] (QF true [.M, .V] [.tmp 4] r)) : A 18 cs = some r := A_run T_laws_markProg h
theorem run_spec_Tidy {cs : List CV} {r : List CV × List CV} (h : Run G A spec_Tidy.b (params 0 cs) [] (QF true [.V] [.cell 2 2 true] r)) : A 21 cs = some r := A_run T_spec_Tidy h
theorem run_impl_Tidy {cs : List CV} {r : List CV × List CV} (h : Run G A impl_Tidy.b (params 0 cs) [] (QF true [.V] [.cell 2 2 true] r)) : A 22 cs = some r := A_run T_impl_Tidy h
theorem run_laws_heldProg {cs : List CV} {r : List CV × List CV} (h : Run G A laws_heldProg.b (params 0 cs) [] (QF true [.V, .V] [.tmp 4] r)) : A 23 cs = some r := A_run T_laws_heldProg h
theorem run_laws_szNodeS {cs : List CV} {r : List CV × List CV} (h : Run G A laws_szNodeS.b (params 0 cs) [] (QF true [.V, .V] [.tmp 4] r)) : A 50 cs = some r := A_run T_laws_szNodeS h
theorem run_laws_toNodeS {cs : List CV} {r : List CV × List CV} (h : Run G A laws_toNodeS.b (params 0 cs) [] (QF true [.V] [.tmp 2] r)) : A 53 cs = some r := A_run T_laws_toNodeS h
theorem run_laws_eqNodeS {cs : List CV} {r : List CV × List CV} (h : Run G A laws_eqNodeS.b (params 0 cs) [] (QF true [.V, .V] [.tmp 4] r)) : A 57 cs = some r := A_run T_laws_eqNodeS h
theorem run_laws_markNodeS {cs : List CV} {r : List CV × List CV} (h : Run G A laws_markNodeS.b (params 0 cs) [] (QF true [.M, .V] [.tmp 4] r)) : A 58 cs = some r := A_run T_laws_markNodeS h
theorem run_spec_ProgOk {cs : List CV} {r : List CV × List CV} (h : Run G A spec_ProgOk.b (params 0 cs) [] (QF true [.V] [.tmp 2] r)) : A 51 cs = some r := A_run T_spec_ProgOk h
theorem run_spec_l23Tidy {cs : List CV} {r : List CV × List CV} (h : Run G A spec_l23Tidy.b (params 0 cs) [] (QF true [.V, .V, .O] [.tmp 6] r)) : A 60 cs = some r := A_run T_spec_l23Tidy h
theorem run_impl_ProgOk {cs : List CV} {r : List CV × List CV} (h : Run G A impl_ProgOk.b (params 0 cs) [] (QF true [.V] [.tmp 2] r)) : A 55 cs = some r := A_run T_impl_ProgOk h
theorem run_impl_tidy {cs : List CV} {r : List CV × List CV} (h : Run G A impl_tidy.b (params 0 cs) [] (QF true [.V, .V] [.cell 4 2 true] r)) : A 61 cs = some r := A_run T_impl_tidy h
theorem run_laws_heldNodeS {cs : List CV} {r : List CV × List CV} (h : Run G A laws_heldNodeS.b (params 0 cs) [] (QF true [.V, .V] [.tmp 4] r)) : A 62 cs = some r := A_run T_laws_heldNodeS h
theorem run_laws_szNode {cs : List CV} {r : List CV × List CV} (h : Run G A laws_szNode.b (params 0 cs) [] (QF true [.V, .V] [.tmp 4] r)) : A 121 cs = some r := A_run T_laws_szNode h
theorem run_laws_toNode {cs : List CV} {r : List CV × List CV} (h : Run G A laws_toNode.b (params 0 cs) [] (QF true [.V] [.cell 2 5 true] r)) : A 123 cs = some r := A_run T_laws_toNode h
theorem run_laws_eqNode {cs : List CV} {r : List CV × List CV} (h : Run G A laws_eqNode.b (params 0 cs) [] (QF true [.V, .V] [.tmp 4] r)) : A 126 cs = some r := A_run T_laws_eqNode h
theorem run_laws_markStringS {cs : List CV} {r : List CV × List CV} (h : Run G A laws_markStringS.b (params 0 cs) [] (QF true [.M, .V] [.tmp 4] r)) : A 19 cs = some r := A_run T_laws_markStringS h
theorem run_laws_markText {cs : List CV} {r : List CV × List CV} (h : Run G A laws_markText.b (params 0 cs) [] (QF true [.V] [.tmp 2] r)) : A 59 cs = some r := A_run T_laws_markText h
theorem runE_laws_markText {cs : List CV} {X : List CV → List CV → Prop} (h : Run G A laws_markText.b (params 0 cs) [] (QE true [.V] [.tmp 2] X)) : ∃ rs os, A 59 cs = some (rs, os) ∧ X rs os := A_runE T_laws_markText h
theorem run_laws_markIntS {cs : List CV} {r : List CV × List CV} (h : Run G A laws_markIntS.b (params 0 cs) [] (QF true [.M, .V] [.tmp 4] r)) : A 127 cs = some r := A_run T_laws_markIntS h
theorem run_spec_l1In {cs : List CV} {r : List CV × List CV} (h : Run G A spec_l1In.b (params 0 cs) [] (QF true [.V, .V, .V] [.tmp 6] r)) : A 77 cs = some r := A_run T_spec_l1In h
theorem run_spec_l3Node {cs : List CV} {r : List CV × List CV} (h : Run G A spec_l3Node.b (params 0 cs) [] (QF true [.V] [.tmp 2] r)) : A 122 cs = some r := A_run T_spec_l3Node h
theorem run_impl_inRange {cs : List CV} {r : List CV × List CV} (h : Run G A impl_inRange.b (params 0 cs) [] (QF true [.V, .V, .V] [.tmp 6] r)) : A 54 cs = some r := A_run T_impl_inRange h
theorem run_impl_nodeOk {cs : List CV} {r : List CV × List CV} (h : Run G A impl_nodeOk.b (params 0 cs) [] (QF true [.V] [.tmp 2] r)) : A 124 cs = some r := A_run T_impl_nodeOk h
theorem run_impl_tidier_put {cs : List CV} {r : List CV × List CV} (h : Run G A impl_tidier_put.b (params 0 cs) [] (QF false [.M, .V] [.tmp 4] r)) : A 128 cs = some r := A_run T_impl_tidier_put h
theorem run_laws_heldStringS {cs : List CV} {r : List CV × List CV} (h : Run G A laws_heldStringS.b (params 0 cs) [] (QF true [.V, .V] [.tmp 4] r)) : A 20 cs = some r := A_run T_laws_heldStringS h
theorem run_laws_heldIntS {cs : List CV} {r : List CV × List CV} (h : Run G A laws_heldIntS.b (params 0 cs) [] (QF true [.V, .V] [.tmp 4] r)) : A 129 cs = some r := A_run T_laws_heldIntS h
theorem run_laws_szStringS {cs : List CV} {r : List CV × List CV} (h : Run G A laws_szStringS.b (params 0 cs) [] (QF true [.V, .V] [.tmp 4] r)) : A 67 cs = some r := A_run T_laws_szStringS h
theorem run_laws_szIntS {cs : List CV} {r : List CV × List CV} (h : Run G A laws_szIntS.b (params 0 cs) [] (QF true [.V, .V] [.tmp 4] r)) : A 177 cs = some r := A_run T_laws_szIntS h
theorem run_laws_toStringS {cs : List CV} {r : List CV × List CV} (h : Run G A laws_toStringS.b (params 0 cs) [] (QF true [.V] [.tmp 2] r)) : A 78 cs = some r := A_run T_laws_toStringS h
theorem run_laws_toIntS {cs : List CV} {r : List CV × List CV} (h : Run G A laws_toIntS.b (params 0 cs) [] (QF true [.V] [.tmp 2] r)) : A 179 cs = some r := A_run T_laws_toIntS h
theorem run_laws_eqStringS {cs : List CV} {r : List CV × List CV} (h : Run G A laws_eqStringS.b (params 0 cs) [] (QF true [.V, .V] [.tmp 4] r)) : A 16 cs = some r := A_run T_laws_eqStringS h
theorem run_laws_eqIntS {cs : List CV} {r : List CV × List CV} (h : Run G A laws_eqIntS.b (params 0 cs) [] (QF true [.V, .V] [.tmp 4] r)) : A 181 cs = some r := A_run T_laws_eqIntS h
theorem run_spec_IsName {cs : List CV} {r : List CV × List CV} (h : Run G A spec_IsName.b (params 0 cs) [] (QF true [.V] [.tmp 2] r)) : A 70 cs = some r := A_run T_spec_IsName h
theorem run_spec_l2Sym {cs : List CV} {r : List CV × List CV} (h : Run G A spec_l2Sym.b (params 0 cs) [] (QF true [.V] [.tmp 2] r)) : A 141 cs = some r := A_run T_spec_l2Sym h
theorem run_spec_l3Names {cs : List CV} {r : List CV × List CV} (h : Run G A spec_l3Names.b (params 0 cs) [] (QF true [.V, .V] [.tmp 4] r)) : A 162 cs = some r := A_run T_spec_l3Names h
theorem run_spec_l3Prim {cs : List CV} {r : List CV × List CV} (h : Run G A spec_l3Prim.b (params 0 cs) [] (QF true [.V] [.tmp 2] r)) : A 178 cs = some r := A_run T_spec_l3Prim h
theorem run_impl_IsName {cs : List CV} {r : List CV × List CV} (h : Run G A impl_IsName.b (params 0 cs) [] (QF true [.V] [.tmp 2] r)) : A 81 cs = some r := A_run T_impl_IsName h
theorem run_impl_symOk {cs : List CV} {r : List CV × List CV} (h : Run G A impl_symOk.b (params 0 cs) [] (QF true [.V] [.tmp 2] r)) : A 147 cs = some r := A_run T_impl_symOk h
theorem run_impl_namesOk {cs : List CV} {r : List CV × List CV} (h : Run G A impl_namesOk.b (params 0 cs) [] (QF true [.V, .V] [.tmp 4] r)) : A 151 cs = some r := A_run T_impl_namesOk h
theorem run_impl_primOk {cs : List CV} {r : List CV × List CV} (h : Run G A impl_primOk.b (params 0 cs) [] (QF true [.V] [.tmp 2] r)) : A 180 cs = some r := A_run T_impl_primOk h
theorem run_spec_l3Word {cs : List CV} {r : List CV × List CV} (h : Run G A spec_l3Word.b (params 0 cs) [] (QF true [.V] [.tmp 2] r)) : A 142 cs = some r := A_run T_spec_l3Word h
theorem run_spec_Arity {cs : List CV} {r : List CV × List CV} (h : Run G A spec_Arity.b (params 0 cs) [] (QF true [.V] [.tmp 2] r)) : A 143 cs = some r := A_run T_spec_Arity h
theorem run_spec_l2Digit {cs : List CV} {r : List CV × List CV} (h : Run G A spec_l2Digit.b (params 0 cs) [] (QF true [.V] [.tmp 2] r)) : A 188 cs = some r := A_run T_spec_l2Digit h
theorem run_spec_l2Sign {cs : List CV} {r : List CV × List CV} (h : Run G A spec_l2Sign.b (params 0 cs) [] (QF true [.V] [.tmp 2] r)) : A 189 cs = some r := A_run T_spec_l2Sign h
theorem run_spec_ReadDec {cs : List CV} {r : List CV × List CV} (h : Run G A spec_ReadDec.b (params 0 cs) [] (QF true [.V] [.tmp 2, .tmp 3] r)) : A 190 cs = some r := A_run T_spec_ReadDec h
theorem run_spec_l3In {cs : List CV} {r : List CV × List CV} (h : Run G A spec_l3In.b (params 0 cs) [] (QF true [.V, .V] [.tmp 4] r)) : A 91 cs = some r := A_run T_spec_l3In h
theorem run_impl_isOneOf {cs : List CV} {r : List CV × List CV} (h : Run G A impl_isOneOf.b (params 0 cs) [] (QF true [.V, .V] [.tmp 4] r)) : A 148 cs = some r := A_run T_impl_isOneOf h
theorem run_impl_Arity {cs : List CV} {r : List CV × List CV} (h : Run G A impl_Arity.b (params 0 cs) [] (QF true [.V] [.tmp 2] r)) : A 149 cs = some r := A_run T_impl_Arity h
theorem run_impl_isSymByte {cs : List CV} {r : List CV × List CV} (h : Run G A impl_isSymByte.b (params 0 cs) [] (QF true [.V] [.tmp 2] r)) : A 191 cs = some r := A_run T_impl_isSymByte h
theorem run_slices_Index_string_string {cs : List CV} {r : List CV × List CV} (h : Run G A slices_Index_string_string.b (params 0 cs) [] (QF true [.V, .V] [.tmp 4] r)) : A 157 cs = some r := A_run T_slices_Index_string_string h
theorem run_impl_isTyped {cs : List CV} {r : List CV × List CV} (h : Run G A impl_isTyped.b (params 0 cs) [] (QF true [.V] [.tmp 2] r)) : A 203 cs = some r := A_run T_impl_isTyped h
theorem run_spec_l2In {cs : List CV} {r : List CV × List CV} (h : Run G A spec_l2In.b (params 0 cs) [] (QF true [.V, .V] [.tmp 4] r)) : A 207 cs = some r := A_run T_spec_l2In h
theorem run_spec_Dec {cs : List CV} {r : List CV × List CV} (h : Run G A spec_Dec.b (params 0 cs) [] (QF true [.V] [.tmp 2] r)) : A 130 cs = some r := A_run T_spec_Dec h
theorem T_slices_Clone_string_string : T 182 = none := by kernel_rfl
@[simp] theorem G_182 : G 182 = some ⟨[.V], true⟩ := by kernel_rfl
theorem P_slices_Clone_string_string {cs : List CV} {r : List CV × List CV} (h : prim_slices_Clone_string_string.run cs = some r) : A 182 cs = some r := A_prim T_slices_Clone_string_string (by rw [← h]; rfl)
theorem T_impl_ReadDec : T 192 = none := by kernel_rfl
@[simp] theorem G_192 : G 192 = some ⟨[.V], true⟩ := by kernel_rfl
theorem P_impl_ReadDec {cs : List CV} {r : List CV × List CV} (h : prim_impl_ReadDec.run cs = some r) : A 192 cs = some r := A_prim T_impl_ReadDec (by rw [← h]; rfl)
theorem T_strings_Contains : T 193 = none := by kernel_rfl
@[simp] theorem G_193 : G 193 = some ⟨[.V, .V], true⟩ := by kernel_rfl
theorem P_strings_Contains {cs : List CV} {r : List CV × List CV} (h : prim_strings_Contains.run cs = some r) : A 193 cs = some r := A_prim T_strings_Contains (by rw [← h]; rfl)
theorem T_strings_IndexByte : T 208 = none := by kernel_rfl
@[simp] theorem G_208 : G 208 = some ⟨[.V, .V], true⟩ := by kernel_rfl
theorem P_strings_IndexByte {cs : List CV} {r : List CV × List CV} (h : prim_strings_IndexByte.run cs = some r) : A 208 cs = some r := A_prim T_strings_IndexByte (by rw [← h]; rfl)
end Go.Proofs.YtjjfodoafefohaaGreatDoor.TD
