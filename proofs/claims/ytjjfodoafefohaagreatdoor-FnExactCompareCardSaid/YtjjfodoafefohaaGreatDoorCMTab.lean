/- The table of the functions. -/
import Derived.Test.YtjjfodoafefohaaGreatDoorCMFn0
import Derived.Test.YtjjfodoafefohaaGreatDoorCMFn1
import Derived.Test.YtjjfodoafefohaaGreatDoorEngM7
import Derived.Test.YtjjfodoafefohaaGreatDoorEngPClone
import Derived.Test.YtjjfodoafefohaaGreatDoorEngPContains
import Derived.Test.YtjjfodoafefohaaGreatDoorEngPIndexByte
import Derived.Test.YtjjfodoafefohaaGreatDoorEngPReadDec
namespace Go.Proofs.YtjjfodoafefohaaGreatDoor.CM
open Go Go.VS
set_option maxRecDepth 100000
set_option linter.unusedVariables false
set_option linter.unusedSimpArgs false
noncomputable def tab : List (Entry Tryz.prog) := [⟨7, laws_FnExactCompare, Tryz.f7, Tryz.func7, laws_FnExactCompare.turned⟩,
  ⟨16, laws_eqStringS, Tryz.f16, Tryz.func16, laws_eqStringS.turned⟩,
  ⟨19, laws_markStringS, Tryz.f19, Tryz.func19, laws_markStringS.turned⟩,
  ⟨20, laws_heldStringS, Tryz.f20, Tryz.func20, laws_heldStringS.turned⟩,
  ⟨26, laws_szSrc, Tryz.f26, Tryz.func26, laws_szSrc.turned⟩,
  ⟨28, laws_toSrc, Tryz.f28, Tryz.func28, laws_toSrc.turned⟩,
  ⟨30, laws_eqSrc, Tryz.f30, Tryz.func30, laws_eqSrc.turned⟩,
  ⟨31, spec_Compare, Tryz.f31, Tryz.func31, spec_Compare.turned⟩,
  ⟨32, impl_Compare, Tryz.f32, Tryz.func32, impl_Compare.turned⟩,
  ⟨33, laws_markSrc, Tryz.f33, Tryz.func33, laws_markSrc.turned⟩,
  ⟨59, laws_markText, Tryz.f59, Tryz.func59, laws_markText.turned⟩,
  ⟨67, laws_szStringS, Tryz.f67, Tryz.func67, laws_szStringS.turned⟩,
  ⟨68, laws_szTypeS, Tryz.f68, Tryz.func68, laws_szTypeS.turned⟩,
  ⟨69, laws_szDefS, Tryz.f69, Tryz.func69, laws_szDefS.turned⟩,
  ⟨78, laws_toStringS, Tryz.f78, Tryz.func78, laws_toStringS.turned⟩,
  ⟨79, laws_toTypeS, Tryz.f79, Tryz.func79, laws_toTypeS.turned⟩,
  ⟨80, laws_toDefS, Tryz.f80, Tryz.func80, laws_toDefS.turned⟩,
  ⟨89, laws_eqTypeS, Tryz.f89, Tryz.func89, laws_eqTypeS.turned⟩,
  ⟨90, laws_eqDefS, Tryz.f90, Tryz.func90, laws_eqDefS.turned⟩,
  ⟨27, spec_SrcOk, Tryz.f27, Tryz.func27, spec_SrcOk.turned⟩,
  ⟨91, spec_l3In, Tryz.f91, Tryz.func91, spec_l3In.turned⟩,
  ⟨92, spec_l18Size, Tryz.f92, Tryz.func92, spec_l18Size.turned⟩,
  ⟨29, impl_SrcOk, Tryz.f29, Tryz.func29, impl_SrcOk.turned⟩,
  ⟨93, slices_Concat_string_string, Tryz.f93, Tryz.func93, slices_Concat_string_string.turned⟩,
  ⟨94, impl_ahead, Tryz.f94, Tryz.func94, impl_ahead.turned⟩,
  ⟨95, impl_less, Tryz.f95, Tryz.func95, impl_less.turned⟩,
  ⟨96, impl_resized, Tryz.f96, Tryz.func96, impl_resized.turned⟩,
  ⟨97, laws_markTypeS, Tryz.f97, Tryz.func97, laws_markTypeS.turned⟩,
  ⟨98, laws_markDefS, Tryz.f98, Tryz.func98, laws_markDefS.turned⟩,
  ⟨139, laws_szType, Tryz.f139, Tryz.func139, laws_szType.turned⟩,
  ⟨140, laws_szDef, Tryz.f140, Tryz.func140, laws_szDef.turned⟩,
  ⟨145, laws_toType, Tryz.f145, Tryz.func145, laws_toType.turned⟩,
  ⟨146, laws_toDef, Tryz.f146, Tryz.func146, laws_toDef.turned⟩,
  ⟨152, laws_eqType, Tryz.f152, Tryz.func152, laws_eqType.turned⟩,
  ⟨153, laws_eqDef, Tryz.f153, Tryz.func153, laws_eqDef.turned⟩,
  ⟨51, spec_ProgOk, Tryz.f51, Tryz.func51, spec_ProgOk.turned⟩,
  ⟨70, spec_IsName, Tryz.f70, Tryz.func70, spec_IsName.turned⟩,
  ⟨71, spec_l11Many, Tryz.f71, Tryz.func71, spec_l11Many.turned⟩,
  ⟨72, spec_l11Dup, Tryz.f72, Tryz.func72, spec_l11Dup.turned⟩,
  ⟨73, spec_l11Lacks, Tryz.f73, Tryz.func73, spec_l11Lacks.turned⟩,
  ⟨74, spec_l11All, Tryz.f74, Tryz.func74, spec_l11All.turned⟩,
  ⟨75, spec_l11TypeNames, Tryz.f75, Tryz.func75, spec_l11TypeNames.turned⟩,
  ⟨76, spec_l11DefNames, Tryz.f76, Tryz.func76, spec_l11DefNames.turned⟩,
  ⟨77, spec_l1In, Tryz.f77, Tryz.func77, spec_l1In.turned⟩,
  ⟨81, impl_IsName, Tryz.f81, Tryz.func81, impl_IsName.turned⟩,
  ⟨82, impl_Src_isFew, Tryz.f82, Tryz.func82, impl_Src_isFew.turned⟩,
  ⟨83, impl_Src_isUnlike, Tryz.f83, Tryz.func83, impl_Src_isUnlike.turned⟩,
  ⟨84, impl_Src_isFit, Tryz.f84, Tryz.func84, impl_Src_isFit.turned⟩,
  ⟨85, impl_allNames, Tryz.f85, Tryz.func85, impl_allNames.turned⟩,
  ⟨86, impl_namesOfDefs, Tryz.f86, Tryz.func86, impl_namesOfDefs.turned⟩,
  ⟨87, impl_typesOk, Tryz.f87, Tryz.func87, impl_typesOk.turned⟩,
  ⟨88, impl_progsOk, Tryz.f88, Tryz.func88, impl_progsOk.turned⟩,
  ⟨134, slices_Contains_string_string, Tryz.f134, Tryz.func134, slices_Contains_string_string.turned⟩,
  ⟨58, laws_markNodeS, Tryz.f58, Tryz.func58, laws_markNodeS.turned⟩,
  ⟨12, laws_szProg, Tryz.f12, Tryz.func12, laws_szProg.turned⟩,
  ⟨14, laws_toProg, Tryz.f14, Tryz.func14, laws_toProg.turned⟩,
  ⟨17, laws_eqProg, Tryz.f17, Tryz.func17, laws_eqProg.turned⟩,
  ⟨122, spec_l3Node, Tryz.f122, Tryz.func122, spec_l3Node.turned⟩,
  ⟨141, spec_l2Sym, Tryz.f141, Tryz.func141, spec_l2Sym.turned⟩,
  ⟨142, spec_l3Word, Tryz.f142, Tryz.func142, spec_l3Word.turned⟩,
  ⟨143, spec_Arity, Tryz.f143, Tryz.func143, spec_Arity.turned⟩,
  ⟨144, spec_l11Twice, Tryz.f144, Tryz.func144, spec_l11Twice.turned⟩,
  ⟨147, impl_symOk, Tryz.f147, Tryz.func147, impl_symOk.turned⟩,
  ⟨148, impl_isOneOf, Tryz.f148, Tryz.func148, impl_isOneOf.turned⟩,
  ⟨149, impl_Arity, Tryz.f149, Tryz.func149, impl_Arity.turned⟩,
  ⟨103, impl_isOnce, Tryz.f103, Tryz.func103, impl_isOnce.turned⟩,
  ⟨150, impl_namesOfTypes, Tryz.f150, Tryz.func150, impl_namesOfTypes.turned⟩,
  ⟨102, impl_areIn, Tryz.f102, Tryz.func102, impl_areIn.turned⟩,
  ⟨54, impl_inRange, Tryz.f54, Tryz.func54, impl_inRange.turned⟩,
  ⟨151, impl_namesOk, Tryz.f151, Tryz.func151, impl_namesOk.turned⟩,
  ⟨55, impl_ProgOk, Tryz.f55, Tryz.func55, impl_ProgOk.turned⟩,
  ⟨157, slices_Index_string_string, Tryz.f157, Tryz.func157, slices_Index_string_string.turned⟩,
  ⟨127, laws_markIntS, Tryz.f127, Tryz.func127, laws_markIntS.turned⟩,
  ⟨50, laws_szNodeS, Tryz.f50, Tryz.func50, laws_szNodeS.turned⟩,
  ⟨53, laws_toNodeS, Tryz.f53, Tryz.func53, laws_toNodeS.turned⟩,
  ⟨57, laws_eqNodeS, Tryz.f57, Tryz.func57, laws_eqNodeS.turned⟩,
  ⟨162, spec_l3Names, Tryz.f162, Tryz.func162, spec_l3Names.turned⟩,
  ⟨178, spec_l3Prim, Tryz.f178, Tryz.func178, spec_l3Prim.turned⟩,
  ⟨188, spec_l2Digit, Tryz.f188, Tryz.func188, spec_l2Digit.turned⟩,
  ⟨189, spec_l2Sign, Tryz.f189, Tryz.func189, spec_l2Sign.turned⟩,
  ⟨190, spec_ReadDec, Tryz.f190, Tryz.func190, spec_ReadDec.turned⟩,
  ⟨191, impl_isSymByte, Tryz.f191, Tryz.func191, impl_isSymByte.turned⟩,
  ⟨124, impl_nodeOk, Tryz.f124, Tryz.func124, impl_nodeOk.turned⟩,
  ⟨121, laws_szNode, Tryz.f121, Tryz.func121, laws_szNode.turned⟩,
  ⟨123, laws_toNode, Tryz.f123, Tryz.func123, laws_toNode.turned⟩,
  ⟨126, laws_eqNode, Tryz.f126, Tryz.func126, laws_eqNode.turned⟩,
  ⟨207, spec_l2In, Tryz.f207, Tryz.func207, spec_l2In.turned⟩,
  ⟨130, spec_Dec, Tryz.f130, Tryz.func130, spec_Dec.turned⟩,
  ⟨180, impl_primOk, Tryz.f180, Tryz.func180, impl_primOk.turned⟩,
  ⟨177, laws_szIntS, Tryz.f177, Tryz.func177, laws_szIntS.turned⟩,
  ⟨179, laws_toIntS, Tryz.f179, Tryz.func179, laws_toIntS.turned⟩,
  ⟨181, laws_eqIntS, Tryz.f181, Tryz.func181, laws_eqIntS.turned⟩,
  ⟨203, impl_isTyped, Tryz.f203, Tryz.func203, impl_isTyped.turned⟩]
noncomputable def ptab : List (PEntry Tryz.prog LaidX) := [prim_slices_Grow_string_string, prim_impl_ReadDec, prim_strings_Contains, prim_strings_IndexByte]
noncomputable def T : FuncId → Option VFn := tabT tab
noncomputable def G : Sigs := tabG tab ptab
noncomputable def A : Fns := lim G T (tabP ptab)
theorem A_run {f : FuncId} {vf : VFn} {cs : List CV} {r : List CV × List CV} (hT : T f = some vf) (h : Run G A vf.body (params 0 cs) [] (QF vf.sig.own vf.sig.modes vf.res r)) : A f cs = some r := lim_run hT h
theorem A_runE {f : FuncId} {vf : VFn} {cs : List CV} {X : List CV → List CV → Prop} (hT : T f = some vf) (h : Run G A vf.body (params 0 cs) [] (QE vf.sig.own vf.sig.modes vf.res X)) : ∃ rs os, A f cs = some (rs, os) ∧ X rs os := lim_runE hT h
theorem A_prim {f : FuncId} {cs : List CV} {r : List CV × List CV} (hT : T f = none) (h : tabP ptab f cs = some r) : A f cs = some r := lim_prim hT h
theorem A_answers {W : World} (hX : LaidX W) {f : FuncId} {g : Sig} {cs res outs : List CV} (hg : G f = some g) (h : A f cs = some (res, outs)) : Answers Tryz.prog W f cs res outs := lim_answers (tabT_ok tab ptab) (tabP_ok hX tab ptab) hg h
theorem T_laws_FnExactCompare : T 7 = some laws_FnExactCompare := by kernel_rfl
@[simp] theorem G_7 : G 7 = some ⟨[.V, .V], true⟩ := by kernel_rfl
theorem T_laws_eqStringS : T 16 = some laws_eqStringS := by kernel_rfl
@[simp] theorem G_16 : G 16 = some ⟨[.V, .V], true⟩ := by kernel_rfl
theorem T_laws_markStringS : T 19 = some laws_markStringS := by kernel_rfl
@[simp] theorem G_19 : G 19 = some ⟨[.M, .V], true⟩ := by kernel_rfl
theorem T_laws_heldStringS : T 20 = some laws_heldStringS := by kernel_rfl
@[simp] theorem G_20 : G 20 = some ⟨[.V, .V], true⟩ := by kernel_rfl
theorem T_laws_szSrc : T 26 = some laws_szSrc := by kernel_rfl
@[simp] theorem G_26 : G 26 = some ⟨[.V, .V], true⟩ := by kernel_rfl
theorem T_laws_toSrc : T 28 = some laws_toSrc := by kernel_rfl
@[simp] theorem G_28 : G 28 = some ⟨[.V], true⟩ := by kernel_rfl
theorem T_laws_eqSrc : T 30 = some laws_eqSrc := by kernel_rfl
@[simp] theorem G_30 : G 30 = some ⟨[.V, .V], true⟩ := by kernel_rfl
theorem T_spec_Compare : T 31 = some spec_Compare := by kernel_rfl
@[simp] theorem G_31 : G 31 = some ⟨[.V, .V], true⟩ := by kernel_rfl
theorem T_impl_Compare : T 32 = some impl_Compare := by kernel_rfl
@[simp] theorem G_32 : G 32 = some ⟨[.V, .V], true⟩ := by kernel_rfl
theorem T_laws_markSrc : T 33 = some laws_markSrc := by kernel_rfl
@[simp] theorem G_33 : G 33 = some ⟨[.M, .V], true⟩ := by kernel_rfl
theorem T_laws_markText : T 59 = some laws_markText := by kernel_rfl
@[simp] theorem G_59 : G 59 = some ⟨[.V], true⟩ := by kernel_rfl
theorem T_laws_szStringS : T 67 = some laws_szStringS := by kernel_rfl
@[simp] theorem G_67 : G 67 = some ⟨[.V, .V], true⟩ := by kernel_rfl
theorem T_laws_szTypeS : T 68 = some laws_szTypeS := by kernel_rfl
@[simp] theorem G_68 : G 68 = some ⟨[.V, .V], true⟩ := by kernel_rfl
theorem T_laws_szDefS : T 69 = some laws_szDefS := by kernel_rfl
@[simp] theorem G_69 : G 69 = some ⟨[.V, .V], true⟩ := by kernel_rfl
theorem T_laws_toStringS : T 78 = some laws_toStringS := by kernel_rfl
@[simp] theorem G_78 : G 78 = some ⟨[.V], true⟩ := by kernel_rfl
theorem T_laws_toTypeS : T 79 = some laws_toTypeS := by kernel_rfl
@[simp] theorem G_79 : G 79 = some ⟨[.V], true⟩ := by kernel_rfl
theorem T_laws_toDefS : T 80 = some laws_toDefS := by kernel_rfl
@[simp] theorem G_80 : G 80 = some ⟨[.V], true⟩ := by kernel_rfl
theorem T_laws_eqTypeS : T 89 = some laws_eqTypeS := by kernel_rfl
@[simp] theorem G_89 : G 89 = some ⟨[.V, .V], true⟩ := by kernel_rfl
theorem T_laws_eqDefS : T 90 = some laws_eqDefS := by kernel_rfl
@[simp] theorem G_90 : G 90 = some ⟨[.V, .V], true⟩ := by kernel_rfl
theorem T_spec_SrcOk : T 27 = some spec_SrcOk := by kernel_rfl
@[simp] theorem G_27 : G 27 = some ⟨[.V], true⟩ := by kernel_rfl
theorem T_spec_l3In : T 91 = some spec_l3In := by kernel_rfl
@[simp] theorem G_91 : G 91 = some ⟨[.V, .V], true⟩ := by kernel_rfl
theorem T_spec_l18Size : T 92 = some spec_l18Size := by kernel_rfl
@[simp] theorem G_92 : G 92 = some ⟨[.V, .V], true⟩ := by kernel_rfl
theorem T_impl_SrcOk : T 29 = some impl_SrcOk := by kernel_rfl
@[simp] theorem G_29 : G 29 = some ⟨[.V], true⟩ := by kernel_rfl
theorem T_slices_Concat_string_string : T 93 = some slices_Concat_string_string := by kernel_rfl
@[simp] theorem G_93 : G 93 = some ⟨[.V], true⟩ := by kernel_rfl
theorem T_impl_ahead : T 94 = some impl_ahead := by kernel_rfl
@[simp] theorem G_94 : G 94 = some ⟨[.V, .V], true⟩ := by kernel_rfl
theorem T_impl_less : T 95 = some impl_less := by kernel_rfl
@[simp] theorem G_95 : G 95 = some ⟨[.V, .V], true⟩ := by kernel_rfl
theorem T_impl_resized : T 96 = some impl_resized := by kernel_rfl
@[simp] theorem G_96 : G 96 = some ⟨[.V, .V], true⟩ := by kernel_rfl
theorem T_laws_markTypeS : T 97 = some laws_markTypeS := by kernel_rfl
@[simp] theorem G_97 : G 97 = some ⟨[.M, .V], true⟩ := by kernel_rfl
theorem T_laws_markDefS : T 98 = some laws_markDefS := by kernel_rfl
@[simp] theorem G_98 : G 98 = some ⟨[.M, .V], true⟩ := by kernel_rfl
theorem T_laws_szType : T 139 = some laws_szType := by kernel_rfl
@[simp] theorem G_139 : G 139 = some ⟨[.V, .V], true⟩ := by kernel_rfl
theorem T_laws_szDef : T 140 = some laws_szDef := by kernel_rfl
@[simp] theorem G_140 : G 140 = some ⟨[.V, .V], true⟩ := by kernel_rfl
theorem T_laws_toType : T 145 = some laws_toType := by kernel_rfl
@[simp] theorem G_145 : G 145 = some ⟨[.V], true⟩ := by kernel_rfl
theorem T_laws_toDef : T 146 = some laws_toDef := by kernel_rfl
@[simp] theorem G_146 : G 146 = some ⟨[.V], true⟩ := by kernel_rfl
theorem T_laws_eqType : T 152 = some laws_eqType := by kernel_rfl
@[simp] theorem G_152 : G 152 = some ⟨[.V, .V], true⟩ := by kernel_rfl
theorem T_laws_eqDef : T 153 = some laws_eqDef := by kernel_rfl
@[simp] theorem G_153 : G 153 = some ⟨[.V, .V], true⟩ := by kernel_rfl
theorem T_spec_ProgOk : T 51 = some spec_ProgOk := by kernel_rfl
@[simp] theorem G_51 : G 51 = some ⟨[.V], true⟩ := by kernel_rfl
theorem T_spec_IsName : T 70 = some spec_IsName := by kernel_rfl
@[simp] theorem G_70 : G 70 = some ⟨[.V], true⟩ := by kernel_rfl
theorem T_spec_l11Many : T 71 = some spec_l11Many := by kernel_rfl
@[simp] theorem G_71 : G 71 = some ⟨[.V], true⟩ := by kernel_rfl
theorem T_spec_l11Dup : T 72 = some spec_l11Dup := by kernel_rfl
@[simp] theorem G_72 : G 72 = some ⟨[.V], true⟩ := by kernel_rfl
theorem T_spec_l11Lacks : T 73 = some spec_l11Lacks := by kernel_rfl
@[simp] theorem G_73 : G 73 = some ⟨[.V], true⟩ := by kernel_rfl
theorem T_spec_l11All : T 74 = some spec_l11All := by kernel_rfl
@[simp] theorem G_74 : G 74 = some ⟨[.V], true⟩ := by kernel_rfl
theorem T_spec_l11TypeNames : T 75 = some spec_l11TypeNames := by kernel_rfl
@[simp] theorem G_75 : G 75 = some ⟨[.V], true⟩ := by kernel_rfl
theorem T_spec_l11DefNames : T 76 = some spec_l11DefNames := by kernel_rfl
@[simp] theorem G_76 : G 76 = some ⟨[.V], true⟩ := by kernel_rfl
theorem T_spec_l1In : T 77 = some spec_l1In := by kernel_rfl
@[simp] theorem G_77 : G 77 = some ⟨[.V, .V, .V], true⟩ := by kernel_rfl
theorem T_impl_IsName : T 81 = some impl_IsName := by kernel_rfl
@[simp] theorem G_81 : G 81 = some ⟨[.V], true⟩ := by kernel_rfl
theorem T_impl_Src_isFew : T 82 = some impl_Src_isFew := by kernel_rfl
@[simp] theorem G_82 : G 82 = some ⟨[.M], false⟩ := by kernel_rfl
theorem T_impl_Src_isUnlike : T 83 = some impl_Src_isUnlike := by kernel_rfl
@[simp] theorem G_83 : G 83 = some ⟨[.M], false⟩ := by kernel_rfl
theorem T_impl_Src_isFit : T 84 = some impl_Src_isFit := by kernel_rfl
@[simp] theorem G_84 : G 84 = some ⟨[.M], false⟩ := by kernel_rfl
theorem T_impl_allNames : T 85 = some impl_allNames := by kernel_rfl
@[simp] theorem G_85 : G 85 = some ⟨[.V], true⟩ := by kernel_rfl
theorem T_impl_namesOfDefs : T 86 = some impl_namesOfDefs := by kernel_rfl
@[simp] theorem G_86 : G 86 = some ⟨[.V], true⟩ := by kernel_rfl
theorem T_impl_typesOk : T 87 = some impl_typesOk := by kernel_rfl
@[simp] theorem G_87 : G 87 = some ⟨[.V], true⟩ := by kernel_rfl
theorem T_impl_progsOk : T 88 = some impl_progsOk := by kernel_rfl
@[simp] theorem G_88 : G 88 = some ⟨[.V], true⟩ := by kernel_rfl
theorem T_slices_Contains_string_string : T 134 = some slices_Contains_string_string := by kernel_rfl
@[simp] theorem G_134 : G 134 = some ⟨[.V, .V], true⟩ := by kernel_rfl
theorem T_laws_markNodeS : T 58 = some laws_markNodeS := by kernel_rfl
@[simp] theorem G_58 : G 58 = some ⟨[.M, .V], true⟩ := by kernel_rfl
theorem T_laws_szProg : T 12 = some laws_szProg := by kernel_rfl
@[simp] theorem G_12 : G 12 = some ⟨[.V, .V], true⟩ := by kernel_rfl
theorem T_laws_toProg : T 14 = some laws_toProg := by kernel_rfl
@[simp] theorem G_14 : G 14 = some ⟨[.V], true⟩ := by kernel_rfl
theorem T_laws_eqProg : T 17 = some laws_eqProg := by kernel_rfl
@[simp] theorem G_17 : G 17 = some ⟨[.V, .V], true⟩ := by kernel_rfl
theorem T_spec_l3Node : T 122 = some spec_l3Node := by kernel_rfl
@[simp] theorem G_122 : G 122 = some ⟨[.V], true⟩ := by kernel_rfl
theorem T_spec_l2Sym : T 141 = some spec_l2Sym := by kernel_rfl
@[simp] theorem G_141 : G 141 = some ⟨[.V], true⟩ := by kernel_rfl
theorem T_spec_l3Word : T 142 = some spec_l3Word := by kernel_rfl
@[simp] theorem G_142 : G 142 = some ⟨[.V], true⟩ := by kernel_rfl
theorem T_spec_Arity : T 143 = some spec_Arity := by kernel_rfl
@[simp] theorem G_143 : G 143 = some ⟨[.V], true⟩ := by kernel_rfl
theorem T_spec_l11Twice : T 144 = some spec_l11Twice := by kernel_rfl
@[simp] theorem G_144 : G 144 = some ⟨[.V], true⟩ := by kernel_rfl
theorem T_impl_symOk : T 147 = some impl_symOk := by kernel_rfl
@[simp] theorem G_147 : G 147 = some ⟨[.V], true⟩ := by kernel_rfl
theorem T_impl_isOneOf : T 148 = some impl_isOneOf := by kernel_rfl
@[simp] theorem G_148 : G 148 = some ⟨[.V, .V], true⟩ := by kernel_rfl
theorem T_impl_Arity : T 149 = some impl_Arity := by kernel_rfl
@[simp] theorem G_149 : G 149 = some ⟨[.V], true⟩ := by kernel_rfl
theorem T_impl_isOnce : T 103 = some impl_isOnce := by kernel_rfl
@[simp] theorem G_103 : G 103 = some ⟨[.V], true⟩ := by kernel_rfl
theorem T_impl_namesOfTypes : T 150 = some impl_namesOfTypes := by kernel_rfl
@[simp] theorem G_150 : G 150 = some ⟨[.V], true⟩ := by kernel_rfl
theorem T_impl_areIn : T 102 = some impl_areIn := by kernel_rfl
@[simp] theorem G_102 : G 102 = some ⟨[.V, .V], true⟩ := by kernel_rfl
theorem T_impl_inRange : T 54 = some impl_inRange := by kernel_rfl
@[simp] theorem G_54 : G 54 = some ⟨[.V, .V, .V], true⟩ := by kernel_rfl
theorem T_impl_namesOk : T 151 = some impl_namesOk := by kernel_rfl
@[simp] theorem G_151 : G 151 = some ⟨[.V, .V], true⟩ := by kernel_rfl
theorem T_impl_ProgOk : T 55 = some impl_ProgOk := by kernel_rfl
@[simp] theorem G_55 : G 55 = some ⟨[.V], true⟩ := by kernel_rfl
theorem T_slices_Index_string_string : T 157 = some slices_Index_string_string := by kernel_rfl
@[simp] theorem G_157 : G 157 = some ⟨[.V, .V], true⟩ := by kernel_rfl
theorem T_laws_markIntS : T 127 = some laws_markIntS := by kernel_rfl
@[simp] theorem G_127 : G 127 = some ⟨[.M, .V], true⟩ := by kernel_rfl
theorem T_laws_szNodeS : T 50 = some laws_szNodeS := by kernel_rfl
@[simp] theorem G_50 : G 50 = some ⟨[.V, .V], true⟩ := by kernel_rfl
theorem T_laws_toNodeS : T 53 = some laws_toNodeS := by kernel_rfl
@[simp] theorem G_53 : G 53 = some ⟨[.V], true⟩ := by kernel_rfl
theorem T_laws_eqNodeS : T 57 = some laws_eqNodeS := by kernel_rfl
@[simp] theorem G_57 : G 57 = some ⟨[.V, .V], true⟩ := by kernel_rfl
theorem T_spec_l3Names : T 162 = some spec_l3Names := by kernel_rfl
@[simp] theorem G_162 : G 162 = some ⟨[.V, .V], true⟩ := by kernel_rfl
theorem T_spec_l3Prim : T 178 = some spec_l3Prim := by kernel_rfl
@[simp] theorem G_178 : G 178 = some ⟨[.V], true⟩ := by kernel_rfl
theorem T_spec_l2Digit : T 188 = some spec_l2Digit := by kernel_rfl
@[simp] theorem G_188 : G 188 = some ⟨[.V], true⟩ := by kernel_rfl
theorem T_spec_l2Sign : T 189 = some spec_l2Sign := by kernel_rfl
@[simp] theorem G_189 : G 189 = some ⟨[.V], true⟩ := by kernel_rfl
theorem T_spec_ReadDec : T 190 = some spec_ReadDec := by kernel_rfl
@[simp] theorem G_190 : G 190 = some ⟨[.V], true⟩ := by kernel_rfl
theorem T_impl_isSymByte : T 191 = some impl_isSymByte := by kernel_rfl
@[simp] theorem G_191 : G 191 = some ⟨[.V], true⟩ := by kernel_rfl
theorem T_impl_nodeOk : T 124 = some impl_nodeOk := by kernel_rfl
@[simp] theorem G_124 : G 124 = some ⟨[.V], true⟩ := by kernel_rfl
theorem T_laws_szNode : T 121 = some laws_szNode := by kernel_rfl
@[simp] theorem G_121 : G 121 = some ⟨[.V, .V], true⟩ := by kernel_rfl
theorem T_laws_toNode : T 123 = some laws_toNode := by kernel_rfl
@[simp] theorem G_123 : G 123 = some ⟨[.V], true⟩ := by kernel_rfl
theorem T_laws_eqNode : T 126 = some laws_eqNode := by kernel_rfl
@[simp] theorem G_126 : G 126 = some ⟨[.V, .V], true⟩ := by kernel_rfl
theorem T_spec_l2In : T 207 = some spec_l2In := by kernel_rfl
@[simp] theorem G_207 : G 207 = some ⟨[.V, .V], true⟩ := by kernel_rfl
theorem T_spec_Dec : T 130 = some spec_Dec := by kernel_rfl
@[simp] theorem G_130 : G 130 = some ⟨[.V], true⟩ := by kernel_rfl
theorem T_impl_primOk : T 180 = some impl_primOk := by kernel_rfl
@[simp] theorem G_180 : G 180 = some ⟨[.V], true⟩ := by kernel_rfl
theorem T_laws_szIntS : T 177 = some laws_szIntS := by kernel_rfl
@[simp] theorem G_177 : G 177 = some ⟨[.V, .V], true⟩ := by kernel_rfl
theorem T_laws_toIntS : T 179 = some laws_toIntS := by kernel_rfl
@[simp] theorem G_179 : G 179 = some ⟨[.V], true⟩ := by kernel_rfl
theorem T_laws_eqIntS : T 181 = some laws_eqIntS := by kernel_rfl
@[simp] theorem G_181 : G 181 = some ⟨[.V, .V], true⟩ := by kernel_rfl
theorem T_impl_isTyped : T 203 = some impl_isTyped := by kernel_rfl
@[simp] theorem G_203 : G 203 = some ⟨[.V], true⟩ := by kernel_rfl
theorem run_laws_FnExactCompare {cs : List CV} {r : List CV × List CV} (h : Run G A laws_FnExactCompare.b (params 0 cs) [] (QF true [.V, .V] [.tmp 4] r)) : A 7 cs = some r := A_run T_laws_FnExactCompare h
theorem run_laws_eqStringS {cs : List CV} {r : List CV × List CV} (h : Run G A laws_eqStringS.b (params 0 cs) [] (QF true [.V, .V] [.tmp 4] r)) : A 16 cs = some r := A_run T_laws_eqStringS h
theorem run_laws_markStringS {cs : List CV} {r : List CV × List CV} (h : Run G A laws_markStringS.b (params 0 cs) [] (QF true [.M, .V] [.tmp 4] r)) : A 19 cs = some r := A_run T_laws_markStringS h
theorem run_laws_heldStringS {cs : List CV} {r : List CV × List CV} (h : Run G A laws_heldStringS.b (params 0 cs) [] (QF true [.V, .V] [.tmp 4] r)) : A 20 cs = some r := A_run T_laws_heldStringS h
theorem run_laws_szSrc {cs : List CV} {r : List CV × List CV} (h : Run G A laws_szSrc.b (params 0 cs) [] (QF true [.V, .V] [.tmp 4] r)) : A 26 cs = some r := A_run T_laws_szSrc h
theorem run_laws_toSrc {cs : List CV} {r : List CV × List CV} (h : Run G A laws_toSrc.b (params 0 cs) [] (QF true [.V] [.cell 2 6 true] r)) : A 28 cs = some r := A_run T_laws_toSrc h
theorem run_laws_eqSrc {cs : List CV} {r : List CV × List CV} (h : Run G A laws_eqSrc.b (params 0 cs) [] (QF true [.V, .V] [.tmp 4] r)) : A 30 cs = some r := A_run T_laws_eqSrc h
theorem run_spec_Compare {cs : List CV} {r : List CV × List CV} (h : Run G A spec_Compare.b (params 0 cs) [] (QF true [.V, .V] [.tmp 4] r)) : A 31 cs = some r := A_run T_spec_Compare h
theorem run_impl_Compare {cs : List CV} {r : List CV × List CV} (h : Run G A impl_Compare.b (params 0 cs) [] (QF true [.V, .V] [.tmp 4] r)) : A 32 cs = some r := A_run T_impl_Compare h
theorem run_laws_markSrc {cs : List CV} {r : List CV × List CV} (h : Run G A laws_markSrc.b (params 0 cs) [] (QF true [.M, .V] [.tmp 4] r)) : A 33 cs = some r := A_run T_laws_markSrc h
theorem run_laws_markText {cs : List CV} {r : List CV × List CV} (h : Run G A laws_markText.b (params 0 cs) [] (QF true [.V] [.tmp 2] r)) : A 59 cs = some r := A_run T_laws_markText h
theorem runE_laws_markText {cs : List CV} {X : List CV → List CV → Prop} (h : Run G A laws_markText.b (params 0 cs) [] (QE true [.V] [.tmp 2] X)) : ∃ rs os, A 59 cs = some (rs, os) ∧ X rs os := A_runE T_laws_markText h
theorem run_laws_szStringS {cs : List CV} {r : List CV × List CV} (h : Run G A laws_szStringS.b (params 0 cs) [] (QF true [.V, .V] [.tmp 4] r)) : A 67 cs = some r := A_run T_laws_szStringS h
theorem run_laws_szTypeS {cs : List CV} {r : List CV × List CV} (h : Run G A laws_szTypeS.b (params 0 cs) [] (QF true [.V, .V] [.tmp 4] r)) : A 68 cs = some r := A_run T_laws_szTypeS h
theorem run_laws_szDefS {cs : List CV} {r : List CV × List CV} (h : Run G A laws_szDefS.b (params 0 cs) [] (QF true [.V, .V] [.tmp 4] r)) : A 69 cs = some r := A_run T_laws_szDefS h
theorem run_laws_toStringS {cs : List CV} {r : List CV × List CV} (h : Run G A laws_toStringS.b (params 0 cs) [] (QF true [.V] [.tmp 2] r)) : A 78 cs = some r := A_run T_laws_toStringS h
theorem run_laws_toTypeS {cs : List CV} {r : List CV × List CV} (h : Run G A laws_toTypeS.b (params 0 cs) [] (QF true [.V] [.tmp 2] r)) : A 79 cs = some r := A_run T_laws_toTypeS h
theorem run_laws_toDefS {cs : List CV} {r : List CV × List CV} (h : Run G A laws_toDefS.b (params 0 cs) [] (QF true [.V] [.tmp 2] r)) : A 80 cs = some r := A_run T_laws_toDefS h
theorem run_laws_eqTypeS {cs : List CV} {r : List CV × List CV} (h : Run G A laws_eqTypeS.b (params 0 cs) [] (QF true [.V, .V] [.tmp 4] r)) : A 89 cs = some r := A_run T_laws_eqTypeS h
theorem run_laws_eqDefS {cs : List CV} {r : List CV × List CV} (h : Run G A laws_eqDefS.b (params 0 cs) [] (QF true [.V, .V] [.tmp 4] r)) : A 90 cs = some r := A_run T_laws_eqDefS h
theorem run_spec_SrcOk {cs : List CV} {r : List CV × List CV} (h : Run G A spec_SrcOk.b (params 0 cs) [] (QF true [.V] [.tmp 2] r)) : A 27 cs = some r := A_run T_spec_SrcOk h
theorem run_spec_l3In {cs : List CV} {r : List CV × List CV} (h : Run G A spec_l3In.b (params 0 cs) [] (QF true [.V, .V] [.tmp 4] r)) : A 91 cs = some r := A_run T_spec_l3In h
theorem run_spec_l18Size {cs : List CV} {r : List CV × List CV} (h : Run G A spec_l18Size.b (params 0 cs) [] (QF true [.V, .V] [.tmp 4] r)) : A 92 cs = some r := A_run T_spec_l18Size h
theorem run_impl_SrcOk {cs : List CV} {r : List CV × List CV} (h : Run G A impl_SrcOk.b (params 0 cs) [] (QF true [.V] [.tmp 2] r)) : A 29 cs = some r := A_run T_impl_SrcOk h
theorem run_slices_Concat_string_string {cs : List CV} {r : List CV × List CV} (h : Run G A slices_Concat_string_string.b (params 0 cs) [] (QF true [.V] [.tmp 2] r)) : A 93 cs = some r := A_run T_slices_Concat_string_string h
theorem run_impl_ahead {cs : List CV} {r : List CV × List CV} (h : Run G A impl_ahead.b (params 0 cs) [] (QF true [.V, .V] [.tmp 4] r)) : A 94 cs = some r := A_run T_impl_ahead h
theorem run_impl_less {cs : List CV} {r : List CV × List CV} (h : Run G A impl_less.b (params 0 cs) [] (QF true [.V, .V] [.tmp 4] r)) : A 95 cs = some r := A_run T_impl_less h
theorem run_impl_resized {cs : List CV} {r : List CV × List CV} (h : Run G A impl_resized.b (params 0 cs) [] (QF true [.V, .V] [.tmp 4] r)) : A 96 cs = some r := A_run T_impl_resized h
theorem run_laws_markTypeS {cs : List CV} {r : List CV × List CV} (h : Run G A laws_markTypeS.b (params 0 cs) [] (QF true [.M, .V] [.tmp 4] r)) : A 97 cs = some r := A_run T_laws_markTypeS h
theorem run_laws_markDefS {cs : List CV} {r : List CV × List CV} (h : Run G A laws_markDefS.b (params 0 cs) [] (QF true [.M, .V] [.tmp 4] r)) : A 98 cs = some r := A_run T_laws_markDefS h
theorem run_laws_szType {cs : List CV} {r : List CV × List CV} (h : Run G A laws_szType.b (params 0 cs) [] (QF true [.V, .V] [.tmp 4] r)) : A 139 cs = some r := A_run T_laws_szType h
theorem run_laws_szDef {cs : List CV} {r : List CV × List CV} (h : Run G A laws_szDef.b (params 0 cs) [] (QF true [.V, .V] [.tmp 4] r)) : A 140 cs = some r := A_run T_laws_szDef h
theorem run_laws_toType {cs : List CV} {r : List CV × List CV} (h : Run G A laws_toType.b (params 0 cs) [] (QF true [.V] [.cell 2 2 true] r)) : A 145 cs = some r := A_run T_laws_toType h
theorem run_laws_toDef {cs : List CV} {r : List CV × List CV} (h : Run G A laws_toDef.b (params 0 cs) [] (QF true [.V] [.cell 2 3 true] r)) : A 146 cs = some r := A_run T_laws_toDef h
theorem run_laws_eqType {cs : List CV} {r : List CV × List CV} (h : Run G A laws_eqType.b (params 0 cs) [] (QF true [.V, .V] [.tmp 4] r)) : A 152 cs = some r := A_run T_laws_eqType h
theorem run_laws_eqDef {cs : List CV} {r : List CV × List CV} (h : Run G A laws_eqDef.b (params 0 cs) [] (QF true [.V, .V] [.tmp 4] r)) : A 153 cs = some r := A_run T_laws_eqDef h
theorem run_spec_ProgOk {cs : List CV} {r : List CV × List CV} (h : Run G A spec_ProgOk.b (params 0 cs) [] (QF true [.V] [.tmp 2] r)) : A 51 cs = some r := A_run T_spec_ProgOk h
theorem run_spec_IsName {cs : List CV} {r : List CV × List CV} (h : Run G A spec_IsName.b (params 0 cs) [] (QF true [.V] [.tmp 2] r)) : A 70 cs = some r := A_run T_spec_IsName h
theorem run_spec_l11Many {cs : List CV} {r : List CV × List CV} (h : Run G A spec_l11Many.b (params 0 cs) [] (QF true [.V] [.tmp 2] r)) : A 71 cs = some r := A_run T_spec_l11Many h
theorem run_spec_l11Dup {cs : List CV} {r : List CV × List CV} (h : Run G A spec_l11Dup.b (params 0 cs) [] (QF true [.V] [.tmp 2] r)) : A 72 cs = some r := A_run T_spec_l11Dup h
theorem run_spec_l11Lacks {cs : List CV} {r : List CV × List CV} (h : Run G A spec_l11Lacks.b (params 0 cs) [] (QF true [.V] [.tmp 2] r)) : A 73 cs = some r := A_run T_spec_l11Lacks h
theorem run_spec_l11All {cs : List CV} {r : List CV × List CV} (h : Run G A spec_l11All.b (params 0 cs) [] (QF true [.V] [.tmp 2] r)) : A 74 cs = some r := A_run T_spec_l11All h
theorem run_spec_l11TypeNames {cs : List CV} {r : List CV × List CV} (h : Run G A spec_l11TypeNames.b (params 0 cs) [] (QF true [.V] [.tmp 2] r)) : A 75 cs = some r := A_run T_spec_l11TypeNames h
theorem run_spec_l11DefNames {cs : List CV} {r : List CV × List CV} (h : Run G A spec_l11DefNames.b (params 0 cs) [] (QF true [.V] [.tmp 2] r)) : A 76 cs = some r := A_run T_spec_l11DefNames h
theorem run_spec_l1In {cs : List CV} {r : List CV × List CV} (h : Run G A spec_l1In.b (params 0 cs) [] (QF true [.V, .V, .V] [.tmp 6] r)) : A 77 cs = some r := A_run T_spec_l1In h
theorem run_impl_IsName {cs : List CV} {r : List CV × List CV} (h : Run G A impl_IsName.b (params 0 cs) [] (QF true [.V] [.tmp 2] r)) : A 81 cs = some r := A_run T_impl_IsName h
theorem run_impl_Src_isFew {cs : List CV} {r : List CV × List CV} (h : Run G A impl_Src_isFew.b (params 0 cs) [] (QF false [.M] [.tmp 2] r)) : A 82 cs = some r := A_run T_impl_Src_isFew h
theorem run_impl_Src_isUnlike {cs : List CV} {r : List CV × List CV} (h : Run G A impl_Src_isUnlike.b (params 0 cs) [] (QF false [.M] [.tmp 2] r)) : A 83 cs = some r := A_run T_impl_Src_isUnlike h
theorem run_impl_Src_isFit {cs : List CV} {r : List CV × List CV} (h : Run G A impl_Src_isFit.b (params 0 cs) [] (QF false [.M] [.tmp 2] r)) : A 84 cs = some r := A_run T_impl_Src_isFit h
theorem run_impl_allNames {cs : List CV} {r : List CV × List CV} (h : Run G A impl_allNames.b (params 0 cs) [] (QF true [.V] [.tmp 2] r)) : A 85 cs = some r := A_run T_impl_allNames h
theorem run_impl_namesOfDefs {cs : List CV} {r : List CV × List CV} (h : Run G A impl_namesOfDefs.b (params 0 cs) [] (QF true [.V] [.tmp 2] r)) : A 86 cs = some r := A_run T_impl_namesOfDefs h
theorem run_impl_typesOk {cs : List CV} {r : List CV × List CV} (h : Run G A impl_typesOk.b (params 0 cs) [] (QF true [.V] [.tmp 2] r)) : A 87 cs = some r := A_run T_impl_typesOk h
theorem run_impl_progsOk {cs : List CV} {r : List CV × List CV} (h : Run G A impl_progsOk.b (params 0 cs) [] (QF true [.V] [.tmp 2] r)) : A 88 cs = some r := A_run T_impl_progsOk h
theorem run_slices_Contains_string_string {cs : List CV} {r : List CV × List CV} (h : Run G A slices_Contains_string_string.b (params 0 cs) [] (QF true [.V, .V] [.tmp 4] r)) : A 134 cs = some r := A_run T_slices_Contains_string_string h
theorem run_laws_markNodeS {cs : List CV} {r : List CV × List CV} (h : Run G A laws_markNodeS.b (params 0 cs) [] (QF true [.M, .V] [.tmp 4] r)) : A 58 cs = some r := A_run T_laws_markNodeS h
theorem run_laws_szProg {cs : List CV} {r : List CV × List CV} (h : Run G A laws_szProg.b (params 0 cs) [] (QF true [.V, .V] [.tmp 4] r)) : A 12 cs = some r := A_run T_laws_szProg h
theorem run_laws_toProg {cs : List CV} {r : List CV × List CV} (h : Run G A laws_toProg.b (params 0 cs) [] (QF true [.V] [.cell 2 2 true] r)) : A 14 cs = some r := A_run T_laws_toProg h
theorem run_laws_eqProg {cs : List CV} {r : List CV × List CV} (h : Run G A laws_eqProg.b (params 0 cs) [] (QF true [.V, .V] [.tmp 4] r)) : A 17 cs = some r := A_run T_laws_eqProg h
theorem run_spec_l3Node {cs : List CV} {r : List CV × List CV} (h : Run G A spec_l3Node.b (params 0 cs) [] (QF true [.V] [.tmp 2] r)) : A 122 cs = some r := A_run T_spec_l3Node h
theorem run_spec_l2Sym {cs : List CV} {r : List CV × List CV} (h : Run G A spec_l2Sym.b (params 0 cs) [] (QF true [.V] [.tmp 2] r)) : A 141 cs = some r := A_run T_spec_l2Sym h
theorem run_spec_l3Word {cs : List CV} {r : List CV × List CV} (h : Run G A spec_l3Word.b (params 0 cs) [] (QF true [.V] [.tmp 2] r)) : A 142 cs = some r := A_run T_spec_l3Word h
theorem run_spec_Arity {cs : List CV} {r : List CV × List CV} (h : Run G A spec_Arity.b (params 0 cs) [] (QF true [.V] [.tmp 2] r)) : A 143 cs = some r := A_run T_spec_Arity h
theorem run_spec_l11Twice {cs : List CV} {r : List CV × List CV} (h : Run G A spec_l11Twice.b (params 0 cs) [] (QF true [.V] [.tmp 2] r)) : A 144 cs = some r := A_run T_spec_l11Twice h
theorem run_impl_symOk {cs : List CV} {r : List CV × List CV} (h : Run G A impl_symOk.b (params 0 cs) [] (QF true [.V] [.tmp 2] r)) : A 147 cs = some r := A_run T_impl_symOk h
theorem run_impl_isOneOf {cs : List CV} {r : List CV × List CV} (h : Run G A impl_isOneOf.b (params 0 cs) [] (QF true [.V, .V] [.tmp 4] r)) : A 148 cs = some r := A_run T_impl_isOneOf h
theorem run_impl_Arity {cs : List CV} {r : List CV × List CV} (h : Run G A impl_Arity.b (params 0 cs) [] (QF true [.V] [.tmp 2] r)) : A 149 cs = some r := A_run T_impl_Arity h
theorem run_impl_isOnce {cs : List CV} {r : List CV × List CV} (h : Run G A impl_isOnce.b (params 0 cs) [] (QF true [.V] [.tmp 2] r)) : A 103 cs = some r := A_run T_impl_isOnce h
theorem run_impl_namesOfTypes {cs : List CV} {r : List CV × List CV} (h : Run G A impl_namesOfTypes.b (params 0 cs) [] (QF true [.V] [.tmp 2] r)) : A 150 cs = some r := A_run T_impl_namesOfTypes h
theorem run_impl_areIn {cs : List CV} {r : List CV × List CV} (h : Run G A impl_areIn.b (params 0 cs) [] (QF true [.V, .V] [.tmp 4] r)) : A 102 cs = some r := A_run T_impl_areIn h
theorem run_impl_inRange {cs : List CV} {r : List CV × List CV} (h : Run G A impl_inRange.b (params 0 cs) [] (QF true [.V, .V, .V] [.tmp 6] r)) : A 54 cs = some r := A_run T_impl_inRange h
theorem run_impl_namesOk {cs : List CV} {r : List CV × List CV} (h : Run G A impl_namesOk.b (params 0 cs) [] (QF true [.V, .V] [.tmp 4] r)) : A 151 cs = some r := A_run T_impl_namesOk h
theorem run_impl_ProgOk {cs : List CV} {r : List CV × List CV} (h : Run G A impl_ProgOk.b (params 0 cs) [] (QF true [.V] [.tmp 2] r)) : A 55 cs = some r := A_run T_impl_ProgOk h
theorem run_slices_Index_string_string {cs : List CV} {r : List CV × List CV} (h : Run G A slices_Index_string_string.b (params 0 cs) [] (QF true [.V, .V] [.tmp 4] r)) : A 157 cs = some r := A_run T_slices_Index_string_string h
theorem run_laws_markIntS {cs : List CV} {r : List CV × List CV} (h : Run G A laws_markIntS.b (params 0 cs) [] (QF true [.M, .V] [.tmp 4] r)) : A 127 cs = some r := A_run T_laws_markIntS h
theorem run_laws_szNodeS {cs : List CV} {r : List CV × List CV} (h : Run G A laws_szNodeS.b (params 0 cs) [] (QF true [.V, .V] [.tmp 4] r)) : A 50 cs = some r := A_run T_laws_szNodeS h
theorem run_laws_toNodeS {cs : List CV} {r : List CV × List CV} (h : Run G A laws_toNodeS.b (params 0 cs) [] (QF true [.V] [.tmp 2] r)) : A 53 cs = some r := A_run T_laws_toNodeS h
theorem run_laws_eqNodeS {cs : List CV} {r : List CV × List CV} (h : Run G A laws_eqNodeS.b (params 0 cs) [] (QF true [.V, .V] [.tmp 4] r)) : A 57 cs = some r := A_run T_laws_eqNodeS h
theorem run_spec_l3Names {cs : List CV} {r : List CV × List CV} (h : Run G A spec_l3Names.b (params 0 cs) [] (QF true [.V, .V] [.tmp 4] r)) : A 162 cs = some r := A_run T_spec_l3Names h
theorem run_spec_l3Prim {cs : List CV} {r : List CV × List CV} (h : Run G A spec_l3Prim.b (params 0 cs) [] (QF true [.V] [.tmp 2] r)) : A 178 cs = some r := A_run T_spec_l3Prim h
theorem run_spec_l2Digit {cs : List CV} {r : List CV × List CV} (h : Run G A spec_l2Digit.b (params 0 cs) [] (QF true [.V] [.tmp 2] r)) : A 188 cs = some r := A_run T_spec_l2Digit h
theorem run_spec_l2Sign {cs : List CV} {r : List CV × List CV} (h : Run G A spec_l2Sign.b (params 0 cs) [] (QF true [.V] [.tmp 2] r)) : A 189 cs = some r := A_run T_spec_l2Sign h
theorem run_spec_ReadDec {cs : List CV} {r : List CV × List CV} (h : Run G A spec_ReadDec.b (params 0 cs) [] (QF true [.V] [.tmp 2, .tmp 3] r)) : A 190 cs = some r := A_run T_spec_ReadDec h
theorem run_impl_isSymByte {cs : List CV} {r : List CV × List CV} (h : Run G A impl_isSymByte.b (params 0 cs) [] (QF true [.V] [.tmp 2] r)) : A 191 cs = some r := A_run T_impl_isSymByte h
theorem run_impl_nodeOk {cs : List CV} {r : List CV × List CV} (h : Run G A impl_nodeOk.b (params 0 cs) [] (QF true [.V] [.tmp 2] r)) : A 124 cs = some r := A_run T_impl_nodeOk h
theorem run_laws_szNode {cs : List CV} {r : List CV × List CV} (h : Run G A laws_szNode.b (params 0 cs) [] (QF true [.V, .V] [.tmp 4] r)) : A 121 cs = some r := A_run T_laws_szNode h
theorem run_laws_toNode {cs : List CV} {r : List CV × List CV} (h : Run G A laws_toNode.b (params 0 cs) [] (QF true [.V] [.cell 2 5 true] r)) : A 123 cs = some r := A_run T_laws_toNode h
theorem run_laws_eqNode {cs : List CV} {r : List CV × List CV} (h : Run G A laws_eqNode.b (params 0 cs) [] (QF true [.V, .V] [.tmp 4] r)) : A 126 cs = some r := A_run T_laws_eqNode h
theorem run_spec_l2In {cs : List CV} {r : List CV × List CV} (h : Run G A spec_l2In.b (params 0 cs) [] (QF true [.V, .V] [.tmp 4] r)) : A 207 cs = some r := A_run T_spec_l2In h
theorem run_spec_Dec {cs : List CV} {r : List CV × List CV} (h : Run G A spec_Dec.b (params 0 cs) [] (QF true [.V] [.tmp 2] r)) : A 130 cs = some r := A_run T_spec_Dec h
theorem run_impl_primOk {cs : List CV} {r : List CV × List CV} (h : Run G A impl_primOk.b (params 0 cs) [] (QF true [.V] [.tmp 2] r)) : A 180 cs = some r := A_run T_impl_primOk h
theorem run_laws_szIntS {cs : List CV} {r : List CV × List CV} (h : Run G A laws_szIntS.b (params 0 cs) [] (QF true [.V, .V] [.tmp 4] r)) : A 177 cs = some r := A_run T_laws_szIntS h
theorem run_laws_toIntS {cs : List CV} {r : List CV × List CV} (h : Run G A laws_toIntS.b (params 0 cs) [] (QF true [.V] [.tmp 2] r)) : A 179 cs = some r := A_run T_laws_toIntS h
theorem run_laws_eqIntS {cs : List CV} {r : List CV × List CV} (h : Run G A laws_eqIntS.b (params 0 cs) [] (QF true [.V, .V] [.tmp 4] r)) : A 181 cs = some r := A_run T_laws_eqIntS h
theorem run_impl_isTyped {cs : List CV} {r : List CV × List CV} (h : Run G A impl_isTyped.b (params 0 cs) [] (QF true [.V] [.tmp 2] r)) : A 203 cs = some r := A_run T_impl_isTyped h
theorem T_slices_Grow_string_string : T 154 = none := by kernel_rfl
@[simp] theorem G_154 : G 154 = some ⟨[.O, .V], true⟩ := by kernel_rfl
theorem P_slices_Grow_string_string {cs : List CV} {r : List CV × List CV} (h : prim_slices_Grow_string_string.run cs = some r) : A 154 cs = some r := A_prim T_slices_Grow_string_string (by rw [← h]; rfl)
theorem T_impl_ReadDec : T 192 = none := by kernel_rfl
@[simp] theorem G_192 : G 192 = some ⟨[.V], true⟩ := by kernel_rfl
theorem P_impl_ReadDec {cs : List CV} {r : List CV × List CV} (h : prim_impl_ReadDec.run cs = some r) : A 192 cs = some r := A_prim T_impl_ReadDec (by rw [← h]; rfl)
theorem T_strings_Contains : T 193 = none := by kernel_rfl
@[simp] theorem G_193 : G 193 = some ⟨[.V, .V], true⟩ := by kernel_rfl
theorem P_strings_Contains {cs : List CV} {r : List CV × List CV} (h : prim_strings_Contains.run cs = some r) : A 193 cs = some r := A_prim T_strings_Contains (by rw [← h]; rfl)
theorem T_strings_IndexByte : T 208 = none := by kernel_rfl
@[simp] theorem G_208 : G 208 = some ⟨[.V, .V], true⟩ := by kernel_rfl
theorem P_strings_IndexByte {cs : List CV} {r : List CV × List CV} (h : prim_strings_IndexByte.run cs = some r) : A 208 cs = some r := A_prim T_strings_IndexByte (by rw [← h]; rfl)
end Go.Proofs.YtjjfodoafefohaaGreatDoor.CM
