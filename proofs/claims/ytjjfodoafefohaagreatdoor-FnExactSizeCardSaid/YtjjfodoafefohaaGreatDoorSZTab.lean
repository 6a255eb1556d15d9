/- The table of the functions. -/
import Derived.Test.YtjjfodoafefohaaGreatDoorSZFn0
import Derived.Test.YtjjfodoafefohaaGreatDoorSZFn1
import Derived.Test.YtjjfodoafefohaaGreatDoorEngM7
import Derived.Test.YtjjfodoafefohaaGreatDoorEngPContains
import Derived.Test.YtjjfodoafefohaaGreatDoorEngPIndexByte
import Derived.Test.YtjjfodoafefohaaGreatDoorEngPReadDec
namespace Go.Proofs.YtjjfodoafefohaaGreatDoor.SZ
open Go Go.VS
set_option maxRecDepth 100000
set_option linter.unusedVariables false
set_option linter.unusedSimpArgs false
noncomputable def tab : List (Entry Tryz.prog) := [⟨10, laws_FnExactSize, Tryz.f10, Tryz.func10, laws_FnExactSize.turned⟩,
  ⟨40, laws_szSys, Tryz.f40, Tryz.func40, laws_szSys.turned⟩,
  ⟨42, laws_toSys, Tryz.f42, Tryz.func42, laws_toSys.turned⟩,
  ⟨44, laws_eqSys, Tryz.f44, Tryz.func44, laws_eqSys.turned⟩,
  ⟨45, spec_Size, Tryz.f45, Tryz.func45, spec_Size.turned⟩,
  ⟨46, impl_Size, Tryz.f46, Tryz.func46, impl_Size.turned⟩,
  ⟨67, laws_szStringS, Tryz.f67, Tryz.func67, laws_szStringS.turned⟩,
  ⟨105, laws_szCellS, Tryz.f105, Tryz.func105, laws_szCellS.turned⟩,
  ⟨106, laws_szInstS, Tryz.f106, Tryz.func106, laws_szInstS.turned⟩,
  ⟨107, laws_szUnitS, Tryz.f107, Tryz.func107, laws_szUnitS.turned⟩,
  ⟨78, laws_toStringS, Tryz.f78, Tryz.func78, laws_toStringS.turned⟩,
  ⟨110, laws_toCellS, Tryz.f110, Tryz.func110, laws_toCellS.turned⟩,
  ⟨111, laws_toInstS, Tryz.f111, Tryz.func111, laws_toInstS.turned⟩,
  ⟨112, laws_toUnitS, Tryz.f112, Tryz.func112, laws_toUnitS.turned⟩,
  ⟨16, laws_eqStringS, Tryz.f16, Tryz.func16, laws_eqStringS.turned⟩,
  ⟨116, laws_eqCellS, Tryz.f116, Tryz.func116, laws_eqCellS.turned⟩,
  ⟨117, laws_eqInstS, Tryz.f117, Tryz.func117, laws_eqInstS.turned⟩,
  ⟨118, laws_eqUnitS, Tryz.f118, Tryz.func118, laws_eqUnitS.turned⟩,
  ⟨41, spec_SysOk, Tryz.f41, Tryz.func41, spec_SysOk.turned⟩,
  ⟨43, impl_SysOk, Tryz.f43, Tryz.func43, impl_SysOk.turned⟩,
  ⟨158, laws_szCell, Tryz.f158, Tryz.func158, laws_szCell.turned⟩,
  ⟨159, laws_szInst, Tryz.f159, Tryz.func159, laws_szInst.turned⟩,
  ⟨160, laws_szUnit, Tryz.f160, Tryz.func160, laws_szUnit.turned⟩,
  ⟨164, laws_toCell, Tryz.f164, Tryz.func164, laws_toCell.turned⟩,
  ⟨165, laws_toInst, Tryz.f165, Tryz.func165, laws_toInst.turned⟩,
  ⟨166, laws_toUnit, Tryz.f166, Tryz.func166, laws_toUnit.turned⟩,
  ⟨172, laws_eqCell, Tryz.f172, Tryz.func172, laws_eqCell.turned⟩,
  ⟨173, laws_eqInst, Tryz.f173, Tryz.func173, laws_eqInst.turned⟩,
  ⟨174, laws_eqUnit, Tryz.f174, Tryz.func174, laws_eqUnit.turned⟩,
  ⟨51, spec_ProgOk, Tryz.f51, Tryz.func51, spec_ProgOk.turned⟩,
  ⟨77, spec_l1In, Tryz.f77, Tryz.func77, spec_l1In.turned⟩,
  ⟨108, spec_HeapOk, Tryz.f108, Tryz.func108, spec_HeapOk.turned⟩,
  ⟨109, spec_l8InstOk, Tryz.f109, Tryz.func109, spec_l8InstOk.turned⟩,
  ⟨54, impl_inRange, Tryz.f54, Tryz.func54, impl_inRange.turned⟩,
  ⟨55, impl_ProgOk, Tryz.f55, Tryz.func55, impl_ProgOk.turned⟩,
  ⟨113, impl_HeapOk, Tryz.f113, Tryz.func113, impl_HeapOk.turned⟩,
  ⟨114, impl_Sys_instOk, Tryz.f114, Tryz.func114, impl_Sys_instOk.turned⟩,
  ⟨115, impl_Sys_isLambda, Tryz.f115, Tryz.func115, impl_Sys_isLambda.turned⟩,
  ⟨194, laws_szValueS, Tryz.f194, Tryz.func194, laws_szValueS.turned⟩,
  ⟨68, laws_szTypeS, Tryz.f68, Tryz.func68, laws_szTypeS.turned⟩,
  ⟨195, laws_szLinkS, Tryz.f195, Tryz.func195, laws_szLinkS.turned⟩,
  ⟨12, laws_szProg, Tryz.f12, Tryz.func12, laws_szProg.turned⟩,
  ⟨198, laws_toValueS, Tryz.f198, Tryz.func198, laws_toValueS.turned⟩,
  ⟨79, laws_toTypeS, Tryz.f79, Tryz.func79, laws_toTypeS.turned⟩,
  ⟨199, laws_toLinkS, Tryz.f199, Tryz.func199, laws_toLinkS.turned⟩,
  ⟨14, laws_toProg, Tryz.f14, Tryz.func14, laws_toProg.turned⟩,
  ⟨201, laws_eqValueS, Tryz.f201, Tryz.func201, laws_eqValueS.turned⟩,
  ⟨89, laws_eqTypeS, Tryz.f89, Tryz.func89, laws_eqTypeS.turned⟩,
  ⟨202, laws_eqLinkS, Tryz.f202, Tryz.func202, laws_eqLinkS.turned⟩,
  ⟨17, laws_eqProg, Tryz.f17, Tryz.func17, laws_eqProg.turned⟩,
  ⟨122, spec_l3Node, Tryz.f122, Tryz.func122, spec_l3Node.turned⟩,
  ⟨161, spec_l6CellOk, Tryz.f161, Tryz.func161, spec_l6CellOk.turned⟩,
  ⟨70, spec_IsName, Tryz.f70, Tryz.func70, spec_IsName.turned⟩,
  ⟨91, spec_l3In, Tryz.f91, Tryz.func91, spec_l3In.turned⟩,
  ⟨162, spec_l3Names, Tryz.f162, Tryz.func162, spec_l3Names.turned⟩,
  ⟨163, spec_ValueOk, Tryz.f163, Tryz.func163, spec_ValueOk.turned⟩,
  ⟨124, impl_nodeOk, Tryz.f124, Tryz.func124, impl_nodeOk.turned⟩,
  ⟨167, impl_cellOk, Tryz.f167, Tryz.func167, impl_cellOk.turned⟩,
  ⟨168, impl_valuesOk, Tryz.f168, Tryz.func168, impl_valuesOk.turned⟩,
  ⟨169, impl_areBelow, Tryz.f169, Tryz.func169, impl_areBelow.turned⟩,
  ⟨81, impl_IsName, Tryz.f81, Tryz.func81, impl_IsName.turned⟩,
  ⟨87, impl_typesOk, Tryz.f87, Tryz.func87, impl_typesOk.turned⟩,
  ⟨151, impl_namesOk, Tryz.f151, Tryz.func151, impl_namesOk.turned⟩,
  ⟨170, impl_ValueOk, Tryz.f170, Tryz.func170, impl_ValueOk.turned⟩,
  ⟨171, impl_Sys_linksOk, Tryz.f171, Tryz.func171, impl_Sys_linksOk.turned⟩,
  ⟨212, laws_szValue, Tryz.f212, Tryz.func212, laws_szValue.turned⟩,
  ⟨139, laws_szType, Tryz.f139, Tryz.func139, laws_szType.turned⟩,
  ⟨213, laws_szLink, Tryz.f213, Tryz.func213, laws_szLink.turned⟩,
  ⟨50, laws_szNodeS, Tryz.f50, Tryz.func50, laws_szNodeS.turned⟩,
  ⟨214, laws_toValue, Tryz.f214, Tryz.func214, laws_toValue.turned⟩,
  ⟨145, laws_toType, Tryz.f145, Tryz.func145, laws_toType.turned⟩,
  ⟨215, laws_toLink, Tryz.f215, Tryz.func215, laws_toLink.turned⟩,
  ⟨53, laws_toNodeS, Tryz.f53, Tryz.func53, laws_toNodeS.turned⟩,
  ⟨49, laws_eqValue, Tryz.f49, Tryz.func49, laws_eqValue.turned⟩,
  ⟨152, laws_eqType, Tryz.f152, Tryz.func152, laws_eqType.turned⟩,
  ⟨216, laws_eqLink, Tryz.f216, Tryz.func216, laws_eqLink.turned⟩,
  ⟨57, laws_eqNodeS, Tryz.f57, Tryz.func57, laws_eqNodeS.turned⟩,
  ⟨141, spec_l2Sym, Tryz.f141, Tryz.func141, spec_l2Sym.turned⟩,
  ⟨178, spec_l3Prim, Tryz.f178, Tryz.func178, spec_l3Prim.turned⟩,
  ⟨196, spec_l6Points, Tryz.f196, Tryz.func196, spec_l6Points.turned⟩,
  ⟨142, spec_l3Word, Tryz.f142, Tryz.func142, spec_l3Word.turned⟩,
  ⟨143, spec_Arity, Tryz.f143, Tryz.func143, spec_Arity.turned⟩,
  ⟨197, spec_l6Cell, Tryz.f197, Tryz.func197, spec_l6Cell.turned⟩,
  ⟨147, impl_symOk, Tryz.f147, Tryz.func147, impl_symOk.turned⟩,
  ⟨180, impl_primOk, Tryz.f180, Tryz.func180, impl_primOk.turned⟩,
  ⟨85, impl_allNames, Tryz.f85, Tryz.func85, impl_allNames.turned⟩,
  ⟨200, impl_cellKind, Tryz.f200, Tryz.func200, impl_cellKind.turned⟩,
  ⟨148, impl_isOneOf, Tryz.f148, Tryz.func148, impl_isOneOf.turned⟩,
  ⟨149, impl_Arity, Tryz.f149, Tryz.func149, impl_Arity.turned⟩,
  ⟨157, slices_Index_string_string, Tryz.f157, Tryz.func157, slices_Index_string_string.turned⟩,
  ⟨134, slices_Contains_string_string, Tryz.f134, Tryz.func134, slices_Contains_string_string.turned⟩,
  ⟨121, laws_szNode, Tryz.f121, Tryz.func121, laws_szNode.turned⟩,
  ⟨123, laws_toNode, Tryz.f123, Tryz.func123, laws_toNode.turned⟩,
  ⟨126, laws_eqNode, Tryz.f126, Tryz.func126, laws_eqNode.turned⟩,
  ⟨188, spec_l2Digit, Tryz.f188, Tryz.func188, spec_l2Digit.turned⟩,
  ⟨189, spec_l2Sign, Tryz.f189, Tryz.func189, spec_l2Sign.turned⟩,
  ⟨190, spec_ReadDec, Tryz.f190, Tryz.func190, spec_ReadDec.turned⟩,
  ⟨191, impl_isSymByte, Tryz.f191, Tryz.func191, impl_isSymByte.turned⟩,
  ⟨203, impl_isTyped, Tryz.f203, Tryz.func203, impl_isTyped.turned⟩,
  ⟨177, laws_szIntS, Tryz.f177, Tryz.func177, laws_szIntS.turned⟩,
  ⟨179, laws_toIntS, Tryz.f179, Tryz.func179, laws_toIntS.turned⟩,
  ⟨181, laws_eqIntS, Tryz.f181, Tryz.func181, laws_eqIntS.turned⟩,
  ⟨207, spec_l2In, Tryz.f207, Tryz.func207, spec_l2In.turned⟩,
  ⟨130, spec_Dec, Tryz.f130, Tryz.func130, spec_Dec.turned⟩]
noncomputable def ptab : List (PEntry Tryz.prog LaidX) := [prim_impl_ReadDec, prim_strings_Contains, prim_strings_IndexByte]
noncomputable def T : FuncId → Option VFn := tabT tab
noncomputable def G : Sigs := tabG tab ptab
noncomputable def A : Fns := lim G T (tabP ptab)
theorem A_run {f : FuncId} {vf : VFn} {cs : List CV} {r : List CV × List CV} (hT : T f = some vf) (h : Run G A vf.body (params 0 cs) [] (QF vf.sig.own vf.sig.modes vf.res r)) : A f cs = some r := lim_run hT h
theorem A_runE {f : FuncId} {vf : VFn} {cs : List CV} {X : List CV → List CV → Prop} (hT : T f = some vf) (h : Run G A vf.body (params 0 cs) [] (QE vf.sig.own vf.sig.modes vf.res X)) : ∃ rs os, A f cs = some (rs, os) ∧ X rs os := lim_runE hT h
theorem A_prim {f : FuncId} {cs : List CV} {r : List CV × List CV} (hT : T f = none) (h : tabP ptab f cs = some r) : A f cs = some r := lim_prim hT h
theorem A_answers {W : World} (hX : LaidX W) {f : FuncId} {g : Sig} {cs res outs : List CV} (hg : G f = some g) (h : A f cs = some (res, outs)) : Answers Tryz.prog W f cs res outs := lim_answers (tabT_ok tab ptab) (tabP_ok hX tab ptab) hg h
theorem T_laws_FnExactSize : T 10 = some laws_FnExactSize := by kernel_rfl
@[simp] theorem G_10 : G 10 = some ⟨[.V], true⟩ := by kernel_rfl
theorem T_laws_szSys : T 40 = some laws_szSys := by kernel_rfl
@[simp] theorem G_40 : G 40 = some ⟨[.V, .V], true⟩ := by kernel_rfl
theorem T_laws_toSys : T 42 = some laws_toSys := by kernel_rfl
@[simp] theorem G_42 : G 42 = some ⟨[.V], true⟩ := by kernel_rfl
theorem T_laws_eqSys : T 44 = some laws_eqSys := by kernel_rfl
@[simp] theorem G_44 : G 44 = some ⟨[.V, .V], true⟩ := by kernel_rfl
theorem T_spec_Size : T 45 = some spec_Size := by kernel_rfl
@[simp] theorem G_45 : G 45 = some ⟨[.V], true⟩ := by kernel_rfl
theorem T_impl_Size : T 46 = some impl_Size := by kernel_rfl
@[simp] theorem G_46 : G 46 = some ⟨[.V], true⟩ := by kernel_rfl
theorem T_laws_szStringS : T 67 = some laws_szStringS := by kernel_rfl
@[simp] theorem G_67 : G 67 = some ⟨[.V, .V], true⟩ := by kernel_rfl
theorem T_laws_szCellS : T 105 = some laws_szCellS := by kernel_rfl
@[simp] theorem G_105 : G 105 = some ⟨[.V, .V], true⟩ := by kernel_rfl
theorem T_laws_szInstS : T 106 = some laws_szInstS := by kernel_rfl
@[simp] theorem G_106 : G 106 = some ⟨[.V, .V], true⟩ := by kernel_rfl
theorem T_laws_szUnitS : T 107 = some laws_szUnitS := by kernel_rfl
@[simp] theorem G_107 : G 107 = some ⟨[.V, .V], true⟩ := by kernel_rfl
theorem T_laws_toStringS : T 78 = some laws_toStringS := by kernel_rfl
@[simp] theorem G_78 : G 78 = some ⟨[.V], true⟩ := by kernel_rfl
theorem T_laws_toCellS : T 110 = some laws_toCellS := by kernel_rfl
@[simp] theorem G_110 : G 110 = some ⟨[.V], true⟩ := by kernel_rfl
theorem T_laws_toInstS : T 111 = some laws_toInstS := by kernel_rfl
@[simp] theorem G_111 : G 111 = some ⟨[.V], true⟩ := by kernel_rfl
theorem T_laws_toUnitS : T 112 = some laws_toUnitS := by kernel_rfl
@[simp] theorem G_112 : G 112 = some ⟨[.V], true⟩ := by kernel_rfl
theorem T_laws_eqStringS : T 16 = some laws_eqStringS := by kernel_rfl
@[simp] theorem G_16 : G 16 = some ⟨[.V, .V], true⟩ := by kernel_rfl
theorem T_laws_eqCellS : T 116 = some laws_eqCellS := by kernel_rfl
@[simp] theorem G_116 : G 116 = some ⟨[.V, .V], true⟩ := by kernel_rfl
theorem T_laws_eqInstS : T 117 = some laws_eqInstS := by kernel_rfl
@[simp] theorem G_117 : G 117 = some ⟨[.V, .V], true⟩ := by kernel_rfl
theorem T_laws_eqUnitS : T 118 = some laws_eqUnitS := by kernel_rfl
@[simp] theorem G_118 : G 118 = some ⟨[.V, .V], true⟩ := by kernel_rfl
theorem T_spec_SysOk : T 41 = some spec_SysOk := by kernel_rfl
@[simp] theorem G_41 : G 41 = some ⟨[.V], true⟩ := by kernel_rfl
theorem T_impl_SysOk : T 43 = some impl_SysOk := by kernel_rfl
@[simp] theorem G_43 : G 43 = some ⟨[.V], true⟩ := by kernel_rfl
theorem T_laws_szCell : T 158 = some laws_szCell := by kernel_rfl
@[simp] theorem G_158 : G 158 = some ⟨[.V, .V], true⟩ := by kernel_rfl
theorem T_laws_szInst : T 159 = some laws_szInst := by kernel_rfl
@[simp] theorem G_159 : G 159 = some ⟨[.V, .V], true⟩ := by kernel_rfl
theorem T_laws_szUnit : T 160 = some laws_szUnit := by kernel_rfl
@[simp] theorem G_160 : G 160 = some ⟨[.V, .V], true⟩ := by kernel_rfl
theorem T_laws_toCell : T 164 = some laws_toCell := by kernel_rfl
@[simp] theorem G_164 : G 164 = some ⟨[.V], true⟩ := by kernel_rfl
theorem T_laws_toInst : T 165 = some laws_toInst := by kernel_rfl
@[simp] theorem G_165 : G 165 = some ⟨[.V], true⟩ := by kernel_rfl
theorem T_laws_toUnit : T 166 = some laws_toUnit := by kernel_rfl
@[simp] theorem G_166 : G 166 = some ⟨[.V], true⟩ := by kernel_rfl
theorem T_laws_eqCell : T 172 = some laws_eqCell := by kernel_rfl
@[simp] theorem G_172 : G 172 = some ⟨[.V, .V], true⟩ := by kernel_rfl
theorem T_laws_eqInst : T 173 = some laws_eqInst := by kernel_rfl
@[simp] theorem G_173 : G 173 = some ⟨[.V, .V], true⟩ := by kernel_rfl
theorem T_laws_eqUnit : T 174 = some laws_eqUnit := by kernel_rfl
@[simp] theorem G_174 : G 174 = some ⟨[.V, .V], true⟩ := by kernel_rfl
theorem T_spec_ProgOk : T 51 = some spec_ProgOk := by kernel_rfl
@[simp] theorem G_51 : G 51 = some ⟨[.V], true⟩ := by kernel_rfl
theorem T_spec_l1In : T 77 = some spec_l1In := by kernel_rfl
@[simp] theorem G_77 : G 77 = some ⟨[.V, .V, .V], true⟩ := by kernel_rfl
theorem T_spec_HeapOk : T 108 = some spec_HeapOk := by kernel_rfl
@[simp] theorem G_108 : G 108 = some ⟨[.V], true⟩ := by kernel_rfl
theorem T_spec_l8InstOk : T 109 = some spec_l8InstOk := by kernel_rfl
@[simp] theorem G_109 : G 109 = some ⟨[.V, .V], true⟩ := by kernel_rfl
theorem T_impl_inRange : T 54 = some impl_inRange := by kernel_rfl
@[simp] theorem G_54 : G 54 = some ⟨[.V, .V, .V], true⟩ := by kernel_rfl
theorem T_impl_ProgOk : T 55 = some impl_ProgOk := by kernel_rfl
@[simp] theorem G_55 : G 55 = some ⟨[.V], true⟩ := by kernel_rfl
theorem T_impl_HeapOk : T 113 = some impl_HeapOk := by kernel_rfl
@[simp] theorem G_113 : G 113 = some ⟨[.V], true⟩ := by kernel_rfl
theorem T_impl_Sys_instOk : T 114 = some impl_Sys_instOk := by kernel_rfl
@[simp] theorem G_114 : G 114 = some ⟨[.M, .V], false⟩ := by kernel_rfl
theorem T_impl_Sys_isLambda : T 115 = some impl_Sys_isLambda := by kernel_rfl
@[simp] theorem G_115 : G 115 = some ⟨[.M, .V, .V], false⟩ := by kernel_rfl
theorem T_laws_szValueS : T 194 = some laws_szValueS := by kernel_rfl
@[simp] theorem G_194 : G 194 = some ⟨[.V, .V], true⟩ := by kernel_rfl
theorem T_laws_szTypeS : T 68 = some laws_szTypeS := by kernel_rfl
@[simp] theorem G_68 : G 68 = some ⟨[.V, .V], true⟩ := by kernel_rfl
theorem T_laws_szLinkS : T 195 = some laws_szLinkS := by kernel_rfl
@[simp] theorem G_195 : G 195 = some ⟨[.V, .V], true⟩ := by kernel_rfl
theorem T_laws_szProg : T 12 = some laws_szProg := by kernel_rfl
@[simp] theorem G_12 : G 12 = some ⟨[.V, .V], true⟩ := by kernel_rfl
theorem T_laws_toValueS : T 198 = some laws_toValueS := by kernel_rfl
@[simp] theorem G_198 : G 198 = some ⟨[.V], true⟩ := by kernel_rfl
theorem T_laws_toTypeS : T 79 = some laws_toTypeS := by kernel_rfl
@[simp] theorem G_79 : G 79 = some ⟨[.V], true⟩ := by kernel_rfl
theorem T_laws_toLinkS : T 199 = some laws_toLinkS := by kernel_rfl
@[simp] theorem G_199 : G 199 = some ⟨[.V], true⟩ := by kernel_rfl
theorem T_laws_toProg : T 14 = some laws_toProg := by kernel_rfl
@[simp] theorem G_14 : G 14 = some ⟨[.V], true⟩ := by kernel_rfl
theorem T_laws_eqValueS : T 201 = some laws_eqValueS := by kernel_rfl
@[simp] theorem G_201 : G 201 = some ⟨[.V, .V], true⟩ := by kernel_rfl
theorem T_laws_eqTypeS : T 89 = some laws_eqTypeS := by kernel_rfl
@[simp] theorem G_89 : G 89 = some ⟨[.V, .V], true⟩ := by kernel_rfl
theorem T_laws_eqLinkS : T 202 = some laws_eqLinkS := by kernel_rfl
@[simp] theorem G_202 : G 202 = some ⟨[.V, .V], true⟩ := by kernel_rfl
theorem T_laws_eqProg : T 17 = some laws_eqProg := by kernel_rfl
@[simp] theorem G_17 : G 17 = some ⟨[.V, .V], true⟩ := by kernel_rfl
theorem T_spec_l3Node : T 122 = some spec_l3Node := by kernel_rfl
@[simp] theorem G_122 : G 122 = some ⟨[.V], true⟩ := by kernel_rfl
theorem T_spec_l6CellOk : T 161 = some spec_l6CellOk := by kernel_rfl
@[simp] theorem G_161 : G 161 = some ⟨[.V, .V], true⟩ := by kernel_rfl
theorem T_spec_IsName : T 70 = some spec_IsName := by kernel_rfl
@[simp] theorem G_70 : G 70 = some ⟨[.V], true⟩ := by kernel_rfl
theorem T_spec_l3In : T 91 = some spec_l3In := by kernel_rfl
@[simp] theorem G_91 : G 91 = some ⟨[.V, .V], true⟩ := by kernel_rfl
theorem T_spec_l3Names : T 162 = some spec_l3Names := by kernel_rfl
@[simp] theorem G_162 : G 162 = some ⟨[.V, .V], true⟩ := by kernel_rfl
theorem T_spec_ValueOk : T 163 = some spec_ValueOk := by kernel_rfl
@[simp] theorem G_163 : G 163 = some ⟨[.V, .V], true⟩ := by kernel_rfl
theorem T_impl_nodeOk : T 124 = some impl_nodeOk := by kernel_rfl
@[simp] theorem G_124 : G 124 = some ⟨[.V], true⟩ := by kernel_rfl
theorem T_impl_cellOk : T 167 = some impl_cellOk := by kernel_rfl
@[simp] theorem G_167 : G 167 = some ⟨[.V], true⟩ := by kernel_rfl
theorem T_impl_valuesOk : T 168 = some impl_valuesOk := by kernel_rfl
@[simp] theorem G_168 : G 168 = some ⟨[.V, .V], true⟩ := by kernel_rfl
theorem T_impl_areBelow : T 169 = some impl_areBelow := by kernel_rfl
@[simp] theorem G_169 : G 169 = some ⟨[.V, .V], true⟩ := by kernel_rfl
theorem T_impl_IsName : T 81 = some impl_IsName := by kernel_rfl
@[simp] theorem G_81 : G 81 = some ⟨[.V], true⟩ := by kernel_rfl
theorem T_impl_typesOk : T 87 = some impl_typesOk := by kernel_rfl
@[simp] theorem G_87 : G 87 = some ⟨[.V], true⟩ := by kernel_rfl
theorem T_impl_namesOk : T 151 = some impl_namesOk := by kernel_rfl
@[simp] theorem G_151 : G 151 = some ⟨[.V, .V], true⟩ := by kernel_rfl
theorem T_impl_ValueOk : T 170 = some impl_ValueOk := by kernel_rfl
@[simp] theorem G_170 : G 170 = some ⟨[.V, .V], true⟩ := by kernel_rfl
theorem T_impl_Sys_linksOk : T 171 = some impl_Sys_linksOk := by kernel_rfl
@[simp] theorem G_171 : G 171 = some ⟨[.M, .V], false⟩ := by kernel_rfl
theorem T_laws_szValue : T 212 = some laws_szValue := by kernel_rfl
@[simp] theorem G_212 : G 212 = some ⟨[.V, .V], true⟩ := by kernel_rfl
theorem T_laws_szType : T 139 = some laws_szType := by kernel_rfl
@[simp] theorem G_139 : G 139 = some ⟨[.V, .V], true⟩ := by kernel_rfl
theorem T_laws_szLink : T 213 = some laws_szLink := by kernel_rfl
@[simp] theorem G_213 : G 213 = some ⟨[.V, .V], true⟩ := by kernel_rfl
theorem T_laws_szNodeS : T 50 = some laws_szNodeS := by kernel_rfl
@[simp] theorem G_50 : G 50 = some ⟨[.V, .V], true⟩ := by kernel_rfl
theorem T_laws_toValue : T 214 = some laws_toValue := by kernel_rfl
@[simp] theorem G_214 : G 214 = some ⟨[.V], true⟩ := by kernel_rfl
theorem T_laws_toType : T 145 = some laws_toType := by kernel_rfl
@[simp] theorem G_145 : G 145 = some ⟨[.V], true⟩ := by kernel_rfl
theorem T_laws_toLink : T 215 = some laws_toLink := by kernel_rfl
@[simp] theorem G_215 : G 215 = some ⟨[.V], true⟩ := by kernel_rfl
theorem T_laws_toNodeS : T 53 = some laws_toNodeS := by kernel_rfl
@[simp] theorem G_53 : G 53 = some ⟨[.V], true⟩ := by kernel_rfl
theorem T_laws_eqValue : T 49 = some laws_eqValue := by kernel_rfl
@[simp] theorem G_49 : G 49 = some ⟨[.V, .V], true⟩ := by kernel_rfl
theorem T_laws_eqType : T 152 = some laws_eqType := by kernel_rfl
@[simp] theorem G_152 : G 152 = some ⟨[.V, .V], true⟩ := by kernel_rfl
theorem T_laws_eqLink : T 216 = some laws_eqLink := by kernel_rfl
@[simp] theorem G_216 : G 216 = some ⟨[.V, .V], true⟩ := by kernel_rfl
theorem T_laws_eqNodeS : T 57 = some laws_eqNodeS := by kernel_rfl
@[simp] theorem G_57 : G 57 = some ⟨[.V, .V], true⟩ := by kernel_rfl
theorem T_spec_l2Sym : T 141 = some spec_l2Sym := by kernel_rfl
@[simp] theorem G_141 : G 141 = some ⟨[.V], true⟩ := by kernel_rfl
theorem T_spec_l3Prim : T 178 = some spec_l3Prim := by kernel_rfl
@[simp] theorem G_178 : G 178 = some ⟨[.V], true⟩ := by kernel_rfl
theorem T_spec_l6Points : T 196 = some spec_l6Points := by kernel_rfl
@[simp] theorem G_196 : G 196 = some ⟨[.V], true⟩ := by kernel_rfl
theorem T_spec_l3Word : T 142 = some spec_l3Word := by kernel_rfl
@[simp] theorem G_142 : G 142 = some ⟨[.V], true⟩ := by kernel_rfl
theorem T_spec_Arity : T 143 = some spec_Arity := by kernel_rfl
@[simp] theorem G_143 : G 143 = some ⟨[.V], true⟩ := by kernel_rfl
theorem T_spec_l6Cell : T 197 = some spec_l6Cell := by kernel_rfl
@[simp] theorem G_197 : G 197 = some ⟨[.V, .V, .V], true⟩ := by kernel_rfl
theorem T_impl_symOk : T 147 = some impl_symOk := by kernel_rfl
@[simp] theorem G_147 : G 147 = some ⟨[.V], true⟩ := by kernel_rfl
theorem T_impl_primOk : T 180 = some impl_primOk := by kernel_rfl
@[simp] theorem G_180 : G 180 = some ⟨[.V], true⟩ := by kernel_rfl
theorem T_impl_allNames : T 85 = some impl_allNames := by kernel_rfl
@[simp] theorem G_85 : G 85 = some ⟨[.V], true⟩ := by kernel_rfl
theorem T_impl_cellKind : T 200 = some impl_cellKind := by kernel_rfl
@[simp] theorem G_200 : G 200 = some ⟨[.V], true⟩ := by kernel_rfl
theorem T_impl_isOneOf : T 148 = some impl_isOneOf := by kernel_rfl
@[simp] theorem G_148 : G 148 = some ⟨[.V, .V], true⟩ := by kernel_rfl
theorem T_impl_Arity : T 149 = some impl_Arity := by kernel_rfl
@[simp] theorem G_149 : G 149 = some ⟨[.V], true⟩ := by kernel_rfl
theorem T_slices_Index_string_string : T 157 = some slices_Index_string_string := by kernel_rfl
@[simp] theorem G_157 : G 157 = some ⟨[.V, .V], true⟩ := by kernel_rfl
theorem T_slices_Contains_string_string : T 134 = some slices_Contains_string_string := by kernel_rfl
@[simp] theorem G_134 : G 134 = some ⟨[.V, .V], true⟩ := by kernel_rfl
theorem T_laws_szNode : T 121 = some laws_szNode := by kernel_rfl
@[simp] theorem G_121 : G 121 = some ⟨[.V, .V], true⟩ := by kernel_rfl
theorem T_laws_toNode : T 123 = some laws_toNode := by kernel_rfl
@[simp] theorem G_123 : G 123 = some ⟨[.V], true⟩ := by kernel_rfl
theorem T_laws_eqNode : T 126 = some laws_eqNode := by kernel_rfl
@[simp] theorem G_126 : G 126 = some ⟨[.V, .V], true⟩ := by kernel_rfl
theorem T_spec_l2Digit : T 188 = some spec_l2Digit := by kernel_rfl
@[simp] theorem G_188 : G 188 = some ⟨[.V], true⟩ := by kernel_rfl
theorem T_spec_l2Sign : T 189 = some spec_l2Sign := by kernel_rfl
@[simp] theorem G_189 : G 189 = some ⟨[.V], true⟩ := by kernel_rfl
theorem T_spec_ReadDec : T 190 = some spec_ReadDec := by kernel_rfl
@[simp] theorem G_190 : G 190 = some ⟨[.V], true⟩ := by kernel_rfl
theorem T_impl_isSymByte : T 191 = some impl_isSymByte := by kernel_rfl
@[simp] theorem G_191 : G 191 = some ⟨[.V], true⟩ := by kernel_rfl
theorem T_impl_isTyped : T 203 = some impl_isTyped := by kernel_rfl
@[simp] theorem G_203 : G 203 = some ⟨[.V], true⟩ := by kernel_rfl
theorem T_laws_szIntS : T 177 = some laws_szIntS := by kernel_rfl
@[simp] theorem G_177 : G 177 = some ⟨[.V, .V], true⟩ := by kernel_rfl
theorem T_laws_toIntS : T 179 = some laws_toIntS := by kernel_rfl
@[simp] theorem G_179 : G 179 = some ⟨[.V], true⟩ := by kernel_rfl
theorem T_laws_eqIntS : T 181 = some laws_eqIntS := by kernel_rfl
@[simp] theorem G_181 : G 181 = some ⟨[.V, .V], true⟩ := by kernel_rfl
theorem T_spec_l2In : T 207 = some spec_l2In := by kernel_rfl
@[simp] theorem G_207 : G 207 = some ⟨[.V, .V], true⟩ := by kernel_rfl
theorem T_spec_Dec : T 130 = some spec_Dec := by kernel_rfl
@[simp] theorem G_130 : G 130 = some ⟨[.V], true⟩ := by kernel_rfl
theorem run_laws_FnExactSize {cs : List CV} {r : List CV × List CV} (h : Run G A laws_FnExactSize.b (params 0 cs) [] (QF true [.V] [.tmp 2] r)) : A 10 cs = some r := A_run T_laws_FnExactSize h
theorem run_laws_szSys {cs : List CV} {r : List CV × List CV} (h : Run G A laws_szSys.b (params 0 cs) [] (QF true [.V, .V] [.tmp 4] r)) : A 40 cs = some r := A_run T_laws_szSys h
theorem run_laws_toSys {cs : List CV} {r : List CV × List CV} (h : Run G A laws_toSys.b (params 0 cs) [] (QF true [.V] [.cell 2 4 true] r)) : A 42 cs = some r := A_run T_laws_toSys h
theorem run_laws_eqSys {cs : List CV} {r : List CV × List CV} (h : Run G A laws_eqSys.b (params 0 cs) [] (QF true [.V, .V] [.tmp 4] r)) : A 44 cs = some r := A_run T_laws_eqSys h
theorem run_spec_Size {cs : List CV} {r : List CV × List CV} (h : Run G A spec_Size.b (params 0 cs) [] (QF true [.V] [.tmp 2] r)) : A 45 cs = some r := A_run T_spec_Size h
theorem run_impl_Size {cs : List CV} {r : List CV × List CV} (h : Run G A impl_Size.b (params 0 cs) [] (QF true [.V] [.tmp 2] r)) : A 46 cs = some r := A_run T_impl_Size h
theorem run_laws_szStringS {cs : List CV} {r : List CV × List CV} (h : Run G A laws_szStringS.b (params 0 cs) [] (QF true [.V, .V] [.tmp 4] r)) : A 67 cs = some r := A_run T_laws_szStringS h
theorem run_laws_szCellS {cs : List CV} {r : List CV × List CV} (h : Run G A laws_szCellS.b (params 0 cs) [] (QF true [.V, .V] [.tmp 4] r)) : A 105 cs = some r := A_run T_laws_szCellS h
theorem run_laws_szInstS {cs : List CV} {r : List CV × List CV} (h : Run G A laws_szInstS.b (params 0 cs) [] (QF true [.V, .V] [.tmp 4] r)) : A 106 cs = some r := A_run T_laws_szInstS h
theorem run_laws_szUnitS {cs : List CV} {r : List CV × List CV} (h : Run G A laws_szUnitS.b (params 0 cs) [] (QF true [.V, .V] [.tmp 4] r)) : A 107 cs = some r := A_run T_laws_szUnitS h
theorem run_laws_toStringS {cs : List CV} {r : List CV × List CV} (h : Run G A laws_toStringS.b (params 0 cs) [] (QF true [.V] [.tmp 2] r)) : A 78 cs = some r := A_run T_laws_toStringS h
theorem run_laws_toCellS {cs : List CV} {r : List CV × List CV} (h : Run G A laws_toCellS.b (params 0 cs) [] (QF true [.V] [.tmp 2] r)) : A 110 cs = some r := A_run T_laws_toCellS h
theorem run_laws_toInstS {cs : List CV} {r : List CV × List CV} (h : Run G A laws_toInstS.b (params 0 cs) [] (QF true [.V] [.tmp 2] r)) : A 111 cs = some r := A_run T_laws_toInstS h
theorem run_laws_toUnitS {cs : List CV} {r : List CV × List CV} (h : Run G A laws_toUnitS.b (params 0 cs) [] (QF true [.V] [.tmp 2] r)) : A 112 cs = some r := A_run T_laws_toUnitS h
theorem run_laws_eqStringS {cs : List CV} {r : List CV × List CV} (h : Run G A laws_eqStringS.b (params 0 cs) [] (QF true [.V, .V] [.tmp 4] r)) : A 16 cs = some r := A_run T_laws_eqStringS h
theorem run_laws_eqCellS {cs : List CV} {r : List CV × List CV} (h : Run G A laws_eqCellS.b (params 0 cs) [] (QF true [.V, .V] [.tmp 4] r)) : A 116 cs = some r := A_run T_laws_eqCellS h
theorem run_laws_eqInstS {cs : List CV} {r : List CV × List CV} (h : Run G A laws_eqInstS.b (params 0 cs) [] (QF true [.V, .V] [.tmp 4] r)) : A 117 cs = some r := A_run T_laws_eqInstS h
theorem run_laws_eqUnitS {cs : List CV} {r : List CV × List CV} (h : Run G A laws_eqUnitS.b (params 0 cs) [] (QF true [.V, .V] [.tmp 4] r)) : A 118 cs = some r := A_run T_laws_eqUnitS h
theorem run_spec_SysOk {cs : List CV} {r : List CV × List CV} (h : Run G A spec_SysOk.b (params 0 cs) [] (QF true [.V] [.tmp 2] r)) : A 41 cs = some r := A_run T_spec_SysOk h
theorem run_impl_SysOk {cs : List CV} {r : List CV × List CV} (h : Run G A impl_SysOk.b (params 0 cs) [] (QF true [.V] [.tmp 2] r)) : A 43 cs = some r := A_run T_impl_SysOk h
theorem run_laws_szCell {cs : List CV} {r : List CV × List CV} (h : Run G A laws_szCell.b (params 0 cs) [] (QF true [.V, .V] [.tmp 4] r)) : A 158 cs = some r := A_run T_laws_szCell h
theorem run_laws_szInst {cs : List CV} {r : List CV × List CV} (h : Run G A laws_szInst.b (params 0 cs) [] (QF true [.V, .V] [.tmp 4] r)) : A 159 cs = some r := A_run T_laws_szInst h
theorem run_laws_szUnit {cs : List CV} {r : List CV × List CV} (h : Run G A laws_szUnit.b (params 0 cs) [] (QF true [.V, .V] [.tmp 4] r)) : A 160 cs = some r := A_run T_laws_szUnit h
theorem run_laws_toCell {cs : List CV} {r : List CV × List CV} (h : Run G A laws_toCell.b (params 0 cs) [] (QF true [.V] [.cell 2 6 true] r)) : A 164 cs = some r := A_run T_laws_toCell h
theorem run_laws_toInst {cs : List CV} {r : List CV × List CV} (h : Run G A laws_toInst.b (params 0 cs) [] (QF true [.V] [.cell 2 6 true] r)) : A 165 cs = some r := A_run T_laws_toInst h
theorem run_laws_toUnit {cs : List CV} {r : List CV × List CV} (h : Run G A laws_toUnit.b (params 0 cs) [] (QF true [.V] [.cell 2 3 true] r)) : A 166 cs = some r := A_run T_laws_toUnit h
theorem run_laws_eqCell {cs : List CV} {r : List CV × List CV} (h : Run G A laws_eqCell.b (params 0 cs) [] (QF true [.V, .V] [.tmp 4] r)) : A 172 cs = some r := A_run T_laws_eqCell h
theorem run_laws_eqInst {cs : List CV} {r : List CV × List CV} (h : Run G A laws_eqInst.b (params 0 cs) [] (QF true [.V, .V] [.tmp 4] r)) : A 173 cs = some r := A_run T_laws_eqInst h
theorem run_laws_eqUnit {cs : List CV} {r : List CV × List CV} (h : Run G A laws_eqUnit.b (params 0 cs) [] (QF true [.V, .V] [.tmp 4] r)) : A 174 cs = some r := A_run T_laws_eqUnit h
theorem run_spec_ProgOk {cs : List CV} {r : List CV × List CV} (h : Run G A spec_ProgOk.b (params 0 cs) [] (QF true [.V] [.tmp 2] r)) : A 51 cs = some r := A_run T_spec_ProgOk h
theorem run_spec_l1In {cs : List CV} {r : List CV × List CV} (h : Run G A spec_l1In.b (params 0 cs) [] (QF true [.V, .V, .V] [.tmp 6] r)) : A 77 cs = some r := A_run T_spec_l1In h
theorem run_spec_HeapOk {cs : List CV} {r : List CV × List CV} (h : Run G A spec_HeapOk.b (params 0 cs) [] (QF true [.V] [.tmp 2] r)) : A 108 cs = some r := A_run T_spec_HeapOk h
theorem run_spec_l8InstOk {cs : List CV} {r : List CV × List CV} (h : Run G A spec_l8InstOk.b (params 0 cs) [] (QF true [.V, .V] [.tmp 4] r)) : A 109 cs = some r := A_run T_spec_l8InstOk h
theorem run_impl_inRange {cs : List CV} {r : List CV × List CV} (h : Run G A impl_inRange.b (params 0 cs) [] (QF true [.V, .V, .V] [.tmp 6] r)) : A 54 cs = some r := A_run T_impl_inRange h
theorem run_impl_ProgOk {cs : List CV} {r : List CV × List CV} (h : Run G A impl_ProgOk.b (params 0 cs) [] (QF true [.V] [.tmp 2] r)) : A 55 cs = some r := A_run T_impl_ProgOk h
theorem run_impl_HeapOk {cs : List CV} {r : List CV × List CV} (h : Run G A impl_HeapOk.b (params 0 cs) [] (QF true [.V] [.tmp 2] r)) : A 113 cs = some r := A_run T_impl_HeapOk h
theorem run_impl_Sys_instOk {cs : List CV} {r : List CV × List CV} (h : Run G A impl_Sys_instOk.b (params 0 cs) [] (QF false [.M, .V] [.tmp 4] r)) : A 114 cs = some r := A_run T_impl_Sys_instOk h
theorem run_impl_Sys_isLambda {cs : List CV} {r : List CV × List CV} (h : Run G A impl_Sys_isLambda.b (params 0 cs) [] (QF false [.M, .V, .V] [.tmp 6] r)) : A 115 cs = some r := A_run T_impl_Sys_isLambda h
theorem run_laws_szValueS {cs : List CV} {r : List CV × List CV} (h : Run G A laws_szValueS.b (params 0 cs) [] (QF true [.V, .V] [.tmp 4] r)) : A 194 cs = some r := A_run T_laws_szValueS h
theorem run_laws_szTypeS {cs : List CV} {r : List CV × List CV} (h : Run G A laws_szTypeS.b (params 0 cs) [] (QF true [.V, .V] [.tmp 4] r)) : A 68 cs = some r := A_run T_laws_szTypeS h
theorem run_laws_szLinkS {cs : List CV} {r : List CV × List CV} (h : Run G A laws_szLinkS.b (params 0 cs) [] (QF true [.V, .V] [.tmp 4] r)) : A 195 cs = some r := A_run T_laws_szLinkS h
theorem run_laws_szProg {cs : List CV} {r : List CV × List CV} (h : Run G A laws_szProg.b (params 0 cs) [] (QF true [.V, .V] [.tmp 4] r)) : A 12 cs = some r := A_run T_laws_szProg h
theorem run_laws_toValueS {cs : List CV} {r : List CV × List CV} (h : Run G A laws_toValueS.b (params 0 cs) [] (QF true [.V] [.tmp 2] r)) : A 198 cs = some r := A_run T_laws_toValueS h
theorem run_laws_toTypeS {cs : List CV} {r : List CV × List CV} (h : Run G A laws_toTypeS.b (params 0 cs) [] (QF true [.V] [.tmp 2] r)) : A 79 cs = some r := A_run T_laws_toTypeS h
theorem run_laws_toLinkS {cs : List CV} {r : List CV × List CV} (h : Run G A laws_toLinkS.b (params 0 cs) [] (QF true [.V] [.tmp 2] r)) : A 199 cs = some r := A_run T_laws_toLinkS h
theorem run_laws_toProg {cs : List CV} {r : List CV × List CV} (h : Run G A laws_toProg.b (params 0 cs) [] (QF true [.V] [.cell 2 2 true] r)) : A 14 cs = some r := A_run T_laws_toProg h
theorem run_laws_eqValueS {cs : List CV} {r : List CV × List CV} (h : Run G A laws_eqValueS.b (params 0 cs) [] (QF true [.V, .V] [.tmp 4] r)) : A 201 cs = some r := A_run T_laws_eqValueS h
theorem run_laws_eqTypeS {cs : List CV} {r : List CV × List CV} (h : Run G A laws_eqTypeS.b (params 0 cs) [] (QF true [.V, .V] [.tmp 4] r)) : A 89 cs = some r := A_run T_laws_eqTypeS h
theorem run_laws_eqLinkS {cs : List CV} {r : List CV × List CV} (h : Run G A laws_eqLinkS.b (params 0 cs) [] (QF true [.V, .V] [.tmp 4] r)) : A 202 cs = some r := A_run T_laws_eqLinkS h
theorem run_laws_eqProg {cs : List CV} {r : List CV × List CV} (h : Run G A laws_eqProg.b (params 0 cs) [] (QF true [.V, .V] [.tmp 4] r)) : A 17 cs = some r := A_run T_laws_eqProg h
theorem run_spec_l3Node {cs : List CV} {r : List CV × List CV} (h : Run G A spec_l3Node.b (params 0 cs) [] (QF true [.V] [.tmp 2] r)) : A 122 cs = some r := A_run T_spec_l3Node h
theorem run_spec_l6CellOk {cs : List CV} {r : List CV × List CV} (h : Run G A spec_l6CellOk.b (params 0 cs) [] (QF true [.V, .V] [.tmp 4] r)) : A 161 cs = some r := A_run T_spec_l6CellOk h
theorem run_spec_IsName {cs : List CV} {r : List CV × List CV} (h : Run G A spec_IsName.b (params 0 cs) [] (QF true [.V] [.tmp 2] r)) : A 70 cs = some r := A_run T_spec_IsName h
theorem run_spec_l3In {cs : List CV} {r : List CV × List CV} (h : Run G A spec_l3In.b (params 0 cs) [] (QF true [.V, .V] [.tmp 4] r)) : A 91 cs = some r := A_run T_spec_l3In h
theorem run_spec_l3Names {cs : List CV} {r : List CV × List CV} (h : Run G A spec_l3Names.b (params 0 cs) [] (QF true [.V, .V] [.tmp 4] r)) : A 162 cs = some r := A_run T_spec_l3Names h
theorem run_spec_ValueOk {cs : List CV} {r : List CV × List CV} (h : Run G A spec_ValueOk.b (params 0 cs) [] (QF true [.V, .V] [.tmp 4] r)) : A 163 cs = some r := A_run T_spec_ValueOk h
theorem run_impl_nodeOk {cs : List CV} {r : List CV × List CV} (h : Run G A impl_nodeOk.b (params 0 cs) [] (QF true [.V] [.tmp 2] r)) : A 124 cs = some r := A_run T_impl_nodeOk h
theorem run_impl_cellOk {cs : List CV} {r : List CV × List CV} (h : Run G A impl_cellOk.b (params 0 cs) [] (QF true [.V] [.tmp 2] r)) : A 167 cs = some r := A_run T_impl_cellOk h
theorem run_impl_valuesOk {cs : List CV} {r : List CV × List CV} (h : Run G A impl_valuesOk.b (params 0 cs) [] (QF true [.V, .V] [.tmp 4] r)) : A 168 cs = some r := A_run T_impl_valuesOk h
theorem run_impl_areBelow {cs : List CV} {r : List CV × List CV} (h : Run G A impl_areBelow.b (params 0 cs) [] (QF true [.V, .V] [.tmp 4] r)) : A 169 cs = some r := A_run T_impl_areBelow h
theorem run_impl_IsName {cs : List CV} {r : List CV × List CV} (h : Run G A impl_IsName.b (params 0 cs) [] (QF true [.V] [.tmp 2] r)) : A 81 cs = some r := A_run T_impl_IsName h
theorem run_impl_typesOk {cs : List CV} {r : List CV × List CV} (h : Run G A impl_typesOk.b (params 0 cs) [] (QF true [.V] [.tmp 2] r)) : A 87 cs = some r := A_run T_impl_typesOk h
theorem run_impl_namesOk {cs : List CV} {r : List CV × List CV} (h : Run G A impl_namesOk.b (params 0 cs) [] (QF true [.V, .V] [.tmp 4] r)) : A 151 cs = some r := A_run T_impl_namesOk h
theorem run_impl_ValueOk {cs : List CV} {r : List CV × List CV} (h : Run G A impl_ValueOk.b (params 0 cs) [] (QF true [.V, .V] [.tmp 4] r)) : A 170 cs = some r := A_run T_impl_ValueOk h
theorem run_impl_Sys_linksOk {cs : List CV} {r : List CV × List CV} (h : Run G A impl_Sys_linksOk.b (params 0 cs) [] (QF false [.M, .V] [.tmp 4] r)) : A 171 cs = some r := A_run T_impl_Sys_linksOk h
theorem run_laws_szValue {cs : List CV} {r : List CV × List CV} (h : Run G A laws_szValue.b (params 0 cs) [] (QF true [.V, .V] [.tmp 4] r)) : A 212 cs = some r := A_run T_laws_szValue h
theorem run_laws_szType {cs : List CV} {r : List CV × List CV} (h : Run G A laws_szType.b (params 0 cs) [] (QF true [.V, .V] [.tmp 4] r)) : A 139 cs = some r := A_run T_laws_szType h
theorem run_laws_szLink {cs : List CV} {r : List CV × List CV} (h : Run G A laws_szLink.b (params 0 cs) [] (QF true [.V, .V] [.tmp 4] r)) : A 213 cs = some r := A_run T_laws_szLink h
theorem run_laws_szNodeS {cs : List CV} {r : List CV × List CV} (h : Run G A laws_szNodeS.b (params 0 cs) [] (QF true [.V, .V] [.tmp 4] r)) : A 50 cs = some r := A_run T_laws_szNodeS h
theorem run_laws_toValue {cs : List CV} {r : List CV × List CV} (h : Run G A laws_toValue.b (params 0 cs) [] (QF true [.V] [.cell 2 3 true] r)) : A 214 cs = some r := A_run T_laws_toValue h
theorem run_laws_toType {cs : List CV} {r : List CV × List CV} (h : Run G A laws_toType.b (params 0 cs) [] (QF true [.V] [.cell 2 2 true] r)) : A 145 cs = some r := A_run T_laws_toType h
theorem run_laws_toLink {cs : List CV} {r : List CV × List CV} (h : Run G A laws_toLink.b (params 0 cs) [] (QF true [.V] [.cell 2 3 true] r)) : A 215 cs = some r := A_run T_laws_toLink h
theorem run_laws_toNodeS {cs : List CV} {r : List CV × List CV} (h : Run G A laws_toNodeS.b (params 0 cs) [] (QF true [.V] [.tmp 2] r)) : A 53 cs = some r := A_run T_laws_toNodeS h
theorem run_laws_eqValue {cs : List CV} {r : List CV × List CV} (h : Run G A laws_eqValue.b (params 0 cs) [] (QF true [.V, .V] [.tmp 4] r)) : A 49 cs = some r := A_run T_laws_eqValue h
theorem run_laws_eqType {cs : List CV} {r : List CV × List CV} (h : Run G A laws_eqType.b (params 0 cs) [] (QF true [.V, .V] [.tmp 4] r)) : A 152 cs = some r := A_run T_laws_eqType h
theorem run_laws_eqLink {cs : List CV} {r : List CV × List CV} (h : Run G A laws_eqLink.b (params 0 cs) [] (QF true [.V, .V] [.tmp 4] r)) : A 216 cs = some r := A_run T_laws_eqLink h
theorem run_laws_eqNodeS {cs : List CV} {r : List CV × List CV} (h : Run G A laws_eqNodeS.b (params 0 cs) [] (QF true [.V, .V] [.tmp 4] r)) : A 57 cs = some r := A_run T_laws_eqNodeS h
theorem run_spec_l2Sym {cs : List CV} {r : List CV × List CV} (h : Run G A spec_l2Sym.b (params 0 cs) [] (QF true [.V] [.tmp 2] r)) : A 141 cs = some r := A_run T_spec_l2Sym h
theorem run_spec_l3Prim {cs : List CV} {r : List CV × List CV} (h : Run G A spec_l3Prim.b (params 0 cs) [] (QF true [.V] [.tmp 2] r)) : A 178 cs = some r := A_run T_spec_l3Prim h
theorem run_spec_l6Points {cs : List CV} {r : List CV × List CV} (h : Run G A spec_l6Points.b (params 0 cs) [] (QF true [.V] [.tmp 2] r)) : A 196 cs = some r := A_run T_spec_l6Points h
theorem run_spec_l3Word {cs : List CV} {r : List CV × List CV} (h : Run G A spec_l3Word.b (params 0 cs) [] (QF true [.V] [.tmp 2] r)) : A 142 cs = some r := A_run T_spec_l3Word h
theorem run_spec_Arity {cs : List CV} {r : List CV × List CV} (h : Run G A spec_Arity.b (params 0 cs) [] (QF true [.V] [.tmp 2] r)) : A 143 cs = some r := A_run T_spec_Arity h
theorem run_spec_l6Cell {cs : List CV} {r : List CV × List CV} (h : Run G A spec_l6Cell.b (params 0 cs) [] (QF true [.V, .V, .V] [.tmp 6] r)) : A 197 cs = some r := A_run T_spec_l6Cell h
theorem run_impl_symOk {cs : List CV} {r : List CV × List CV} (h : Run G A impl_symOk.b (params 0 cs) [] (QF true [.V] [.tmp 2] r)) : A 147 cs = some r := A_run T_impl_symOk h
theorem run_impl_primOk {cs : List CV} {r : List CV × List CV} (h : Run G A impl_primOk.b (params 0 cs) [] (QF true [.V] [.tmp 2] r)) : A 180 cs = some r := A_run T_impl_primOk h
theorem run_impl_allNames {cs : List CV} {r : List CV × List CV} (h : Run G A impl_allNames.b (params 0 cs) [] (QF true [.V] [.tmp 2] r)) : A 85 cs = some r := A_run T_impl_allNames h
theorem run_impl_cellKind {cs : List CV} {r : List CV × List CV} (h : Run G A impl_cellKind.b (params 0 cs) [] (QF true [.V] [.tmp 2] r)) : A 200 cs = some r := A_run T_impl_cellKind h
theorem run_impl_isOneOf {cs : List CV} {r : List CV × List CV} (h : Run G A impl_isOneOf.b (params 0 cs) [] (QF true [.V, .V] [.tmp 4] r)) : A 148 cs = some r := A_run T_impl_isOneOf h
theorem run_impl_Arity {cs : List CV} {r : List CV × List CV} (h : Run G A impl_Arity.b (params 0 cs) [] (QF true [.V] [.tmp 2] r)) : A 149 cs = some r := A_run T_impl_Arity h
theorem run_slices_Index_string_string {cs : List CV} {r : List CV × List CV} (h : Run G A slices_Index_string_string.b (params 0 cs) [] (QF true [.V, .V] [.tmp 4] r)) : A 157 cs = some r := A_run T_slices_Index_string_string h
theorem run_slices_Contains_string_string {cs : List CV} {r : List CV × List CV} (h : Run G A slices_Contains_string_string.b (params 0 cs) [] (QF true [.V, .V] [.tmp 4] r)) : A 134 cs = some r := A_run T_slices_Contains_string_string h
theorem run_laws_szNode {cs : List CV} {r : List CV × List CV} (h : Run G A laws_szNode.b (params 0 cs) [] (QF true [.V, .V] [.tmp 4] r)) : A 121 cs = some r := A_run T_laws_szNode h
theorem run_laws_toNode {cs : List CV} {r : List CV × List CV} (h : Run G A laws_toNode.b (params 0 cs) [] (QF true [.V] [.cell 2 5 true] r)) : A 123 cs = some r := A_run T_laws_toNode h
theorem run_laws_eqNode {cs : List CV} {r : List CV × List CV} (h : Run G A laws_eqNode.b (params 0 cs) [] (QF true [.V, .V] [.tmp 4] r)) : A 126 cs = some r := A_run T_laws_eqNode h
theorem run_spec_l2Digit {cs : List CV} {r : List CV × List CV} (h : Run G A spec_l2Digit.b (params 0 cs) [] (QF true [.V] [.tmp 2] r)) : A 188 cs = some r := A_run T_spec_l2Digit h
theorem run_spec_l2Sign {cs : List CV} {r : List CV × List CV} (h : Run G A spec_l2Sign.b (params 0 cs) [] (QF true [.V] [.tmp 2] r)) : A 189 cs = some r := A_run T_spec_l2Sign h
theorem run_spec_ReadDec {cs : List CV} {r : List CV × List CV} (h : Run G A spec_ReadDec.b (params 0 cs) [] (QF true [.V] [.tmp 2, .tmp 3] r)) : A 190 cs = some r := A_run T_spec_ReadDec h
theorem run_impl_isSymByte {cs : List CV} {r : List CV × List CV} (h : Run G A impl_isSymByte.b (params 0 cs) [] (QF true [.V] [.tmp 2] r)) : A 191 cs = some r := A_run T_impl_isSymByte h
theorem run_impl_isTyped {cs : List CV} {r : List CV × List CV} (h : Run G A impl_isTyped.b (params 0 cs) [] (QF true [.V] [.tmp 2] r)) : A 203 cs = some r := A_run T_impl_isTyped h
theorem run_laws_szIntS {cs : List CV} {r : List CV × List CV} (h : Run G A laws_szIntS.b (params 0 cs) [] (QF true [.V, .V] [.tmp 4] r)) : A 177 cs = some r := A_run T_laws_szIntS h
theorem run_laws_toIntS {cs : List CV} {r : List CV × List CV} (h : Run G A laws_toIntS.b (params 0 cs) [] (QF true [.V] [.tmp 2] r)) : A 179 cs = some r := A_run T_laws_toIntS h
theorem run_laws_eqIntS {cs : List CV} {r : List CV × List CV} (h : Run G A laws_eqIntS.b (params 0 cs) [] (QF true [.V, .V] [.tmp 4] r)) : A 181 cs = some r := A_run T_laws_eqIntS h
theorem run_spec_l2In {cs : List CV} {r : List CV × List CV} (h : Run G A spec_l2In.b (params 0 cs) [] (QF true [.V, .V] [.tmp 4] r)) : A 207 cs = some r := A_run T_spec_l2In h
theorem run_spec_Dec {cs : List CV} {r : List CV × List CV} (h : Run G A spec_Dec.b (params 0 cs) [] (QF true [.V] [.tmp 2] r)) : A 130 cs = some r := A_run T_spec_Dec h
theorem T_impl_ReadDec : T 192 = none := by kernel_rfl
@[simp] theorem G_192 : G 192 = some ⟨[.V], true⟩ := by kernel_rfl
theorem P_impl_ReadDec {cs : List CV} {r : List CV × List CV} (h : prim_impl_ReadDec.run cs = some r) : A 192 cs = some r := A_prim T_impl_ReadDec (by rw [← h]; rfl)
theorem T_strings_Contains : T 193 = none := by kernel_rfl
@[simp] theorem G_193 : G 193 = some ⟨[.V, .V], true⟩ := by kernel_rfl
theorem P_strings_Contains {cs : List CV} {r : List CV × List CV} (h : prim_strings_Contains.run cs = some r) : A 193 cs = some r := A_prim T_strings_Contains (by rw [← h]; rfl)
theorem T_strings_IndexByte : T 208 = none := by kernel_rfl
@[simp] theorem G_208 : G 208 = some ⟨[.V, .V], true⟩ := by kernel_rfl
theorem P_strings_IndexByte {cs : List CV} {r : List CV × List CV} (h : prim_strings_IndexByte.run cs = some r) : A 208 cs = some r := A_prim T_strings_IndexByte (by rw [← h]; rfl)
end Go.Proofs.YtjjfodoafefohaaGreatDoor.SZ
