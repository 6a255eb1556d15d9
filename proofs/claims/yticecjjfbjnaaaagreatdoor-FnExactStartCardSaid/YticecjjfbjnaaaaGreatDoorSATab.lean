/- The table of the functions. -/
import Derived.Test.YticecjjfbjnaaaaGreatDoorSAFn0
import Derived.Test.YticecjjfbjnaaaaGreatDoorSAFn1
import Derived.Test.YticecjjfbjnaaaaGreatDoorEngM7
import Derived.Test.YticecjjfbjnaaaaGreatDoorEngPContains
import Derived.Test.YticecjjfbjnaaaaGreatDoorEngPIndexByte
import Derived.Test.YticecjjfbjnaaaaGreatDoorEngPReadDec
namespace Go.Proofs.YticecjjfbjnaaaaGreatDoor.SA
open Go Go.VS
set_option maxRecDepth 100000
set_option linter.unusedVariables false
set_option linter.unusedSimpArgs false
noncomputable def tab : List (Entry Tryz.prog) := [⟨8, laws_FnExactStart, Tryz.f8, Tryz.func8, laws_FnExactStart.turned⟩,
  ⟨38, laws_szSys, Tryz.f38, Tryz.func38, laws_szSys.turned⟩,
  ⟨40, laws_toSys, Tryz.f40, Tryz.func40, laws_toSys.turned⟩,
  ⟨43, laws_eqSys, Tryz.f43, Tryz.func43, laws_eqSys.turned⟩,
  ⟨44, spec_Start, Tryz.f44, Tryz.func44, spec_Start.turned⟩,
  ⟨45, impl_Start, Tryz.f45, Tryz.func45, impl_Start.turned⟩,
  ⟨46, laws_eqMachine, Tryz.f46, Tryz.func46, laws_eqMachine.turned⟩,
  ⟨47, laws_markSys, Tryz.f47, Tryz.func47, laws_markSys.turned⟩,
  ⟨48, laws_markMachine, Tryz.f48, Tryz.func48, laws_markMachine.turned⟩,
  ⟨49, laws_heldMachine, Tryz.f49, Tryz.func49, laws_heldMachine.turned⟩,
  ⟨89, laws_szCellS, Tryz.f89, Tryz.func89, laws_szCellS.turned⟩,
  ⟨90, laws_szInstS, Tryz.f90, Tryz.func90, laws_szInstS.turned⟩,
  ⟨91, laws_szUnitS, Tryz.f91, Tryz.func91, laws_szUnitS.turned⟩,
  ⟨92, laws_szStringS, Tryz.f92, Tryz.func92, laws_szStringS.turned⟩,
  ⟨94, laws_toCellS, Tryz.f94, Tryz.func94, laws_toCellS.turned⟩,
  ⟨95, laws_toInstS, Tryz.f95, Tryz.func95, laws_toInstS.turned⟩,
  ⟨96, laws_toUnitS, Tryz.f96, Tryz.func96, laws_toUnitS.turned⟩,
  ⟨97, laws_toStringS, Tryz.f97, Tryz.func97, laws_toStringS.turned⟩,
  ⟨23, laws_eqStringS, Tryz.f23, Tryz.func23, laws_eqStringS.turned⟩,
  ⟨99, laws_eqCellS, Tryz.f99, Tryz.func99, laws_eqCellS.turned⟩,
  ⟨100, laws_eqInstS, Tryz.f100, Tryz.func100, laws_eqInstS.turned⟩,
  ⟨101, laws_eqUnitS, Tryz.f101, Tryz.func101, laws_eqUnitS.turned⟩,
  ⟨52, spec_SysOk, Tryz.f52, Tryz.func52, spec_SysOk.turned⟩,
  ⟨51, impl_SysOk, Tryz.f51, Tryz.func51, impl_SysOk.turned⟩,
  ⟨75, impl_inRange, Tryz.f75, Tryz.func75, impl_inRange.turned⟩,
  ⟨102, impl_Sys_start, Tryz.f102, Tryz.func102, impl_Sys_start.turned⟩,
  ⟨42, laws_eqValue, Tryz.f42, Tryz.func42, laws_eqValue.turned⟩,
  ⟨103, laws_eqBindS, Tryz.f103, Tryz.func103, laws_eqBindS.turned⟩,
  ⟨104, laws_eqFrameS, Tryz.f104, Tryz.func104, laws_eqFrameS.turned⟩,
  ⟨26, laws_markStringS, Tryz.f26, Tryz.func26, laws_markStringS.turned⟩,
  ⟨105, laws_markCellS, Tryz.f105, Tryz.func105, laws_markCellS.turned⟩,
  ⟨106, laws_markInstS, Tryz.f106, Tryz.func106, laws_markInstS.turned⟩,
  ⟨107, laws_markUnitS, Tryz.f107, Tryz.func107, laws_markUnitS.turned⟩,
  ⟨108, laws_markBindS, Tryz.f108, Tryz.func108, laws_markBindS.turned⟩,
  ⟨109, laws_markFrameS, Tryz.f109, Tryz.func109, laws_markFrameS.turned⟩,
  ⟨110, laws_heldBindS, Tryz.f110, Tryz.func110, laws_heldBindS.turned⟩,
  ⟨111, laws_heldFrameS, Tryz.f111, Tryz.func111, laws_heldFrameS.turned⟩,
  ⟨149, laws_szCell, Tryz.f149, Tryz.func149, laws_szCell.turned⟩,
  ⟨150, laws_szInst, Tryz.f150, Tryz.func150, laws_szInst.turned⟩,
  ⟨151, laws_szUnit, Tryz.f151, Tryz.func151, laws_szUnit.turned⟩,
  ⟨153, laws_toCell, Tryz.f153, Tryz.func153, laws_toCell.turned⟩,
  ⟨154, laws_toInst, Tryz.f154, Tryz.func154, laws_toInst.turned⟩,
  ⟨155, laws_toUnit, Tryz.f155, Tryz.func155, laws_toUnit.turned⟩,
  ⟨157, laws_eqCell, Tryz.f157, Tryz.func157, laws_eqCell.turned⟩,
  ⟨158, laws_eqInst, Tryz.f158, Tryz.func158, laws_eqInst.turned⟩,
  ⟨159, laws_eqUnit, Tryz.f159, Tryz.func159, laws_eqUnit.turned⟩,
  ⟨14, spec_HeapOk, Tryz.f14, Tryz.func14, spec_HeapOk.turned⟩,
  ⟨32, spec_ProgOk, Tryz.f32, Tryz.func32, spec_ProgOk.turned⟩,
  ⟨65, spec_l1In, Tryz.f65, Tryz.func65, spec_l1In.turned⟩,
  ⟨116, spec_l8InstOk, Tryz.f116, Tryz.func116, spec_l8InstOk.turned⟩,
  ⟨60, impl_HeapOk, Tryz.f60, Tryz.func60, impl_HeapOk.turned⟩,
  ⟨76, impl_ProgOk, Tryz.f76, Tryz.func76, impl_ProgOk.turned⟩,
  ⟨114, impl_Sys_instOk, Tryz.f114, Tryz.func114, impl_Sys_instOk.turned⟩,
  ⟨115, impl_Sys_isLambda, Tryz.f115, Tryz.func115, impl_Sys_isLambda.turned⟩,
  ⟨160, laws_eqBind, Tryz.f160, Tryz.func160, laws_eqBind.turned⟩,
  ⟨161, laws_eqFrame, Tryz.f161, Tryz.func161, laws_eqFrame.turned⟩,
  ⟨80, laws_markText, Tryz.f80, Tryz.func80, laws_markText.turned⟩,
  ⟨162, laws_markValueS, Tryz.f162, Tryz.func162, laws_markValueS.turned⟩,
  ⟨163, laws_markLinkS, Tryz.f163, Tryz.func163, laws_markLinkS.turned⟩,
  ⟨164, laws_markTypeS, Tryz.f164, Tryz.func164, laws_markTypeS.turned⟩,
  ⟨79, laws_markNodeS, Tryz.f79, Tryz.func79, laws_markNodeS.turned⟩,
  ⟨165, laws_heldValueS, Tryz.f165, Tryz.func165, laws_heldValueS.turned⟩,
  ⟨195, laws_szValueS, Tryz.f195, Tryz.func195, laws_szValueS.turned⟩,
  ⟨196, laws_szLinkS, Tryz.f196, Tryz.func196, laws_szLinkS.turned⟩,
  ⟨197, laws_szTypeS, Tryz.f197, Tryz.func197, laws_szTypeS.turned⟩,
  ⟨19, laws_szProg, Tryz.f19, Tryz.func19, laws_szProg.turned⟩,
  ⟨198, laws_toValueS, Tryz.f198, Tryz.func198, laws_toValueS.turned⟩,
  ⟨199, laws_toLinkS, Tryz.f199, Tryz.func199, laws_toLinkS.turned⟩,
  ⟨200, laws_toTypeS, Tryz.f200, Tryz.func200, laws_toTypeS.turned⟩,
  ⟨21, laws_toProg, Tryz.f21, Tryz.func21, laws_toProg.turned⟩,
  ⟨201, laws_eqValueS, Tryz.f201, Tryz.func201, laws_eqValueS.turned⟩,
  ⟨202, laws_eqLinkS, Tryz.f202, Tryz.func202, laws_eqLinkS.turned⟩,
  ⟨203, laws_eqTypeS, Tryz.f203, Tryz.func203, laws_eqTypeS.turned⟩,
  ⟨24, laws_eqProg, Tryz.f24, Tryz.func24, laws_eqProg.turned⟩,
  ⟨64, spec_l6CellOk, Tryz.f64, Tryz.func64, spec_l6CellOk.turned⟩,
  ⟨86, spec_l3Node, Tryz.f86, Tryz.func86, spec_l3Node.turned⟩,
  ⟨15, spec_ValueOk, Tryz.f15, Tryz.func15, spec_ValueOk.turned⟩,
  ⟨88, spec_l3In, Tryz.f88, Tryz.func88, spec_l3In.turned⟩,
  ⟨126, spec_IsName, Tryz.f126, Tryz.func126, spec_IsName.turned⟩,
  ⟨147, spec_l3Names, Tryz.f147, Tryz.func147, spec_l3Names.turned⟩,
  ⟨118, impl_cellOk, Tryz.f118, Tryz.func118, impl_cellOk.turned⟩,
  ⟨119, impl_valuesOk, Tryz.f119, Tryz.func119, impl_valuesOk.turned⟩,
  ⟨120, impl_areBelow, Tryz.f120, Tryz.func120, impl_areBelow.turned⟩,
  ⟨133, impl_nodeOk, Tryz.f133, Tryz.func133, impl_nodeOk.turned⟩,
  ⟨61, impl_ValueOk, Tryz.f61, Tryz.func61, impl_ValueOk.turned⟩,
  ⟨168, impl_IsName, Tryz.f168, Tryz.func168, impl_IsName.turned⟩,
  ⟨169, impl_namesOk, Tryz.f169, Tryz.func169, impl_namesOk.turned⟩,
  ⟨170, impl_Sys_linksOk, Tryz.f170, Tryz.func170, impl_Sys_linksOk.turned⟩,
  ⟨171, impl_typesOk, Tryz.f171, Tryz.func171, impl_typesOk.turned⟩,
  ⟨136, laws_markIntS, Tryz.f136, Tryz.func136, laws_markIntS.turned⟩,
  ⟨224, laws_szValue, Tryz.f224, Tryz.func224, laws_szValue.turned⟩,
  ⟨225, laws_szLink, Tryz.f225, Tryz.func225, laws_szLink.turned⟩,
  ⟨226, laws_szType, Tryz.f226, Tryz.func226, laws_szType.turned⟩,
  ⟨72, laws_szNodeS, Tryz.f72, Tryz.func72, laws_szNodeS.turned⟩,
  ⟨227, laws_toValue, Tryz.f227, Tryz.func227, laws_toValue.turned⟩,
  ⟨228, laws_toLink, Tryz.f228, Tryz.func228, laws_toLink.turned⟩,
  ⟨229, laws_toType, Tryz.f229, Tryz.func229, laws_toType.turned⟩,
  ⟨74, laws_toNodeS, Tryz.f74, Tryz.func74, laws_toNodeS.turned⟩,
  ⟨230, laws_eqLink, Tryz.f230, Tryz.func230, laws_eqLink.turned⟩,
  ⟨231, laws_eqType, Tryz.f231, Tryz.func231, laws_eqType.turned⟩,
  ⟨78, laws_eqNodeS, Tryz.f78, Tryz.func78, laws_eqNodeS.turned⟩,
  ⟨125, spec_l6Points, Tryz.f125, Tryz.func125, spec_l6Points.turned⟩,
  ⟨66, spec_l2Sym, Tryz.f66, Tryz.func66, spec_l2Sym.turned⟩,
  ⟨148, spec_l3Prim, Tryz.f148, Tryz.func148, spec_l3Prim.turned⟩,
  ⟨67, spec_l6Cell, Tryz.f67, Tryz.func67, spec_l6Cell.turned⟩,
  ⟨178, spec_l3Word, Tryz.f178, Tryz.func178, spec_l3Word.turned⟩,
  ⟨179, spec_Arity, Tryz.f179, Tryz.func179, spec_Arity.turned⟩,
  ⟨172, impl_allNames, Tryz.f172, Tryz.func172, impl_allNames.turned⟩,
  ⟨122, impl_cellKind, Tryz.f122, Tryz.func122, impl_cellKind.turned⟩,
  ⟨121, impl_symOk, Tryz.f121, Tryz.func121, impl_symOk.turned⟩,
  ⟨183, impl_primOk, Tryz.f183, Tryz.func183, impl_primOk.turned⟩,
  ⟨210, impl_isOneOf, Tryz.f210, Tryz.func210, impl_isOneOf.turned⟩,
  ⟨211, impl_Arity, Tryz.f211, Tryz.func211, impl_Arity.turned⟩,
  ⟨187, slices_Index_string_string, Tryz.f187, Tryz.func187, slices_Index_string_string.turned⟩,
  ⟨141, slices_Contains_string_string, Tryz.f141, Tryz.func141, slices_Contains_string_string.turned⟩,
  ⟨131, laws_szNode, Tryz.f131, Tryz.func131, laws_szNode.turned⟩,
  ⟨132, laws_toNode, Tryz.f132, Tryz.func132, laws_toNode.turned⟩,
  ⟨135, laws_eqNode, Tryz.f135, Tryz.func135, laws_eqNode.turned⟩,
  ⟨127, spec_l2Digit, Tryz.f127, Tryz.func127, spec_l2Digit.turned⟩,
  ⟨128, spec_l2Sign, Tryz.f128, Tryz.func128, spec_l2Sign.turned⟩,
  ⟨129, spec_ReadDec, Tryz.f129, Tryz.func129, spec_ReadDec.turned⟩,
  ⟨173, impl_isSymByte, Tryz.f173, Tryz.func173, impl_isSymByte.turned⟩,
  ⟨215, impl_isTyped, Tryz.f215, Tryz.func215, impl_isTyped.turned⟩,
  ⟨181, laws_szIntS, Tryz.f181, Tryz.func181, laws_szIntS.turned⟩,
  ⟨182, laws_toIntS, Tryz.f182, Tryz.func182, laws_toIntS.turned⟩,
  ⟨185, laws_eqIntS, Tryz.f185, Tryz.func185, laws_eqIntS.turned⟩,
  ⟨180, spec_l2In, Tryz.f180, Tryz.func180, spec_l2In.turned⟩,
  ⟨137, spec_Dec, Tryz.f137, Tryz.func137, spec_Dec.turned⟩]
noncomputable def ptab : List (PEntry Tryz.prog LaidX) := [prim_impl_ReadDec, prim_strings_Contains, prim_strings_IndexByte]
noncomputable def T : FuncId → Option VFn := tabT tab
noncomputable def G : Sigs := tabG tab ptab
noncomputable def A : Fns := lim G T (tabP ptab)
theorem A_run {f : FuncId} {vf : VFn} {cs : List CV} {r : List CV × List CV} (hT : T f = some vf) (h : Run G A vf.body (params 0 cs) [] (QF vf.sig.own vf.sig.modes vf.res r)) : A f cs = some r := lim_run hT h
theorem A_runE {f : FuncId} {vf : VFn} {cs : List CV} {X : List CV → List CV → Prop} (hT : T f = some vf) (h : Run G A vf.body (params 0 cs) [] (QE vf.sig.own vf.sig.modes vf.res X)) : ∃ rs os, A f cs = some (rs, os) ∧ X rs os := lim_runE hT h
theorem A_prim {f : FuncId} {cs : List CV} {r : List CV × List CV} (hT : T f = none) (h : tabP ptab f cs = some r) : A f cs = some r := lim_prim hT h
theorem A_answers {W : World} (hX : LaidX W) {f : FuncId} {g : Sig} {cs res outs : List CV} (hg : G f = some g) (h : A f cs = some (res, outs)) : Answers Tryz.prog W f cs res outs := lim_answers (tabT_ok tab ptab) (tabP_ok hX tab ptab) hg h
theorem ip {α : Sort _} {c : Prop} [Decidable c] {a b : α} : (c → (if c then a else b) = a) ∧ (¬ c → (if c then a else b) = b) := ⟨fun h => if_pos h, fun h => if_neg h⟩
theorem wr {n : Int} : (-9223372036854775808 ≤ n → n ≤ 9223372036854775807 → IntKind.i64.wrap n = n) ∧ (0 ≤ n → n ≤ 255 → IntKind.u8.wrap n = n) := ⟨wrap_i64, wrap_u8⟩
variable {cs : List CV} {r : List CV × List CV}
theorem T_laws_FnExactStart : T 8 = some laws_FnExactStart := by kernel_rfl
@[simp] theorem G_8 : G 8 = some ⟨[.V, .V], true⟩ := by kernel_rfl
theorem T_laws_szSys : T 38 = some laws_szSys := by kernel_rfl
@[simp] theorem G_38 : G 38 = some ⟨[.V, .V], true⟩ := by kernel_rfl
theorem T_laws_toSys : T 40 = some laws_toSys := by kernel_rfl
@[simp] theorem G_40 : G 40 = some ⟨[.V], true⟩ := by kernel_rfl
theorem T_laws_eqSys : T 43 = some laws_eqSys := by kernel_rfl
@[simp] theorem G_43 : G 43 = some ⟨[.V, .V], true⟩ := by kernel_rfl
theorem T_spec_Start : T 44 = some spec_Start := by kernel_rfl
@[simp] theorem G_44 : G 44 = some ⟨[.V, .V], true⟩ := by kernel_rfl
theorem T_impl_Start : T 45 = some impl_Start := by kernel_rfl
@[simp] theorem G_45 : G 45 = some ⟨[.V, .V], true⟩ := by kernel_rfl
theorem T_laws_eqMachine : T 46 = some laws_eqMachine := by kernel_rfl
@[simp] theorem G_46 : G 46 = some ⟨[.V, .V], true⟩ := by kernel_rfl
theorem T_laws_markSys : T 47 = some laws_markSys := by kernel_rfl
@[simp] theorem G_47 : G 47 = some ⟨[.M, .V], true⟩ := by kernel_rfl
theorem T_laws_markMachine : T 48 = some laws_markMachine := by kernel_rfl
@[simp] theorem G_48 : G 48 = some ⟨[.M, .V], true⟩ := by kernel_rfl
theorem T_laws_heldMachine : T 49 = some laws_heldMachine := by kernel_rfl
@[simp] theorem G_49 : G 49 = some ⟨[.V, .V], true⟩ := by kernel_rfl
theorem T_laws_szCellS : T 89 = some laws_szCellS := by kernel_rfl
@[simp] theorem G_89 : G 89 = some ⟨[.V, .V], true⟩ := by kernel_rfl
theorem T_laws_szInstS : T 90 = some laws_szInstS := by kernel_rfl
@[simp] theorem G_90 : G 90 = some ⟨[.V, .V], true⟩ := by kernel_rfl
theorem T_laws_szUnitS : T 91 = some laws_szUnitS := by kernel_rfl
@[simp] theorem G_91 : G 91 = some ⟨[.V, .V], true⟩ := by kernel_rfl
theorem T_laws_szStringS : T 92 = some laws_szStringS := by kernel_rfl
@[simp] theorem G_92 : G 92 = some ⟨[.V, .V], true⟩ := by kernel_rfl
theorem T_laws_toCellS : T 94 = some laws_toCellS := by kernel_rfl
@[simp] theorem G_94 : G 94 = some ⟨[.V], true⟩ := by kernel_rfl
theorem T_laws_toInstS : T 95 = some laws_toInstS := by kernel_rfl
@[simp] theorem G_95 : G 95 = some ⟨[.V], true⟩ := by kernel_rfl
theorem T_laws_toUnitS : T 96 = some laws_toUnitS := by kernel_rfl
@[simp] theorem G_96 : G 96 = some ⟨[.V], true⟩ := by kernel_rfl
theorem T_laws_toStringS : T 97 = some laws_toStringS := by kernel_rfl
@[simp] theorem G_97 : G 97 = some ⟨[.V], true⟩ := by kernel_rfl
theorem T_laws_eqStringS : T 23 = some laws_eqStringS := by kernel_rfl
@[simp] theorem G_23 : G 23 = some ⟨[.V, .V], true⟩ := by kernel_rfl
theorem T_laws_eqCellS : T 99 = some laws_eqCellS := by kernel_rfl
@[simp] theorem G_99 : G 99 = some ⟨[.V, .V], true⟩ := by kernel_rfl
theorem T_laws_eqInstS : T 100 = some laws_eqInstS := by kernel_rfl
@[simp] theorem G_100 : G 100 = some ⟨[.V, .V], true⟩ := by kernel_rfl
theorem T_laws_eqUnitS : T 101 = some laws_eqUnitS := by kernel_rfl
@[simp] theorem G_101 : G 101 = some ⟨[.V, .V], true⟩ := by kernel_rfl
theorem T_spec_SysOk : T 52 = some spec_SysOk := by kernel_rfl
@[simp] theorem G_52 : G 52 = some ⟨[.V], true⟩ := by kernel_rfl
theorem T_impl_SysOk : T 51 = some impl_SysOk := by kernel_rfl
@[simp] theorem G_51 : G 51 = some ⟨[.V], true⟩ := by kernel_rfl
theorem T_impl_inRange : T 75 = some impl_inRange := by kernel_rfl
@[simp] theorem G_75 : G 75 = some ⟨[.V, .V, .V], true⟩ := by kernel_rfl
theorem T_impl_Sys_start : T 102 = some impl_Sys_start := by kernel_rfl
@[simp] theorem G_102 : G 102 = some ⟨[.M, .V], false⟩ := by kernel_rfl
theorem T_laws_eqValue : T 42 = some laws_eqValue := by kernel_rfl
@[simp] theorem G_42 : G 42 = some ⟨[.V, .V], true⟩ := by kernel_rfl
theorem T_laws_eqBindS : T 103 = some laws_eqBindS := by kernel_rfl
@[simp] theorem G_103 : G 103 = some ⟨[.V, .V], true⟩ := by kernel_rfl
theorem T_laws_eqFrameS : T 104 = some laws_eqFrameS := by kernel_rfl
@[simp] theorem G_104 : G 104 = some ⟨[.V, .V], true⟩ := by kernel_rfl
theorem T_laws_markStringS : T 26 = some laws_markStringS := by kernel_rfl
@[simp] theorem G_26 : G 26 = some ⟨[.M, .V], true⟩ := by kernel_rfl
theorem T_laws_markCellS : T 105 = some laws_markCellS := by kernel_rfl
@[simp] theorem G_105 : G 105 = some ⟨[.M, .V], true⟩ := by kernel_rfl
theorem T_laws_markInstS : T 106 = some laws_markInstS := by kernel_rfl
@[simp] theorem G_106 : G 106 = some ⟨[.M, .V], true⟩ := by kernel_rfl
theorem T_laws_markUnitS : T 107 = some laws_markUnitS := by kernel_rfl
@[simp] theorem G_107 : G 107 = some ⟨[.M, .V], true⟩ := by kernel_rfl
theorem T_laws_markBindS : T 108 = some laws_markBindS := by kernel_rfl
@[simp] theorem G_108 : G 108 = some ⟨[.M, .V], true⟩ := by kernel_rfl
theorem T_laws_markFrameS : T 109 = some laws_markFrameS := by kernel_rfl
@[simp] theorem G_109 : G 109 = some ⟨[.M, .V], true⟩ := by kernel_rfl
theorem T_laws_heldBindS : T 110 = some laws_heldBindS := by kernel_rfl
@[simp] theorem G_110 : G 110 = some ⟨[.V, .V], true⟩ := by kernel_rfl
theorem T_laws_heldFrameS : T 111 = some laws_heldFrameS := by kernel_rfl
@[simp] theorem G_111 : G 111 = some ⟨[.V, .V], true⟩ := by kernel_rfl
theorem T_laws_szCell : T 149 = some laws_szCell := by kernel_rfl
@[simp] theorem G_149 : G 149 = some ⟨[.V, .V], true⟩ := by kernel_rfl
theorem T_laws_szInst : T 150 = some laws_szInst := by kernel_rfl
@[simp] theorem G_150 : G 150 = some ⟨[.V, .V], true⟩ := by kernel_rfl
theorem T_laws_szUnit : T 151 = some laws_szUnit := by kernel_rfl
@[simp] theorem G_151 : G 151 = some ⟨[.V, .V], true⟩ := by kernel_rfl
theorem T_laws_toCell : T 153 = some laws_toCell := by kernel_rfl
@[simp] theorem G_153 : G 153 = some ⟨[.V], true⟩ := by kernel_rfl
theorem T_laws_toInst : T 154 = some laws_toInst := by kernel_rfl
@[simp] theorem G_154 : G 154 = some ⟨[.V], true⟩ := by kernel_rfl
theorem T_laws_toUnit : T 155 = some laws_toUnit := by kernel_rfl
@[simp] theorem G_155 : G 155 = some ⟨[.V], true⟩ := by kernel_rfl
theorem T_laws_eqCell : T 157 = some laws_eqCell := by kernel_rfl
@[simp] theorem G_157 : G 157 = some ⟨[.V, .V], true⟩ := by kernel_rfl
theorem T_laws_eqInst : T 158 = some laws_eqInst := by kernel_rfl
@[simp] theorem G_158 : G 158 = some ⟨[.V, .V], true⟩ := by kernel_rfl
theorem T_laws_eqUnit : T 159 = some laws_eqUnit := by kernel_rfl
@[simp] theorem G_159 : G 159 = some ⟨[.V, .V], true⟩ := by kernel_rfl
theorem T_spec_HeapOk : T 14 = some spec_HeapOk := by kernel_rfl
@[simp] theorem G_14 : G 14 = some ⟨[.V], true⟩ := by kernel_rfl
theorem T_spec_ProgOk : T 32 = some spec_ProgOk := by kernel_rfl
@[simp] theorem G_32 : G 32 = some ⟨[.V], true⟩ := by kernel_rfl
theorem T_spec_l1In : T 65 = some spec_l1In := by kernel_rfl
@[simp] theorem G_65 : G 65 = some ⟨[.V, .V, .V], true⟩ := by kernel_rfl
theorem T_spec_l8InstOk : T 116 = some spec_l8InstOk := by kernel_rfl
@[simp] theorem G_116 : G 116 = some ⟨[.V, .V], true⟩ := by kernel_rfl
theorem T_impl_HeapOk : T 60 = some impl_HeapOk := by kernel_rfl
@[simp] theorem G_60 : G 60 = some ⟨[.V], true⟩ := by kernel_rfl
theorem T_impl_ProgOk : T 76 = some impl_ProgOk := by kernel_rfl
@[simp] theorem G_76 : G 76 = some ⟨[.V], true⟩ := by kernel_rfl
theorem T_impl_Sys_instOk : T 114 = some impl_Sys_instOk := by kernel_rfl
@[simp] theorem G_114 : G 114 = some ⟨[.M, .V], false⟩ := by kernel_rfl
theorem T_impl_Sys_isLambda : T 115 = some impl_Sys_isLambda := by kernel_rfl
@[simp] theorem G_115 : G 115 = some ⟨[.M, .V, .V], false⟩ := by kernel_rfl
theorem T_laws_eqBind : T 160 = some laws_eqBind := by kernel_rfl
@[simp] theorem G_160 : G 160 = some ⟨[.V, .V], true⟩ := by kernel_rfl
theorem T_laws_eqFrame : T 161 = some laws_eqFrame := by kernel_rfl
@[simp] theorem G_161 : G 161 = some ⟨[.V, .V], true⟩ := by kernel_rfl
theorem T_laws_markText : T 80 = some laws_markText := by kernel_rfl
@[simp] theorem G_80 : G 80 = some ⟨[.V], true⟩ := by kernel_rfl
theorem T_laws_markValueS : T 162 = some laws_markValueS := by kernel_rfl
@[simp] theorem G_162 : G 162 = some ⟨[.M, .V], true⟩ := by kernel_rfl
theorem T_laws_markLinkS : T 163 = some laws_markLinkS := by kernel_rfl
@[simp] theorem G_163 : G 163 = some ⟨[.M, .V], true⟩ := by kernel_rfl
theorem T_laws_markTypeS : T 164 = some laws_markTypeS := by kernel_rfl
@[simp] theorem G_164 : G 164 = some ⟨[.M, .V], true⟩ := by kernel_rfl
theorem T_laws_markNodeS : T 79 = some laws_markNodeS := by kernel_rfl
@[simp] theorem G_79 : G 79 = some ⟨[.M, .V], true⟩ := by kernel_rfl
theorem T_laws_heldValueS : T 165 = some laws_heldValueS := by kernel_rfl
@[simp] theorem G_165 : G 165 = some ⟨[.V, .V], true⟩ := by kernel_rfl
theorem T_laws_szValueS : T 195 = some laws_szValueS := by kernel_rfl
@[simp] theorem G_195 : G 195 = some ⟨[.V, .V], true⟩ := by kernel_rfl
theorem T_laws_szLinkS : T 196 = some laws_szLinkS := by kernel_rfl
@[simp] theorem G_196 : G 196 = some ⟨[.V, .V], true⟩ := by kernel_rfl
theorem T_laws_szTypeS : T 197 = some laws_szTypeS := by kernel_rfl
@[simp] theorem G_197 : G 197 = some ⟨[.V, .V], true⟩ := by kernel_rfl
theorem T_laws_szProg : T 19 = some laws_szProg := by kernel_rfl
@[simp] theorem G_19 : G 19 = some ⟨[.V, .V], true⟩ := by kernel_rfl
theorem T_laws_toValueS : T 198 = some laws_toValueS := by kernel_rfl
@[simp] theorem G_198 : G 198 = some ⟨[.V], true⟩ := by kernel_rfl
theorem T_laws_toLinkS : T 199 = some laws_toLinkS := by kernel_rfl
@[simp] theorem G_199 : G 199 = some ⟨[.V], true⟩ := by kernel_rfl
theorem T_laws_toTypeS : T 200 = some laws_toTypeS := by kernel_rfl
@[simp] theorem G_200 : G 200 = some ⟨[.V], true⟩ := by kernel_rfl
theorem T_laws_toProg : T 21 = some laws_toProg := by kernel_rfl
@[simp] theorem G_21 : G 21 = some ⟨[.V], true⟩ := by kernel_rfl
theorem T_laws_eqValueS : T 201 = some laws_eqValueS := by kernel_rfl
@[simp] theorem G_201 : G 201 = some ⟨[.V, .V], true⟩ := by kernel_rfl
theorem T_laws_eqLinkS : T 202 = some laws_eqLinkS := by kernel_rfl
@[simp] theorem G_202 : G 202 = some ⟨[.V, .V], true⟩ := by kernel_rfl
theorem T_laws_eqTypeS : T 203 = some laws_eqTypeS := by kernel_rfl
@[simp] theorem G_203 : G 203 = some ⟨[.V, .V], true⟩ := by kernel_rfl
theorem T_laws_eqProg : T 24 = some laws_eqProg := by kernel_rfl
@[simp] theorem G_24 : G 24 = some ⟨[.V, .V], true⟩ := by kernel_rfl
theorem T_spec_l6CellOk : T 64 = some spec_l6CellOk := by kernel_rfl
@[simp] theorem G_64 : G 64 = some ⟨[.V, .V], true⟩ := by kernel_rfl
theorem T_spec_l3Node : T 86 = some spec_l3Node := by kernel_rfl
@[simp] theorem G_86 : G 86 = some ⟨[.V], true⟩ := by kernel_rfl
theorem T_spec_ValueOk : T 15 = some spec_ValueOk := by kernel_rfl
@[simp] theorem G_15 : G 15 = some ⟨[.V, .V], true⟩ := by kernel_rfl
theorem T_spec_l3In : T 88 = some spec_l3In := by kernel_rfl
@[simp] theorem G_88 : G 88 = some ⟨[.V, .V], true⟩ := by kernel_rfl
theorem T_spec_IsName : T 126 = some spec_IsName := by kernel_rfl
@[simp] theorem G_126 : G 126 = some ⟨[.V], true⟩ := by kernel_rfl
theorem T_spec_l3Names : T 147 = some spec_l3Names := by kernel_rfl
@[simp] theorem G_147 : G 147 = some ⟨[.V, .V], true⟩ := by kernel_rfl
theorem T_impl_cellOk : T 118 = some impl_cellOk := by kernel_rfl
@[simp] theorem G_118 : G 118 = some ⟨[.V], true⟩ := by kernel_rfl
theorem T_impl_valuesOk : T 119 = some impl_valuesOk := by kernel_rfl
@[simp] theorem G_119 : G 119 = some ⟨[.V, .V], true⟩ := by kernel_rfl
theorem T_impl_areBelow : T 120 = some impl_areBelow := by kernel_rfl
@[simp] theorem G_120 : G 120 = some ⟨[.V, .V], true⟩ := by kernel_rfl
theorem T_impl_nodeOk : T 133 = some impl_nodeOk := by kernel_rfl
@[simp] theorem G_133 : G 133 = some ⟨[.V], true⟩ := by kernel_rfl
theorem T_impl_ValueOk : T 61 = some impl_ValueOk := by kernel_rfl
@[simp] theorem G_61 : G 61 = some ⟨[.V, .V], true⟩ := by kernel_rfl
theorem T_impl_IsName : T 168 = some impl_IsName := by kernel_rfl
@[simp] theorem G_168 : G 168 = some ⟨[.V], true⟩ := by kernel_rfl
theorem T_impl_namesOk : T 169 = some impl_namesOk := by kernel_rfl
@[simp] theorem G_169 : G 169 = some ⟨[.V, .V], true⟩ := by kernel_rfl
theorem T_impl_Sys_linksOk : T 170 = some impl_Sys_linksOk := by kernel_rfl
@[simp] theorem G_170 : G 170 = some ⟨[.M, .V], false⟩ := by kernel_rfl
theorem T_impl_typesOk : T 171 = some impl_typesOk := by kernel_rfl
@[simp] theorem G_171 : G 171 = some ⟨[.V], true⟩ := by kernel_rfl
theorem T_laws_markIntS : T 136 = some laws_markIntS := by kernel_rfl
@[simp] theorem G_136 : G 136 = some ⟨[.M, .V], true⟩ := by kernel_rfl
theorem T_laws_szValue : T 224 = some laws_szValue := by kernel_rfl
@[simp] theorem G_224 : G 224 = some ⟨[.V, .V], true⟩ := by kernel_rfl
theorem T_laws_szLink : T 225 = some laws_szLink := by kernel_rfl
@[simp] theorem G_225 : G 225 = some ⟨[.V, .V], true⟩ := by kernel_rfl
theorem T_laws_szType : T 226 = some laws_szType := by kernel_rfl
@[simp] theorem G_226 : G 226 = some ⟨[.V, .V], true⟩ := by kernel_rfl
theorem T_laws_szNodeS : T 72 = some laws_szNodeS := by kernel_rfl
@[simp] theorem G_72 : G 72 = some ⟨[.V, .V], true⟩ := by kernel_rfl
theorem T_laws_toValue : T 227 = some laws_toValue := by kernel_rfl
@[simp] theorem G_227 : G 227 = some ⟨[.V], true⟩ := by kernel_rfl
theorem T_laws_toLink : T 228 = some laws_toLink := by kernel_rfl
@[simp] theorem G_228 : G 228 = some ⟨[.V], true⟩ := by kernel_rfl
theorem T_laws_toType : T 229 = some laws_toType := by kernel_rfl
@[simp] theorem G_229 : G 229 = some ⟨[.V], true⟩ := by kernel_rfl
theorem T_laws_toNodeS : T 74 = some laws_toNodeS := by kernel_rfl
@[simp] theorem G_74 : G 74 = some ⟨[.V], true⟩ := by kernel_rfl
theorem T_laws_eqLink : T 230 = some laws_eqLink := by kernel_rfl
@[simp] theorem G_230 : G 230 = some ⟨[.V, .V], true⟩ := by kernel_rfl
theorem T_laws_eqType : T 231 = some laws_eqType := by kernel_rfl
@[simp] theorem G_231 : G 231 = some ⟨[.V, .V], true⟩ := by kernel_rfl
theorem T_laws_eqNodeS : T 78 = some laws_eqNodeS := by kernel_rfl
@[simp] theorem G_78 : G 78 = some ⟨[.V, .V], true⟩ := by kernel_rfl
theorem T_spec_l6Points : T 125 = some spec_l6Points := by kernel_rfl
@[simp] theorem G_125 : G 125 = some ⟨[.V], true⟩ := by kernel_rfl
theorem T_spec_l2Sym : T 66 = some spec_l2Sym := by kernel_rfl
@[simp] theorem G_66 : G 66 = some ⟨[.V], true⟩ := by kernel_rfl
theorem T_spec_l3Prim : T 148 = some spec_l3Prim := by kernel_rfl
@[simp] theorem G_148 : G 148 = some ⟨[.V], true⟩ := by kernel_rfl
theorem T_spec_l6Cell : T 67 = some spec_l6Cell := by kernel_rfl
@[simp] theorem G_67 : G 67 = some ⟨[.V, .V, .V], true⟩ := by kernel_rfl
theorem T_spec_l3Word : T 178 = some spec_l3Word := by kernel_rfl
@[simp] theorem G_178 : G 178 = some ⟨[.V], true⟩ := by kernel_rfl
theorem T_spec_Arity : T 179 = some spec_Arity := by kernel_rfl
@[simp] theorem G_179 : G 179 = some ⟨[.V], true⟩ := by kernel_rfl
theorem T_impl_allNames : T 172 = some impl_allNames := by kernel_rfl
@[simp] theorem G_172 : G 172 = some ⟨[.V], true⟩ := by kernel_rfl
theorem T_impl_cellKind : T 122 = some impl_cellKind := by kernel_rfl
@[simp] theorem G_122 : G 122 = some ⟨[.V], true⟩ := by kernel_rfl
theorem T_impl_symOk : T 121 = some impl_symOk := by kernel_rfl
@[simp] theorem G_121 : G 121 = some ⟨[.V], true⟩ := by kernel_rfl
theorem T_impl_primOk : T 183 = some impl_primOk := by kernel_rfl
@[simp] theorem G_183 : G 183 = some ⟨[.V], true⟩ := by kernel_rfl
theorem T_impl_isOneOf : T 210 = some impl_isOneOf := by kernel_rfl
@[simp] theorem G_210 : G 210 = some ⟨[.V, .V], true⟩ := by kernel_rfl
theorem T_impl_Arity : T 211 = some impl_Arity := by kernel_rfl
@[simp] theorem G_211 : G 211 = some ⟨[.V], true⟩ := by kernel_rfl
theorem T_slices_Index_string_string : T 187 = some slices_Index_string_string := by kernel_rfl
@[simp] theorem G_187 : G 187 = some ⟨[.V, .V], true⟩ := by kernel_rfl
theorem T_slices_Contains_string_string : T 141 = some slices_Contains_string_string := by kernel_rfl
@[simp] theorem G_141 : G 141 = some ⟨[.V, .V], true⟩ := by kernel_rfl
theorem T_laws_szNode : T 131 = some laws_szNode := by kernel_rfl
@[simp] theorem G_131 : G 131 = some ⟨[.V, .V], true⟩ := by kernel_rfl
theorem T_laws_toNode : T 132 = some laws_toNode := by kernel_rfl
@[simp] theorem G_132 : G 132 = some ⟨[.V], true⟩ := by kernel_rfl
theorem T_laws_eqNode : T 135 = some laws_eqNode := by kernel_rfl
@[simp] theorem G_135 : G 135 = some ⟨[.V, .V], true⟩ := by kernel_rfl
theorem T_spec_l2Digit : T 127 = some spec_l2Digit := by kernel_rfl
@[simp] theorem G_127 : G 127 = some ⟨[.V], true⟩ := by kernel_rfl
theorem T_spec_l2Sign : T 128 = some spec_l2Sign := by kernel_rfl
@[simp] theorem G_128 : G 128 = some ⟨[.V], true⟩ := by kernel_rfl
theorem T_spec_ReadDec : T 129 = some spec_ReadDec := by kernel_rfl
@[simp] theorem G_129 : G 129 = some ⟨[.V], true⟩ := by kernel_rfl
theorem T_impl_isSymByte : T 173 = some impl_isSymByte := by kernel_rfl
@[simp] theorem G_173 : G 173 = some ⟨[.V], true⟩ := by kernel_rfl
theorem T_impl_isTyped : T 215 = some impl_isTyped := by kernel_rfl
@[simp] theorem G_215 : G 215 = some ⟨[.V], true⟩ := by kernel_rfl
theorem T_laws_szIntS : T 181 = some laws_szIntS := by kernel_rfl
@[simp] theorem G_181 : G 181 = some ⟨[.V, .V], true⟩ := by kernel_rfl
theorem T_laws_toIntS : T 182 = some laws_toIntS := by kernel_rfl
@[simp] theorem G_182 : G 182 = some ⟨[.V], true⟩ := by kernel_rfl
theorem T_laws_eqIntS : T 185 = some laws_eqIntS := by kernel_rfl
@[simp] theorem G_185 : G 185 = some ⟨[.V, .V], true⟩ := by kernel_rfl
theorem T_spec_l2In : T 180 = some spec_l2In := by kernel_rfl
@[simp] theorem G_180 : G 180 = some ⟨[.V, .V], true⟩ := by kernel_rfl
theorem T_spec_Dec : T 137 = some spec_Dec := by kernel_rfl
@[simp] theorem G_137 : G 137 = some ⟨[.V], true⟩ := by kernel_rfl
theorem run_laws_FnExactStart (h : Run G A laws_FnExactStart.b (params 0 cs) [] (QF true [.V, .V] [.tmp 4] r)) : A 8 cs = some r := A_run T_laws_FnExactStart h
theorem run_laws_szSys (h : Run G A laws_szSys.b (params 0 cs) [] (QF true [.V, .V] [.tmp 4] r)) : A 38 cs = some r := A_run T_laws_szSys h
theorem run_laws_toSys (h : Run G A laws_toSys.b (params 0 cs) [] (QF true [.V] [.cell 2 4 true] r)) : A 40 cs = some r := A_run T_laws_toSys h
theorem run_laws_eqSys (h : Run G A laws_eqSys.b (params 0 cs) [] (QF true [.V, .V] [.tmp 4] r)) : A 43 cs = some r := A_run T_laws_eqSys h
theorem run_spec_Start (h : Run G A spec_Start.b (params 0 cs) [] (QF true [.V, .V] [.cell 4 9 true, .tmp 5] r)) : A 44 cs = some r := A_run T_spec_Start h
theorem run_impl_Start (h : Run G A impl_Start.b (params 0 cs) [] (QF true [.V, .V] [.cell 4 9 true, .tmp 5] r)) : A 45 cs = some r := A_run T_impl_Start h
theorem run_laws_eqMachine (h : Run G A laws_eqMachine.b (params 0 cs) [] (QF true [.V, .V] [.tmp 4] r)) : A 46 cs = some r := A_run T_laws_eqMachine h
theorem run_laws_markSys (h : Run G A laws_markSys.b (params 0 cs) [] (QF true [.M, .V] [.tmp 4] r)) : A 47 cs = some r := A_run T_laws_markSys h
theorem run_laws_markMachine (h : Run G A laws_markMachine.b (params 0 cs) [] (QF true [.M, .V] [.tmp 4] r)) : A 48 cs = some r := A_run T_laws_markMachine h
theorem run_laws_heldMachine (h : Run G A laws_heldMachine.b (params 0 cs) [] (QF true [.V, .V] [.tmp 4] r)) : A 49 cs = some r := A_run T_laws_heldMachine h
theorem run_laws_szCellS (h : Run G A laws_szCellS.b (params 0 cs) [] (QF true [.V, .V] [.tmp 4] r)) : A 89 cs = some r := A_run T_laws_szCellS h
theorem run_laws_szInstS (h : Run G A laws_szInstS.b (params 0 cs) [] (QF true [.V, .V] [.tmp 4] r)) : A 90 cs = some r := A_run T_laws_szInstS h
theorem run_laws_szUnitS (h : Run G A laws_szUnitS.b (params 0 cs) [] (QF true [.V, .V] [.tmp 4] r)) : A 91 cs = some r := A_run T_laws_szUnitS h
theorem run_laws_szStringS (h : Run G A laws_szStringS.b (params 0 cs) [] (QF true [.V, .V] [.tmp 4] r)) : A 92 cs = some r := A_run T_laws_szStringS h
theorem run_laws_toCellS (h : Run G A laws_toCellS.b (params 0 cs) [] (QF true [.V] [.tmp 2] r)) : A 94 cs = some r := A_run T_laws_toCellS h
theorem run_laws_toInstS (h : Run G A laws_toInstS.b (params 0 cs) [] (QF true [.V] [.tmp 2] r)) : A 95 cs = some r := A_run T_laws_toInstS h
theorem run_laws_toUnitS (h : Run G A laws_toUnitS.b (params 0 cs) [] (QF true [.V] [.tmp 2] r)) : A 96 cs = some r := A_run T_laws_toUnitS h
theorem run_laws_toStringS (h : Run G A laws_toStringS.b (params 0 cs) [] (QF true [.V] [.tmp 2] r)) : A 97 cs = some r := A_run T_laws_toStringS h
theorem run_laws_eqStringS (h : Run G A laws_eqStringS.b (params 0 cs) [] (QF true [.V, .V] [.tmp 4] r)) : A 23 cs = some r := A_run T_laws_eqStringS h
theorem run_laws_eqCellS (h : Run G A laws_eqCellS.b (params 0 cs) [] (QF true [.V, .V] [.tmp 4] r)) : A 99 cs = some r := A_run T_laws_eqCellS h
theorem run_laws_eqInstS (h : Run G A laws_eqInstS.b (params 0 cs) [] (QF true [.V, .V] [.tmp 4] r)) : A 100 cs = some r := A_run T_laws_eqInstS h
theorem run_laws_eqUnitS (h : Run G A laws_eqUnitS.b (params 0 cs) [] (QF true [.V, .V] [.tmp 4] r)) : A 101 cs = some r := A_run T_laws_eqUnitS h
theorem run_spec_SysOk (h : Run G A spec_SysOk.b (params 0 cs) [] (QF true [.V] [.tmp 2] r)) : A 52 cs = some r := A_run T_spec_SysOk h
theorem run_impl_SysOk (h : Run G A impl_SysOk.b (params 0 cs) [] (QF true [.V] [.tmp 2] r)) : A 51 cs = some r := A_run T_impl_SysOk h
theorem run_impl_inRange (h : Run G A impl_inRange.b (params 0 cs) [] (QF true [.V, .V, .V] [.tmp 6] r)) : A 75 cs = some r := A_run T_impl_inRange h
theorem run_impl_Sys_start (h : Run G A impl_Sys_start.b (params 0 cs) [] (QF false [.M, .V] [.cell 4 9 true] r)) : A 102 cs = some r := A_run T_impl_Sys_start h
theorem run_laws_eqValue (h : Run G A laws_eqValue.b (params 0 cs) [] (QF true [.V, .V] [.tmp 4] r)) : A 42 cs = some r := A_run T_laws_eqValue h
theorem run_laws_eqBindS (h : Run G A laws_eqBindS.b (params 0 cs) [] (QF true [.V, .V] [.tmp 4] r)) : A 103 cs = some r := A_run T_laws_eqBindS h
theorem run_laws_eqFrameS (h : Run G A laws_eqFrameS.b (params 0 cs) [] (QF true [.V, .V] [.tmp 4] r)) : A 104 cs = some r := A_run T_laws_eqFrameS h
theorem run_laws_markStringS (h : Run G A laws_markStringS.b (params 0 cs) [] (QF true [.M, .V] [.tmp 4] r)) : A 26 cs = some r := A_run T_laws_markStringS h
theorem run_laws_markCellS (h : Run G A laws_markCellS.b (params 0 cs) [] (QF true [.M, .V] [.tmp 4] r)) : A 105 cs = some r := A_run T_laws_markCellS h
theorem run_laws_markInstS (h : Run G A laws_markInstS.b (params 0 cs) [] (QF true [.M, .V] [.tmp 4] r)) : A 106 cs = some r := A_run T_laws_markInstS h
theorem run_laws_markUnitS (h : Run G A laws_markUnitS.b (params 0 cs) [] (QF true [.M, .V] [.tmp 4] r)) : A 107 cs = some r := A_run T_laws_markUnitS h
theorem run_laws_markBindS (h : Run G A laws_markBindS.b (params 0 cs) [] (QF true [.M, .V] [.tmp 4] r)) : A 108 cs = some r := A_run T_laws_markBindS h
theorem run_laws_markFrameS (h : Run G A laws_markFrameS.b (params 0 cs) [] (QF true [.M, .V] [.tmp 4] r)) : A 109 cs = some r := A_run T_laws_markFrameS h
theorem run_laws_heldBindS (h : Run G A laws_heldBindS.b (params 0 cs) [] (QF true [.V, .V] [.tmp 4] r)) : A 110 cs = some r := A_run T_laws_heldBindS h
theorem run_laws_heldFrameS (h : Run G A laws_heldFrameS.b (params 0 cs) [] (QF true [.V, .V] [.tmp 4] r)) : A 111 cs = some r := A_run T_laws_heldFrameS h
theorem run_laws_szCell (h : Run G A laws_szCell.b (params 0 cs) [] (QF true [.V, .V] [.tmp 4] r)) : A 149 cs = some r := A_run T_laws_szCell h
theorem run_laws_szInst (h : Run G A laws_szInst.b (params 0 cs) [] (QF true [.V, .V] [.tmp 4] r)) : A 150 cs = some r := A_run T_laws_szInst h
theorem run_laws_szUnit (h : Run G A laws_szUnit.b (params 0 cs) [] (QF true [.V, .V] [.tmp 4] r)) : A 151 cs = some r := A_run T_laws_szUnit h
theorem run_laws_toCell (h : Run G A laws_toCell.b (params 0 cs) [] (QF true [.V] [.cell 2 6 true] r)) : A 153 cs = some r := A_run T_laws_toCell h
theorem run_laws_toInst (h : Run G A laws_toInst.b (params 0 cs) [] (QF true [.V] [.cell 2 6 true] r)) : A 154 cs = some r := A_run T_laws_toInst h
theorem run_laws_toUnit (h : Run G A laws_toUnit.b (params 0 cs) [] (QF true [.V] [.cell 2 3 true] r)) : A 155 cs = some r := A_run T_laws_toUnit h
theorem run_laws_eqCell (h : Run G A laws_eqCell.b (params 0 cs) [] (QF true [.V, .V] [.tmp 4] r)) : A 157 cs = some r := A_run T_laws_eqCell h
theorem run_laws_eqInst (h : Run G A laws_eqInst.b (params 0 cs) [] (QF true [.V, .V] [.tmp 4] r)) : A 158 cs = some r := A_run T_laws_eqInst h
theorem run_laws_eqUnit (h : Run G A laws_eqUnit.b (params 0 cs) [] (QF true [.V, .V] [.tmp 4] r)) : A 159 cs = some r := A_run T_laws_eqUnit h
theorem run_spec_HeapOk (h : Run G A spec_HeapOk.b (params 0 cs) [] (QF true [.V] [.tmp 2] r)) : A 14 cs = some r := A_run T_spec_HeapOk h
theorem run_spec_ProgOk (h : Run G A spec_ProgOk.b (params 0 cs) [] (QF true [.V] [.tmp 2] r)) : A 32 cs = some r := A_run T_spec_ProgOk h
theorem run_spec_l1In (h : Run G A spec_l1In.b (params 0 cs) [] (QF true [.V, .V, .V] [.tmp 6] r)) : A 65 cs = some r := A_run T_spec_l1In h
theorem run_spec_l8InstOk (h : Run G A spec_l8InstOk.b (params 0 cs) [] (QF true [.V, .V] [.tmp 4] r)) : A 116 cs = some r := A_run T_spec_l8InstOk h
theorem run_impl_HeapOk (h : Run G A impl_HeapOk.b (params 0 cs) [] (QF true [.V] [.tmp 2] r)) : A 60 cs = some r := A_run T_impl_HeapOk h
theorem run_impl_ProgOk (h : Run G A impl_ProgOk.b (params 0 cs) [] (QF true [.V] [.tmp 2] r)) : A 76 cs = some r := A_run T_impl_ProgOk h
theorem run_impl_Sys_instOk (h : Run G A impl_Sys_instOk.b (params 0 cs) [] (QF false [.M, .V] [.tmp 4] r)) : A 114 cs = some r := A_run T_impl_Sys_instOk h
theorem run_impl_Sys_isLambda (h : Run G A impl_Sys_isLambda.b (params 0 cs) [] (QF false [.M, .V, .V] [.tmp 6] r)) : A 115 cs = some r := A_run T_impl_Sys_isLambda h
theorem run_laws_eqBind (h : Run G A laws_eqBind.b (params 0 cs) [] (QF true [.V, .V] [.tmp 4] r)) : A 160 cs = some r := A_run T_laws_eqBind h
theorem run_laws_eqFrame (h : Run G A laws_eqFrame.b (params 0 cs) [] (QF true [.V, .V] [.tmp 4] r)) : A 161 cs = some r := A_run T_laws_eqFrame h
theorem runE_laws_markText {cs : List CV} {X : List CV → List CV → Prop} (h : Run G A laws_markText.b (params 0 cs) [] (QE true [.V] [.tmp 2] X)) : ∃ rs os, A 80 cs = some (rs, os) ∧ X rs os := A_runE T_laws_markText h
theorem run_laws_markValueS (h : Run G A laws_markValueS.b (params 0 cs) [] (QF true [.M, .V] [.tmp 4] r)) : A 162 cs = some r := A_run T_laws_markValueS h
theorem run_laws_markLinkS (h : Run G A laws_markLinkS.b (params 0 cs) [] (QF true [.M, .V] [.tmp 4] r)) : A 163 cs = some r := A_run T_laws_markLinkS h
theorem run_laws_markTypeS (h : Run G A laws_markTypeS.b (params 0 cs) [] (QF true [.M, .V] [.tmp 4] r)) : A 164 cs = some r := A_run T_laws_markTypeS h
theorem run_laws_markNodeS (h : Run G A laws_markNodeS.b (params 0 cs) [] (QF true [.M, .V] [.tmp 4] r)) : A 79 cs = some r := A_run T_laws_markNodeS h
theorem run_laws_heldValueS (h : Run G A laws_heldValueS.b (params 0 cs) [] (QF true [.V, .V] [.tmp 4] r)) : A 165 cs = some r := A_run T_laws_heldValueS h
theorem run_laws_szValueS (h : Run G A laws_szValueS.b (params 0 cs) [] (QF true [.V, .V] [.tmp 4] r)) : A 195 cs = some r := A_run T_laws_szValueS h
theorem run_laws_szLinkS (h : Run G A laws_szLinkS.b (params 0 cs) [] (QF true [.V, .V] [.tmp 4] r)) : A 196 cs = some r := A_run T_laws_szLinkS h
theorem run_laws_szTypeS (h : Run G A laws_szTypeS.b (params 0 cs) [] (QF true [.V, .V] [.tmp 4] r)) : A 197 cs = some r := A_run T_laws_szTypeS h
theorem run_laws_szProg (h : Run G A laws_szProg.b (params 0 cs) [] (QF true [.V, .V] [.tmp 4] r)) : A 19 cs = some r := A_run T_laws_szProg h
theorem run_laws_toValueS (h : Run G A laws_toValueS.b (params 0 cs) [] (QF true [.V] [.tmp 2] r)) : A 198 cs = some r := A_run T_laws_toValueS h
theorem run_laws_toLinkS (h : Run G A laws_toLinkS.b (params 0 cs) [] (QF true [.V] [.tmp 2] r)) : A 199 cs = some r := A_run T_laws_toLinkS h
theorem run_laws_toTypeS (h : Run G A laws_toTypeS.b (params 0 cs) [] (QF true [.V] [.tmp 2] r)) : A 200 cs = some r := A_run T_laws_toTypeS h
theorem run_laws_toProg (h : Run G A laws_toProg.b (params 0 cs) [] (QF true [.V] [.cell 2 2 true] r)) : A 21 cs = some r := A_run T_laws_toProg h
theorem run_laws_eqValueS (h : Run G A laws_eqValueS.b (params 0 cs) [] (QF true [.V, .V] [.tmp 4] r)) : A 201 cs = some r := A_run T_laws_eqValueS h
theorem run_laws_eqLinkS (h : Run G A laws_eqLinkS.b (params 0 cs) [] (QF true [.V, .V] [.tmp 4] r)) : A 202 cs = some r := A_run T_laws_eqLinkS h
theorem run_laws_eqTypeS (h : Run G A laws_eqTypeS.b (params 0 cs) [] (QF true [.V, .V] [.tmp 4] r)) : A 203 cs = some r := A_run T_laws_eqTypeS h
theorem run_laws_eqProg (h : Run G A laws_eqProg.b (params 0 cs) [] (QF true [.V, .V] [.tmp 4] r)) : A 24 cs = some r := A_run T_laws_eqProg h
theorem run_spec_l6CellOk (h : Run G A spec_l6CellOk.b (params 0 cs) [] (QF true [.V, .V] [.tmp 4] r)) : A 64 cs = some r := A_run T_spec_l6CellOk h
theorem run_spec_l3Node (h : Run G A spec_l3Node.b (params 0 cs) [] (QF true [.V] [.tmp 2] r)) : A 86 cs = some r := A_run T_spec_l3Node h
theorem run_spec_ValueOk (h : Run G A spec_ValueOk.b (params 0 cs) [] (QF true [.V, .V] [.tmp 4] r)) : A 15 cs = some r := A_run T_spec_ValueOk h
theorem run_spec_l3In (h : Run G A spec_l3In.b (params 0 cs) [] (QF true [.V, .V] [.tmp 4] r)) : A 88 cs = some r := A_run T_spec_l3In h
theorem run_spec_IsName (h : Run G A spec_IsName.b (params 0 cs) [] (QF true [.V] [.tmp 2] r)) : A 126 cs = some r := A_run T_spec_IsName h
theorem run_spec_l3Names (h : Run G A spec_l3Names.b (params 0 cs) [] (QF true [.V, .V] [.tmp 4] r)) : A 147 cs = some r := A_run T_spec_l3Names h
theorem run_impl_cellOk (h : Run G A impl_cellOk.b (params 0 cs) [] (QF true [.V] [.tmp 2] r)) : A 118 cs = some r := A_run T_impl_cellOk h
theorem run_impl_valuesOk (h : Run G A impl_valuesOk.b (params 0 cs) [] (QF true [.V, .V] [.tmp 4] r)) : A 119 cs = some r := A_run T_impl_valuesOk h
theorem run_impl_areBelow (h : Run G A impl_areBelow.b (params 0 cs) [] (QF true [.V, .V] [.tmp 4] r)) : A 120 cs = some r := A_run T_impl_areBelow h
theorem run_impl_nodeOk (h : Run G A impl_nodeOk.b (params 0 cs) [] (QF true [.V] [.tmp 2] r)) : A 133 cs = some r := A_run T_impl_nodeOk h
theorem run_impl_ValueOk (h : Run G A impl_ValueOk.b (params 0 cs) [] (QF true [.V, .V] [.tmp 4] r)) : A 61 cs = some r := A_run T_impl_ValueOk h
theorem run_impl_IsName (h : Run G A impl_IsName.b (params 0 cs) [] (QF true [.V] [.tmp 2] r)) : A 168 cs = some r := A_run T_impl_IsName h
theorem run_impl_namesOk (h : Run G A impl_namesOk.b (params 0 cs) [] (QF true [.V, .V] [.tmp 4] r)) : A 169 cs = some r := A_run T_impl_namesOk h
theorem run_impl_Sys_linksOk (h : Run G A impl_Sys_linksOk.b (params 0 cs) [] (QF false [.M, .V] [.tmp 4] r)) : A 170 cs = some r := A_run T_impl_Sys_linksOk h
theorem run_impl_typesOk (h : Run G A impl_typesOk.b (params 0 cs) [] (QF true [.V] [.tmp 2] r)) : A 171 cs = some r := A_run T_impl_typesOk h
theorem run_laws_markIntS (h : Run G A laws_markIntS.b (params 0 cs) [] (QF true [.M, .V] [.tmp 4] r)) : A 136 cs = some r := A_run T_laws_markIntS h
theorem run_laws_szValue (h : Run G A laws_szValue.b (params 0 cs) [] (QF true [.V, .V] [.tmp 4] r)) : A 224 cs = some r := A_run T_laws_szValue h
theorem run_laws_szLink (h : Run G A laws_szLink.b (params 0 cs) [] (QF true [.V, .V] [.tmp 4] r)) : A 225 cs = some r := A_run T_laws_szLink h
theorem run_laws_szType (h : Run G A laws_szType.b (params 0 cs) [] (QF true [.V, .V] [.tmp 4] r)) : A 226 cs = some r := A_run T_laws_szType h
theorem run_laws_szNodeS (h : Run G A laws_szNodeS.b (params 0 cs) [] (QF true [.V, .V] [.tmp 4] r)) : A 72 cs = some r := A_run T_laws_szNodeS h
theorem run_laws_toValue (h : Run G A laws_toValue.b (params 0 cs) [] (QF true [.V] [.cell 2 3 true] r)) : A 227 cs = some r := A_run T_laws_toValue h
theorem run_laws_toLink (h : Run G A laws_toLink.b (params 0 cs) [] (QF true [.V] [.cell 2 3 true] r)) : A 228 cs = some r := A_run T_laws_toLink h
theorem run_laws_toType (h : Run G A laws_toType.b (params 0 cs) [] (QF true [.V] [.cell 2 2 true] r)) : A 229 cs = some r := A_run T_laws_toType h
theorem run_laws_toNodeS (h : Run G A laws_toNodeS.b (params 0 cs) [] (QF true [.V] [.tmp 2] r)) : A 74 cs = some r := A_run T_laws_toNodeS h
theorem run_laws_eqLink (h : Run G A laws_eqLink.b (params 0 cs) [] (QF true [.V, .V] [.tmp 4] r)) : A 230 cs = some r := A_run T_laws_eqLink h
theorem run_laws_eqType (h : Run G A laws_eqType.b (params 0 cs) [] (QF true [.V, .V] [.tmp 4] r)) : A 231 cs = some r := A_run T_laws_eqType h
theorem run_laws_eqNodeS (h : Run G A laws_eqNodeS.b (params 0 cs) [] (QF true [.V, .V] [.tmp 4] r)) : A 78 cs = some r := A_run T_laws_eqNodeS h
theorem run_spec_l6Points (h : Run G A spec_l6Points.b (params 0 cs) [] (QF true [.V] [.tmp 2] r)) : A 125 cs = some r := A_run T_spec_l6Points h
theorem run_spec_l2Sym (h : Run G A spec_l2Sym.b (params 0 cs) [] (QF true [.V] [.tmp 2] r)) : A 66 cs = some r := A_run T_spec_l2Sym h
theorem run_spec_l3Prim (h : Run G A spec_l3Prim.b (params 0 cs) [] (QF true [.V] [.tmp 2] r)) : A 148 cs = some r := A_run T_spec_l3Prim h
theorem run_spec_l6Cell (h : Run G A spec_l6Cell.b (params 0 cs) [] (QF true [.V, .V, .V] [.tmp 6] r)) : A 67 cs = some r := A_run T_spec_l6Cell h
theorem run_spec_l3Word (h : Run G A spec_l3Word.b (params 0 cs) [] (QF true [.V] [.tmp 2] r)) : A 178 cs = some r := A_run T_spec_l3Word h
theorem run_spec_Arity (h : Run G A spec_Arity.b (params 0 cs) [] (QF true [.V] [.tmp 2] r)) : A 179 cs = some r := A_run T_spec_Arity h
theorem run_impl_allNames (h : Run G A impl_allNames.b (params 0 cs) [] (QF true [.V] [.tmp 2] r)) : A 172 cs = some r := A_run T_impl_allNames h
theorem run_impl_cellKind (h : Run G A impl_cellKind.b (params 0 cs) [] (QF true [.V] [.tmp 2] r)) : A 122 cs = some r := A_run T_impl_cellKind h
theorem run_impl_symOk (h : Run G A impl_symOk.b (params 0 cs) [] (QF true [.V] [.tmp 2] r)) : A 121 cs = some r := A_run T_impl_symOk h
theorem run_impl_primOk (h : Run G A impl_primOk.b (params 0 cs) [] (QF true [.V] [.tmp 2] r)) : A 183 cs = some r := A_run T_impl_primOk h
theorem run_impl_isOneOf (h : Run G A impl_isOneOf.b (params 0 cs) [] (QF true [.V, .V] [.tmp 4] r)) : A 210 cs = some r := A_run T_impl_isOneOf h
theorem run_impl_Arity (h : Run G A impl_Arity.b (params 0 cs) [] (QF true [.V] [.tmp 2] r)) : A 211 cs = some r := A_run T_impl_Arity h
theorem run_slices_Index_string_string (h : Run G A slices_Index_string_string.b (params 0 cs) [] (QF true [.V, .V] [.tmp 4] r)) : A 187 cs = some r := A_run T_slices_Index_string_string h
theorem run_slices_Contains_string_string (h : Run G A slices_Contains_string_string.b (params 0 cs) [] (QF true [.V, .V] [.tmp 4] r)) : A 141 cs = some r := A_run T_slices_Contains_string_string h
theorem run_laws_szNode (h : Run G A laws_szNode.b (params 0 cs) [] (QF true [.V, .V] [.tmp 4] r)) : A 131 cs = some r := A_run T_laws_szNode h
theorem run_laws_toNode (h : Run G A laws_toNode.b (params 0 cs) [] (QF true [.V] [.cell 2 5 true] r)) : A 132 cs = some r := A_run T_laws_toNode h
theorem run_laws_eqNode (h : Run G A laws_eqNode.b (params 0 cs) [] (QF true [.V, .V] [.tmp 4] r)) : A 135 cs = some r := A_run T_laws_eqNode h
theorem run_spec_l2Digit (h : Run G A spec_l2Digit.b (params 0 cs) [] (QF true [.V] [.tmp 2] r)) : A 127 cs = some r := A_run T_spec_l2Digit h
theorem run_spec_l2Sign (h : Run G A spec_l2Sign.b (params 0 cs) [] (QF true [.V] [.tmp 2] r)) : A 128 cs = some r := A_run T_spec_l2Sign h
theorem run_spec_ReadDec (h : Run G A spec_ReadDec.b (params 0 cs) [] (QF true [.V] [.tmp 2, .tmp 3] r)) : A 129 cs = some r := A_run T_spec_ReadDec h
theorem run_impl_isSymByte (h : Run G A impl_isSymByte.b (params 0 cs) [] (QF true [.V] [.tmp 2] r)) : A 173 cs = some r := A_run T_impl_isSymByte h
theorem run_impl_isTyped (h : Run G A impl_isTyped.b (params 0 cs) [] (QF true [.V] [.tmp 2] r)) : A 215 cs = some r := A_run T_impl_isTyped h
theorem run_laws_szIntS (h : Run G A laws_szIntS.b (params 0 cs) [] (QF true [.V, .V] [.tmp 4] r)) : A 181 cs = some r := A_run T_laws_szIntS h
theorem run_laws_toIntS (h : Run G A laws_toIntS.b (params 0 cs) [] (QF true [.V] [.tmp 2] r)) : A 182 cs = some r := A_run T_laws_toIntS h
theorem run_laws_eqIntS (h : Run G A laws_eqIntS.b (params 0 cs) [] (QF true [.V, .V] [.tmp 4] r)) : A 185 cs = some r := A_run T_laws_eqIntS h
theorem run_spec_l2In (h : Run G A spec_l2In.b (params 0 cs) [] (QF true [.V, .V] [.tmp 4] r)) : A 180 cs = some r := A_run T_spec_l2In h
theorem run_spec_Dec (h : Run G A spec_Dec.b (params 0 cs) [] (QF true [.V] [.tmp 2] r)) : A 137 cs = some r := A_run T_spec_Dec h
theorem T_impl_ReadDec : T 174 = none := by kernel_rfl
@[simp] theorem G_174 : G 174 = some ⟨[.V], true⟩ := by kernel_rfl
theorem P_impl_ReadDec (h : prim_impl_ReadDec.run cs = some r) : A 174 cs = some r := A_prim T_impl_ReadDec (by rw [← h]; rfl)
theorem T_strings_Contains : T 233 = none := by kernel_rfl
@[simp] theorem G_233 : G 233 = some ⟨[.V, .V], true⟩ := by kernel_rfl
theorem P_strings_Contains (h : prim_strings_Contains.run cs = some r) : A 233 cs = some r := A_prim T_strings_Contains (by rw [← h]; rfl)
theorem T_strings_IndexByte : T 212 = none := by kernel_rfl
@[simp] theorem G_212 : G 212 = some ⟨[.V, .V], true⟩ := by kernel_rfl
theorem P_strings_IndexByte (h : prim_strings_IndexByte.run cs = some r) : A 212 cs = some r := A_prim T_strings_IndexByte (by rw [← h]; rfl)
end Go.Proofs.YticecjjfbjnaaaaGreatDoor.SA
