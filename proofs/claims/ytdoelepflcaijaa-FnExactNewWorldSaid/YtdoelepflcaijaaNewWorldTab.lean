/- The table of the functions. -/
import Derived.Test.YtdoelepflcaijaaNewWorldFn0
import Derived.Test.YtdoelepflcaijaaEngTable
namespace Go.Proofs.Ytdoelepflcaijaa.NewWorld
open Go Go.VS
set_option maxRecDepth 100000
set_option linter.unusedVariables false
set_option linter.unusedSimpArgs false
def LaidX (_ : World) : Prop := True
noncomputable def tab : List (Entry Try.prog) := [⟨6, laws_FnExactNewWorld, Try.f6, Try.func6, laws_FnExactNewWorld.turned⟩,
  ⟨23, spec_NewWorld, Try.f23, Try.func23, spec_NewWorld.turned⟩,
  ⟨24, impl_NewWorld, Try.f24, Try.func24, impl_NewWorld.turned⟩,
  ⟨25, laws_eqWorld, Try.f25, Try.func25, laws_eqWorld.turned⟩,
  ⟨26, laws_markWorld, Try.f26, Try.func26, laws_markWorld.turned⟩,
  ⟨27, laws_heldWorld, Try.f27, Try.func27, laws_heldWorld.turned⟩,
  ⟨7, spec_NewSys, Try.f7, Try.func7, spec_NewSys.turned⟩,
  ⟨8, impl_NewSys, Try.f8, Try.func8, impl_NewSys.turned⟩,
  ⟨9, laws_eqSys, Try.f9, Try.func9, laws_eqSys.turned⟩,
  ⟨52, laws_eqEntS, Try.f52, Try.func52, laws_eqEntS.turned⟩,
  ⟨53, laws_eqTaskS, Try.f53, Try.func53, laws_eqTaskS.turned⟩,
  ⟨10, laws_markSys, Try.f10, Try.func10, laws_markSys.turned⟩,
  ⟨54, laws_markEntS, Try.f54, Try.func54, laws_markEntS.turned⟩,
  ⟨55, laws_markTaskS, Try.f55, Try.func55, laws_markTaskS.turned⟩,
  ⟨11, laws_heldSys, Try.f11, Try.func11, laws_heldSys.turned⟩,
  ⟨56, laws_heldEntS, Try.f56, Try.func56, laws_heldEntS.turned⟩,
  ⟨57, laws_heldTaskS, Try.f57, Try.func57, laws_heldTaskS.turned⟩,
  ⟨16, laws_eqStringS, Try.f16, Try.func16, laws_eqStringS.turned⟩,
  ⟨28, laws_eqCellS, Try.f28, Try.func28, laws_eqCellS.turned⟩,
  ⟨29, laws_eqInstS, Try.f29, Try.func29, laws_eqInstS.turned⟩,
  ⟨30, laws_eqUnitS, Try.f30, Try.func30, laws_eqUnitS.turned⟩,
  ⟨82, laws_eqEnt, Try.f82, Try.func82, laws_eqEnt.turned⟩,
  ⟨83, laws_eqTask, Try.f83, Try.func83, laws_eqTask.turned⟩,
  ⟨19, laws_markStringS, Try.f19, Try.func19, laws_markStringS.turned⟩,
  ⟨31, laws_markCellS, Try.f31, Try.func31, laws_markCellS.turned⟩,
  ⟨32, laws_markInstS, Try.f32, Try.func32, laws_markInstS.turned⟩,
  ⟨33, laws_markUnitS, Try.f33, Try.func33, laws_markUnitS.turned⟩,
  ⟨48, laws_markText, Try.f48, Try.func48, laws_markText.turned⟩,
  ⟨49, laws_markTypeS, Try.f49, Try.func49, laws_markTypeS.turned⟩,
  ⟨50, laws_markDefS, Try.f50, Try.func50, laws_markDefS.turned⟩,
  ⟨84, laws_markBindS, Try.f84, Try.func84, laws_markBindS.turned⟩,
  ⟨85, laws_markFrameS, Try.f85, Try.func85, laws_markFrameS.turned⟩,
  ⟨20, laws_heldStringS, Try.f20, Try.func20, laws_heldStringS.turned⟩,
  ⟨34, laws_heldCellS, Try.f34, Try.func34, laws_heldCellS.turned⟩,
  ⟨35, laws_heldInstS, Try.f35, Try.func35, laws_heldInstS.turned⟩,
  ⟨36, laws_heldUnitS, Try.f36, Try.func36, laws_heldUnitS.turned⟩,
  ⟨66, laws_heldTypeS, Try.f66, Try.func66, laws_heldTypeS.turned⟩,
  ⟨86, laws_heldDefS, Try.f86, Try.func86, laws_heldDefS.turned⟩,
  ⟨87, laws_heldBindS, Try.f87, Try.func87, laws_heldBindS.turned⟩,
  ⟨88, laws_heldFrameS, Try.f88, Try.func88, laws_heldFrameS.turned⟩,
  ⟨58, laws_eqCell, Try.f58, Try.func58, laws_eqCell.turned⟩,
  ⟨59, laws_eqInst, Try.f59, Try.func59, laws_eqInst.turned⟩,
  ⟨60, laws_eqUnit, Try.f60, Try.func60, laws_eqUnit.turned⟩,
  ⟨47, laws_eqSrc, Try.f47, Try.func47, laws_eqSrc.turned⟩,
  ⟨111, laws_eqMachine, Try.f111, Try.func111, laws_eqMachine.turned⟩,
  ⟨61, laws_markValueS, Try.f61, Try.func61, laws_markValueS.turned⟩,
  ⟨62, laws_markLinkS, Try.f62, Try.func62, laws_markLinkS.turned⟩,
  ⟨63, laws_markNodeS, Try.f63, Try.func63, laws_markNodeS.turned⟩,
  ⟨64, laws_heldValueS, Try.f64, Try.func64, laws_heldValueS.turned⟩,
  ⟨65, laws_heldLinkS, Try.f65, Try.func65, laws_heldLinkS.turned⟩,
  ⟨67, laws_heldNodeS, Try.f67, Try.func67, laws_heldNodeS.turned⟩,
  ⟨89, laws_eqValueS, Try.f89, Try.func89, laws_eqValueS.turned⟩,
  ⟨79, laws_eqTypeS, Try.f79, Try.func79, laws_eqTypeS.turned⟩,
  ⟨90, laws_eqLinkS, Try.f90, Try.func90, laws_eqLinkS.turned⟩,
  ⟨91, laws_eqProg, Try.f91, Try.func91, laws_eqProg.turned⟩,
  ⟨80, laws_eqDefS, Try.f80, Try.func80, laws_eqDefS.turned⟩,
  ⟨112, laws_eqValue, Try.f112, Try.func112, laws_eqValue.turned⟩,
  ⟨123, laws_eqBindS, Try.f123, Try.func123, laws_eqBindS.turned⟩,
  ⟨124, laws_eqFrameS, Try.f124, Try.func124, laws_eqFrameS.turned⟩,
  ⟨92, laws_markIntS, Try.f92, Try.func92, laws_markIntS.turned⟩,
  ⟨93, laws_heldIntS, Try.f93, Try.func93, laws_heldIntS.turned⟩,
  ⟨109, laws_eqType, Try.f109, Try.func109, laws_eqType.turned⟩,
  ⟨113, laws_eqLink, Try.f113, Try.func113, laws_eqLink.turned⟩,
  ⟨114, laws_eqNodeS, Try.f114, Try.func114, laws_eqNodeS.turned⟩,
  ⟨110, laws_eqDef, Try.f110, Try.func110, laws_eqDef.turned⟩,
  ⟨129, laws_eqBind, Try.f129, Try.func129, laws_eqBind.turned⟩,
  ⟨130, laws_eqFrame, Try.f130, Try.func130, laws_eqFrame.turned⟩,
  ⟨125, laws_eqNode, Try.f125, Try.func125, laws_eqNode.turned⟩,
  ⟨131, laws_eqIntS, Try.f131, Try.func131, laws_eqIntS.turned⟩]
noncomputable def ptab : List (PEntry Try.prog LaidX) := []
noncomputable def T : FuncId → Option VFn := tabT tab
noncomputable def G : Sigs := tabG tab ptab
noncomputable def A : Fns := lim G T (tabP ptab)
theorem A_run {f : FuncId} {vf : VFn} {cs : List CV} {r : List CV × List CV} (hT : T f = some vf) (h : Run G A vf.body (params 0 cs) [] (QF vf.sig.own vf.sig.modes vf.res r)) : A f cs = some r := lim_run hT h
theorem A_runE {f : FuncId} {vf : VFn} {cs : List CV} {X : List CV → List CV → Prop} (hT : T f = some vf) (h : Run G A vf.body (params 0 cs) [] (QE vf.sig.own vf.sig.modes vf.res X)) : ∃ rs os, A f cs = some (rs, os) ∧ X rs os := lim_runE hT h
theorem A_prim {f : FuncId} {cs : List CV} {r : List CV × List CV} (hT : T f = none) (h : tabP ptab f cs = some r) : A f cs = some r := lim_prim hT h
theorem A_answers {W : World} (hX : LaidX W) {f : FuncId} {g : Sig} {cs res outs : List CV} (hg : G f = some g) (h : A f cs = some (res, outs)) : Answers Try.prog W f cs res outs := lim_answers (tabT_ok tab ptab) (tabP_ok hX tab ptab) hg h
theorem T_laws_FnExactNewWorld : T 6 = some laws_FnExactNewWorld := by kernel_rfl
@[simp] theorem G_6 : G 6 = some ⟨[], true⟩ := by kernel_rfl
theorem T_spec_NewWorld : T 23 = some spec_NewWorld := by kernel_rfl
@[simp] theorem G_23 : G 23 = some ⟨[], true⟩ := by kernel_rfl
theorem T_impl_NewWorld : T 24 = some impl_NewWorld := by kernel_rfl
@[simp] theorem G_24 : G 24 = some ⟨[], true⟩ := by kernel_rfl
theorem T_laws_eqWorld : T 25 = some laws_eqWorld := by kernel_rfl
@[simp] theorem G_25 : G 25 = some ⟨[.V, .V], true⟩ := by kernel_rfl
theorem T_laws_markWorld : T 26 = some laws_markWorld := by kernel_rfl
@[simp] theorem G_26 : G 26 = some ⟨[.M, .V], true⟩ := by kernel_rfl
theorem T_laws_heldWorld : T 27 = some laws_heldWorld := by kernel_rfl
@[simp] theorem G_27 : G 27 = some ⟨[.V, .V], true⟩ := by kernel_rfl
theorem T_spec_NewSys : T 7 = some spec_NewSys := by kernel_rfl
@[simp] theorem G_7 : G 7 = some ⟨[], true⟩ := by kernel_rfl
theorem T_impl_NewSys : T 8 = some impl_NewSys := by kernel_rfl
@[simp] theorem G_8 : G 8 = some ⟨[], true⟩ := by kernel_rfl
theorem T_laws_eqSys : T 9 = some laws_eqSys := by kernel_rfl
@[simp] theorem G_9 : G 9 = some ⟨[.V, .V], true⟩ := by kernel_rfl
theorem T_laws_eqEntS : T 52 = some laws_eqEntS := by kernel_rfl
@[simp] theorem G_52 : G 52 = some ⟨[.V, .V], true⟩ := by kernel_rfl
theorem T_laws_eqTaskS : T 53 = some laws_eqTaskS := by kernel_rfl
@[simp] theorem G_53 : G 53 = some ⟨[.V, .V], true⟩ := by kernel_rfl
theorem T_laws_markSys : T 10 = some laws_markSys := by kernel_rfl
@[simp] theorem G_10 : G 10 = some ⟨[.M, .V], true⟩ := by kernel_rfl
theorem T_laws_markEntS : T 54 = some laws_markEntS := by kernel_rfl
@[simp] theorem G_54 : G 54 = some ⟨[.M, .V], true⟩ := by kernel_rfl
theorem T_laws_markTaskS : T 55 = some laws_markTaskS := by kernel_rfl
@[simp] theorem G_55 : G 55 = some ⟨[.M, .V], true⟩ := by kernel_rfl
theorem T_laws_heldSys : T 11 = some laws_heldSys := by kernel_rfl
@[simp] theorem G_11 : G 11 = some ⟨[.V, .V], true⟩ := by kernel_rfl
theorem T_laws_heldEntS : T 56 = some laws_heldEntS := by kernel_rfl
@[simp] theorem G_56 : G 56 = some ⟨[.V, .V], true⟩ := by kernel_rfl
theorem T_laws_heldTaskS : T 57 = some laws_heldTaskS := by kernel_rfl
@[simp] theorem G_57 : G 57 = some ⟨[.V, .V], true⟩ := by kernel_rfl
theorem T_laws_eqStringS : T 16 = some laws_eqStringS := by kernel_rfl
@[simp] theorem G_16 : G 16 = some ⟨[.V, .V], true⟩ := by kernel_rfl
theorem T_laws_eqCellS : T 28 = some laws_eqCellS := by kernel_rfl
@[simp] theorem G_28 : G 28 = some ⟨[.V, .V], true⟩ := by kernel_rfl
theorem T_laws_eqInstS : T 29 = some laws_eqInstS := by kernel_rfl
@[simp] theorem G_29 : G 29 = some ⟨[.V, .V], true⟩ := by kernel_rfl
theorem T_laws_eqUnitS : T 30 = some laws_eqUnitS := by kernel_rfl
@[simp] theorem G_30 : G 30 = some ⟨[.V, .V], true⟩ := by kernel_rfl
theorem T_laws_eqEnt : T 82 = some laws_eqEnt := by kernel_rfl
@[simp] theorem G_82 : G 82 = some ⟨[.V, .V], true⟩ := by kernel_rfl
theorem T_laws_eqTask : T 83 = some laws_eqTask := by kernel_rfl
@[simp] theorem G_83 : G 83 = some ⟨[.V, .V], true⟩ := by kernel_rfl
theorem T_laws_markStringS : T 19 = some laws_markStringS := by kernel_rfl
@[simp] theorem G_19 : G 19 = some ⟨[.M, .V], true⟩ := by kernel_rfl
theorem T_laws_markCellS : T 31 = some laws_markCellS := by kernel_rfl
@[simp] theorem G_31 : G 31 = some ⟨[.M, .V], true⟩ := by kernel_rfl
theorem T_laws_markInstS : T 32 = some laws_markInstS := by kernel_rfl
@[simp] theorem G_32 : G 32 = some ⟨[.M, .V], true⟩ := by kernel_rfl
theorem T_laws_markUnitS : T 33 = some laws_markUnitS := by kernel_rfl
@[simp] theorem G_33 : G 33 = some ⟨[.M, .V], true⟩ := by kernel_rfl
theorem T_laws_markText : T 48 = some laws_markText := by kernel_rfl
@[simp] theorem G_48 : G 48 = some ⟨[.V], true⟩ := by kernel_rfl
theorem T_laws_markTypeS : T 49 = some laws_markTypeS := by kernel_rfl
@[simp] theorem G_49 : G 49 = some ⟨[.M, .V], true⟩ := by kernel_rfl
theorem T_laws_markDefS : T 50 = some laws_markDefS := by kernel_rfl
@[simp] theorem G_50 : G 50 = some ⟨[.M, .V], true⟩ := by kernel_rfl
theorem T_laws_markBindS : T 84 = some laws_markBindS := by kernel_rfl
@[simp] theorem G_84 : G 84 = some ⟨[.M, .V], true⟩ := by kernel_rfl
theorem T_laws_markFrameS : T 85 = some laws_markFrameS := by kernel_rfl
@[simp] theorem G_85 : G 85 = some ⟨[.M, .V], true⟩ := by kernel_rfl
theorem T_laws_heldStringS : T 20 = some laws_heldStringS := by kernel_rfl
@[simp] theorem G_20 : G 20 = some ⟨[.V, .V], true⟩ := by kernel_rfl
theorem T_laws_heldCellS : T 34 = some laws_heldCellS := by kernel_rfl
@[simp] theorem G_34 : G 34 = some ⟨[.V, .V], true⟩ := by kernel_rfl
theorem T_laws_heldInstS : T 35 = some laws_heldInstS := by kernel_rfl
@[simp] theorem G_35 : G 35 = some ⟨[.V, .V], true⟩ := by kernel_rfl
theorem T_laws_heldUnitS : T 36 = some laws_heldUnitS := by kernel_rfl
@[simp] theorem G_36 : G 36 = some ⟨[.V, .V], true⟩ := by kernel_rfl
theorem T_laws_heldTypeS : T 66 = some laws_heldTypeS := by kernel_rfl
@[simp] theorem G_66 : G 66 = some ⟨[.V, .V], true⟩ := by kernel_rfl
theorem T_laws_heldDefS : T 86 = some laws_heldDefS := by kernel_rfl
@[simp] theorem G_86 : G 86 = some ⟨[.V, .V], true⟩ := by kernel_rfl
theorem T_laws_heldBindS : T 87 = some laws_heldBindS := by kernel_rfl
@[simp] theorem G_87 : G 87 = some ⟨[.V, .V], true⟩ := by kernel_rfl
theorem T_laws_heldFrameS : T 88 = some laws_heldFrameS := by kernel_rfl
@[simp] theorem G_88 : G 88 = some ⟨[.V, .V], true⟩ := by kernel_rfl
theorem T_laws_eqCell : T 58 = some laws_eqCell := by kernel_rfl
@[simp] theorem G_58 : G 58 = some ⟨[.V, .V], true⟩ := by kernel_rfl
theorem T_laws_eqInst : T 59 = some laws_eqInst := by kernel_rfl
@[simp] theorem G_59 : G 59 = some ⟨[.V, .V], true⟩ := by kernel_rfl
theorem T_laws_eqUnit : T 60 = some laws_eqUnit := by kernel_rfl
@[simp] theorem G_60 : G 60 = some ⟨[.V, .V], true⟩ := by kernel_rfl
theorem T_laws_eqSrc : T 47 = some laws_eqSrc := by kernel_rfl
@[simp] theorem G_47 : G 47 = some ⟨[.V, .V], true⟩ := by kernel_rfl
theorem T_laws_eqMachine : T 111 = some laws_eqMachine := by kernel_rfl
@[simp] theorem G_111 : G 111 = some ⟨[.V, .V], true⟩ := by kernel_rfl
theorem T_laws_markValueS : T 61 = some laws_markValueS := by kernel_rfl
@[simp] theorem G_61 : G 61 = some ⟨[.M, .V], true⟩ := by kernel_rfl
theorem T_laws_markLinkS : T 62 = some laws_markLinkS := by kernel_rfl
@[simp] theorem G_62 : G 62 = some ⟨[.M, .V], true⟩ := by kernel_rfl
theorem T_laws_markNodeS : T 63 = some laws_markNodeS := by kernel_rfl
@[simp] theorem G_63 : G 63 = some ⟨[.M, .V], true⟩ := by kernel_rfl
theorem T_laws_heldValueS : T 64 = some laws_heldValueS := by kernel_rfl
@[simp] theorem G_64 : G 64 = some ⟨[.V, .V], true⟩ := by kernel_rfl
theorem T_laws_heldLinkS : T 65 = some laws_heldLinkS := by kernel_rfl
@[simp] theorem G_65 : G 65 = some ⟨[.V, .V], true⟩ := by kernel_rfl
theorem T_laws_heldNodeS : T 67 = some laws_heldNodeS := by kernel_rfl
@[simp] theorem G_67 : G 67 = some ⟨[.V, .V], true⟩ := by kernel_rfl
theorem T_laws_eqValueS : T 89 = some laws_eqValueS := by kernel_rfl
@[simp] theorem G_89 : G 89 = some ⟨[.V, .V], true⟩ := by kernel_rfl
theorem T_laws_eqTypeS : T 79 = some laws_eqTypeS := by kernel_rfl
@[simp] theorem G_79 : G 79 = some ⟨[.V, .V], true⟩ := by kernel_rfl
theorem T_laws_eqLinkS : T 90 = some laws_eqLinkS := by kernel_rfl
@[simp] theorem G_90 : G 90 = some ⟨[.V, .V], true⟩ := by kernel_rfl
theorem T_laws_eqProg : T 91 = some laws_eqProg := by kernel_rfl
@[simp] theorem G_91 : G 91 = some ⟨[.V, .V], true⟩ := by kernel_rfl
theorem T_laws_eqDefS : T 80 = some laws_eqDefS := by kernel_rfl
@[simp] theorem G_80 : G 80 = some ⟨[.V, .V], true⟩ := by kernel_rfl
theorem T_laws_eqValue : T 112 = some laws_eqValue := by kernel_rfl
@[simp] theorem G_112 : G 112 = some ⟨[.V, .V], true⟩ := by kernel_rfl
theorem T_laws_eqBindS : T 123 = some laws_eqBindS := by kernel_rfl
@[simp] theorem G_123 : G 123 = some ⟨[.V, .V], true⟩ := by kernel_rfl
theorem T_laws_eqFrameS : T 124 = some laws_eqFrameS := by kernel_rfl
@[simp] theorem G_124 : G 124 = some ⟨[.V, .V], true⟩ := by kernel_rfl
theorem T_laws_markIntS : T 92 = some laws_markIntS := by kernel_rfl
@[simp] theorem G_92 : G 92 = some ⟨[.M, .V], true⟩ := by kernel_rfl
theorem T_laws_heldIntS : T 93 = some laws_heldIntS := by kernel_rfl
@[simp] theorem G_93 : G 93 = some ⟨[.V, .V], true⟩ := by kernel_rfl
theorem T_laws_eqType : T 109 = some laws_eqType := by kernel_rfl
@[simp] theorem G_109 : G 109 = some ⟨[.V, .V], true⟩ := by kernel_rfl
theorem T_laws_eqLink : T 113 = some laws_eqLink := by kernel_rfl
@[simp] theorem G_113 : G 113 = some ⟨[.V, .V], true⟩ := by kernel_rfl
theorem T_laws_eqNodeS : T 114 = some laws_eqNodeS := by kernel_rfl
@[simp] theorem G_114 : G 114 = some ⟨[.V, .V], true⟩ := by kernel_rfl
theorem T_laws_eqDef : T 110 = some laws_eqDef := by kernel_rfl
@[simp] theorem G_110 : G 110 = some ⟨[.V, .V], true⟩ := by kernel_rfl
theorem T_laws_eqBind : T 129 = some laws_eqBind := by kernel_rfl
@[simp] theorem G_129 : G 129 = some ⟨[.V, .V], true⟩ := by kernel_rfl
theorem T_laws_eqFrame : T 130 = some laws_eqFrame := by kernel_rfl
@[simp] theorem G_130 : G 130 = some ⟨[.V, .V], true⟩ := by kernel_rfl
theorem T_laws_eqNode : T 125 = some laws_eqNode := by kernel_rfl
@[simp] theorem G_125 : G 125 = some ⟨[.V, .V], true⟩ := by kernel_rfl
theorem T_laws_eqIntS : T 131 = some laws_eqIntS := by kernel_rfl
@[simp] theorem G_131 : G 131 = some ⟨[.V, .V], true⟩ := by kernel_rfl
theorem run_laws_FnExactNewWorld {cs : List CV} {r : List CV × List CV} (h : Run G A laws_FnExactNewWorld.b (params 0 cs) [] (QF true [] [.tmp 0] r)) : A 6 cs = some r := A_run T_laws_FnExactNewWorld h
theorem runE_laws_FnExactNewWorld {cs : List CV} {X : List CV → List CV → Prop} (h : Run G A laws_FnExactNewWorld.b (params 0 cs) [] (QE true [] [.tmp 0] X)) : ∃ rs os, A 6 cs = some (rs, os) ∧ X rs os := A_runE T_laws_FnExactNewWorld h
theorem run_spec_NewWorld {cs : List CV} {r : List CV × List CV} (h : Run G A spec_NewWorld.b (params 0 cs) [] (QF true [] [.cell 0 7 true] r)) : A 23 cs = some r := A_run T_spec_NewWorld h
theorem runE_spec_NewWorld {cs : List CV} {X : List CV → List CV → Prop} (h : Run G A spec_NewWorld.b (params 0 cs) [] (QE true [] [.cell 0 7 true] X)) : ∃ rs os, A 23 cs = some (rs, os) ∧ X rs os := A_runE T_spec_NewWorld h
theorem run_impl_NewWorld {cs : List CV} {r : List CV × List CV} (h : Run G A impl_NewWorld.b (params 0 cs) [] (QF true [] [.cell 0 7 true] r)) : A 24 cs = some r := A_run T_impl_NewWorld h
theorem runE_impl_NewWorld {cs : List CV} {X : List CV → List CV → Prop} (h : Run G A impl_NewWorld.b (params 0 cs) [] (QE true [] [.cell 0 7 true] X)) : ∃ rs os, A 24 cs = some (rs, os) ∧ X rs os := A_runE T_impl_NewWorld h
theorem run_laws_eqWorld {cs : List CV} {r : List CV × List CV} (h : Run G A laws_eqWorld.b (params 0 cs) [] (QF true [.V, .V] [.tmp 4] r)) : A 25 cs = some r := A_run T_laws_eqWorld h
theorem runE_laws_eqWorld {cs : List CV} {X : List CV → List CV → Prop} (h : Run G A laws_eqWorld.b (params 0 cs) [] (QE true [.V, .V] [.tmp 4] X)) : ∃ rs os, A 25 cs = some (rs, os) ∧ X rs os := A_runE T_laws_eqWorld h
theorem run_laws_markWorld {cs : List CV} {r : List CV × List CV} (h : Run G A laws_markWorld.b (params 0 cs) [] (QF true [.M, .V] [.tmp 4] r)) : A 26 cs = some r := A_run T_laws_markWorld h
theorem runE_laws_markWorld {cs : List CV} {X : List CV → List CV → Prop} (h : Run G A laws_markWorld.b (params 0 cs) [] (QE true [.M, .V] [.tmp 4] X)) : ∃ rs os, A 26 cs = some (rs, os) ∧ X rs os := A_runE T_laws_markWorld h
theorem run_laws_heldWorld {cs : List CV} {r : List CV × List CV} (h : Run G A laws_heldWorld.b (params 0 cs) [] (QF true [.V, .V] [.tmp 4] r)) : A 27 cs = some r := A_run T_laws_heldWorld h
theorem runE_laws_heldWorld {cs : List CV} {X : List CV → List CV → Prop} (h : Run G A laws_heldWorld.b (params 0 cs) [] (QE true [.V, .V] [.tmp 4] X)) : ∃ rs os, A 27 cs = some (rs, os) ∧ X rs os := A_runE T_laws_heldWorld h
theorem run_spec_NewSys {cs : List CV} {r : List CV × List CV} (h : Run G A spec_NewSys.b (params 0 cs) [] (QF true [] [.cell 0 4 true] r)) : A 7 cs = some r := A_run T_spec_NewSys h
theorem runE_spec_NewSys {cs : List CV} {X : List CV → List CV → Prop} (h : Run G A spec_NewSys.b (params 0 cs) [] (QE true [] [.cell 0 4 true] X)) : ∃ rs os, A 7 cs = some (rs, os) ∧ X rs os := A_runE T_spec_NewSys h
theorem run_impl_NewSys {cs : List CV} {r : List CV × List CV} (h : Run G A impl_NewSys.b (params 0 cs) [] (QF true [] [.cell 0 4 true] r)) : A 8 cs = some r := A_run T_impl_NewSys h
theorem runE_impl_NewSys {cs : List CV} {X : List CV → List CV → Prop} (h : Run G A impl_NewSys.b (params 0 cs) [] (QE true [] [.cell 0 4 true] X)) : ∃ rs os, A 8 cs = some (rs, os) ∧ X rs os := A_runE T_impl_NewSys h
theorem run_laws_eqSys {cs : List CV} {r : List CV × List CV} (h : Run G A laws_eqSys.b (params 0 cs) [] (QF true [.V, .V] [.tmp 4] r)) : A 9 cs = some r := A_run T_laws_eqSys h
theorem runE_laws_eqSys {cs : List CV} {X : List CV → List CV → Prop} (h : Run G A laws_eqSys.b (params 0 cs) [] (QE true [.V, .V] [.tmp 4] X)) : ∃ rs os, A 9 cs = some (rs, os) ∧ X rs os := A_runE T_laws_eqSys h
theorem run_laws_eqEntS {cs : List CV} {r : List CV × List CV} (h : Run G A laws_eqEntS.b (params 0 cs) [] (QF true [.V, .V] [.tmp 4] r)) : A 52 cs = some r := A_run T_laws_eqEntS h
theorem runE_laws_eqEntS {cs : List CV} {X : List CV → List CV → Prop} (h : Run G A laws_eqEntS.b (params 0 cs) [] (QE true [.V, .V] [.tmp 4] X)) : ∃ rs os, A 52 cs = some (rs, os) ∧ X rs os := A_runE T_laws_eqEntS h
theorem run_laws_eqTaskS {cs : List CV} {r : List CV × List CV} (h : Run G A laws_eqTaskS.b (params 0 cs) [] (QF true [.V, .V] [.tmp 4] r)) : A 53 cs = some r := A_run T_laws_eqTaskS h
theorem runE_laws_eqTaskS {cs : List CV} {X : List CV → List CV → Prop} (h : Run G A laws_eqTaskS.b (params 0 cs) [] (QE true [.V, .V] [.tmp 4] X)) : ∃ rs os, A 53 cs = some (rs, os) ∧ X rs os := A_runE T_laws_eqTaskS h
theorem run_laws_markSys {cs : List CV} {r : List CV × List CV} (h : Run G A laws_markSys.b (params 0 cs) [] (QF true [.M, .V] [.tmp 4] r)) : A 10 cs = some r := A_run T_laws_markSys h
theorem runE_laws_markSys {cs : List CV} {X : List CV → List CV → Prop} (h : Run G A laws_markSys.b (params 0 cs) [] (QE true [.M, .V] [.tmp 4] X)) : ∃ rs os, A 10 cs = some (rs, os) ∧ X rs os := A_runE T_laws_markSys h
theorem run_laws_markEntS {cs : List CV} {r : List CV × List CV} (h : Run G A laws_markEntS.b (params 0 cs) [] (QF true [.M, .V] [.tmp 4] r)) : A 54 cs = some r := A_run T_laws_markEntS h
theorem runE_laws_markEntS {cs : List CV} {X : List CV → List CV → Prop} (h : Run G A laws_markEntS.b (params 0 cs) [] (QE true [.M, .V] [.tmp 4] X)) : ∃ rs os, A 54 cs = some (rs, os) ∧ X rs os := A_runE T_laws_markEntS h
theorem run_laws_markTaskS {cs : List CV} {r : List CV × List CV} (h : Run G A laws_markTaskS.b (params 0 cs) [] (QF true [.M, .V] [.tmp 4] r)) : A 55 cs = some r := A_run T_laws_markTaskS h
theorem runE_laws_markTaskS {cs : List CV} {X : List CV → List CV → Prop} (h : Run G A laws_markTaskS.b (params 0 cs) [] (QE true [.M, .V] [.tmp 4] X)) : ∃ rs os, A 55 cs = some (rs, os) ∧ X rs os := A_runE T_laws_markTaskS h
theorem run_laws_heldSys {cs : List CV} {r : List CV × List CV} (h : Run G A laws_heldSys.b (params 0 cs) [] (QF true [.V, .V] [.tmp 4] r)) : A 11 cs = some r := A_run T_laws_heldSys h
theorem runE_laws_heldSys {cs : List CV} {X : List CV → List CV → Prop} (h : Run G A laws_heldSys.b (params 0 cs) [] (QE true [.V, .V] [.tmp 4] X)) : ∃ rs os, A 11 cs = some (rs, os) ∧ X rs os := A_runE T_laws_heldSys h
theorem run_laws_heldEntS {cs : List CV} {r : List CV × List CV} (h : Run G A laws_heldEntS.b (params 0 cs) [] (QF true [.V, .V] [.tmp 4] r)) : A 56 cs = some r := A_run T_laws_heldEntS h
theorem runE_laws_heldEntS {cs : List CV} {X : List CV → List CV → Prop} (h : Run G A laws_heldEntS.b (params 0 cs) [] (QE true [.V, .V] [.tmp 4] X)) : ∃ rs os, A 56 cs = some (rs, os) ∧ X rs os := A_runE T_laws_heldEntS h
theorem run_laws_heldTaskS {cs : List CV} {r : List CV × List CV} (h : Run G A laws_heldTaskS.b (params 0 cs) [] (QF true [.V, .V] [.tmp 4] r)) : A 57 cs = some r := A_run T_laws_heldTaskS h
theorem runE_laws_heldTaskS {cs : List CV} {X : List CV → List CV → Prop} (h : Run G A laws_heldTaskS.b (params 0 cs) [] (QE true [.V, .V] [.tmp 4] X)) : ∃ rs os, A 57 cs = some (rs, os) ∧ X rs os := A_runE T_laws_heldTaskS h
theorem run_laws_eqStringS {cs : List CV} {r : List CV × List CV} (h : Run G A laws_eqStringS.b (params 0 cs) [] (QF true [.V, .V] [.tmp 4] r)) : A 16 cs = some r := A_run T_laws_eqStringS h
theorem runE_laws_eqStringS {cs : List CV} {X : List CV → List CV → Prop} (h : Run G A laws_eqStringS.b (params 0 cs) [] (QE true [.V, .V] [.tmp 4] X)) : ∃ rs os, A 16 cs = some (rs, os) ∧ X rs os := A_runE T_laws_eqStringS h
theorem run_laws_eqCellS {cs : List CV} {r : List CV × List CV} (h : Run G A laws_eqCellS.b (params 0 cs) [] (QF true [.V, .V] [.tmp 4] r)) : A 28 cs = some r := A_run T_laws_eqCellS h
theorem runE_laws_eqCellS {cs : List CV} {X : List CV → List CV → Prop} (h : Run G A laws_eqCellS.b (params 0 cs) [] (QE true [.V, .V] [.tmp 4] X)) : ∃ rs os, A 28 cs = some (rs, os) ∧ X rs os := A_runE T_laws_eqCellS h
theorem run_laws_eqInstS {cs : List CV} {r : List CV × List CV} (h : Run G A laws_eqInstS.b (params 0 cs) [] (QF true [.V, .V] [.tmp 4] r)) : A 29 cs = some r := A_run T_laws_eqInstS h
theorem runE_laws_eqInstS {cs : List CV} {X : List CV → List CV → Prop} (h : Run G A laws_eqInstS.b (params 0 cs) [] (QE true [.V, .V] [.tmp 4] X)) : ∃ rs os, A 29 cs = some (rs, os) ∧ X rs os := A_runE T_laws_eqInstS h
theorem run_laws_eqUnitS {cs : List CV} {r : List CV × List CV} (h : Run G A laws_eqUnitS.b (params 0 cs) [] (QF true [.V, .V] [.tmp 4] r)) : A 30 cs = some r := A_run T_laws_eqUnitS h
theorem runE_laws_eqUnitS {cs : List CV} {X : List CV → List CV → Prop} (h : Run G A laws_eqUnitS.b (params 0 cs) [] (QE true [.V, .V] [.tmp 4] X)) : ∃ rs os, A 30 cs = some (rs, os) ∧ X rs os := A_runE T_laws_eqUnitS h
theorem run_laws_eqEnt {cs : List CV} {r : List CV × List CV} (h : Run G A laws_eqEnt.b (params 0 cs) [] (QF true [.V, .V] [.tmp 4] r)) : A 82 cs = some r := A_run T_laws_eqEnt h
theorem runE_laws_eqEnt {cs : List CV} {X : List CV → List CV → Prop} (h : Run G A laws_eqEnt.b (params 0 cs) [] (QE true [.V, .V] [.tmp 4] X)) : ∃ rs os, A 82 cs = some (rs, os) ∧ X rs os := A_runE T_laws_eqEnt h
theorem run_laws_eqTask {cs : List CV} {r : List CV × List CV} (h : Run G A laws_eqTask.b (params 0 cs) [] (QF true [.V, .V] [.tmp 4] r)) : A 83 cs = some r := A_run T_laws_eqTask h
theorem runE_laws_eqTask {cs : List CV} {X : List CV → List CV → Prop} (h : Run G A laws_eqTask.b (params 0 cs) [] (QE true [.V, .V] [.tmp 4] X)) : ∃ rs os, A 83 cs = some (rs, os) ∧ X rs os := A_runE T_laws_eqTask h
theorem run_laws_markStringS {cs : List CV} {r : List CV × List CV} (h : Run G A laws_markStringS.b (params 0 cs) [] (QF true [.M, .V] [.tmp 4] r)) : A 19 cs = some r := A_run T_laws_markStringS h
theorem runE_laws_markStringS {cs : List CV} {X : List CV → List CV → Prop} (h : Run G A laws_markStringS.b (params 0 cs) [] (QE true [.M, .V] [.tmp 4] X)) : ∃ rs os, A 19 cs = some (rs, os) ∧ X rs os := A_runE T_laws_markStringS h
theorem run_laws_markCellS {cs : List CV} {r : List CV × List CV} (h : Run G A laws_markCellS.b (params 0 cs) [] (QF true [.M, .V] [.tmp 4] r)) : A 31 cs = some r := A_run T_laws_markCellS h
theorem runE_laws_markCellS {cs : List CV} {X : List CV → List CV → Prop} (h : Run G A laws_markCellS.b (params 0 cs) [] (QE true [.M, .V] [.tmp 4] X)) : ∃ rs os, A 31 cs = some (rs, os) ∧ X rs os := A_runE T_laws_markCellS h
theorem run_laws_markInstS {cs : List CV} {r : List CV × List CV} (h : Run G A laws_markInstS.b (params 0 cs) [] (QF true [.M, .V] [.tmp 4] r)) : A 32 cs = some r := A_run T_laws_markInstS h
theorem runE_laws_markInstS {cs : List CV} {X : List CV → List CV → Prop} (h : Run G A laws_markInstS.b (params 0 cs) [] (QE true [.M, .V] [.tmp 4] X)) : ∃ rs os, A 32 cs = some (rs, os) ∧ X rs os := A_runE T_laws_markInstS h
theorem run_laws_markUnitS {cs : List CV} {r : List CV × List CV} (h : Run G A laws_markUnitS.b (params 0 cs) [] (QF true [.M, .V] [.tmp 4] r)) : A 33 cs = some r := A_run T_laws_markUnitS h
theorem runE_laws_markUnitS {cs : List CV} {X : List CV → List CV → Prop} (h : Run G A laws_markUnitS.b (params 0 cs) [] (QE true [.M, .V] [.tmp 4] X)) : ∃ rs os, A 33 cs = some (rs, os) ∧ X rs os := A_runE T_laws_markUnitS h
theorem run_laws_markText {cs : List CV} {r : List CV × List CV} (h : Run G A laws_markText.b (params 0 cs) [] (QF true [.V] [.tmp 2] r)) : A 48 cs = some r := A_run T_laws_markText h
theorem runE_laws_markText {cs : List CV} {X : List CV → List CV → Prop} (h : Run G A laws_markText.b (params 0 cs) [] (QE true [.V] [.tmp 2] X)) : ∃ rs os, A 48 cs = some (rs, os) ∧ X rs os := A_runE T_laws_markText h
theorem run_laws_markTypeS {cs : List CV} {r : List CV × List CV} (h : Run G A laws_markTypeS.b (params 0 cs) [] (QF true [.M, .V] [.tmp 4] r)) : A 49 cs = some r := A_run T_laws_markTypeS h
theorem runE_laws_markTypeS {cs : List CV} {X : List CV → List CV → Prop} (h : Run G A laws_markTypeS.b (params 0 cs) [] (QE true [.M, .V] [.tmp 4] X)) : ∃ rs os, A 49 cs = some (rs, os) ∧ X rs os := A_runE T_laws_markTypeS h
theorem run_laws_markDefS {cs : List CV} {r : List CV × List CV} (h : Run G A laws_markDefS.b (params 0 cs) [] (QF true [.M, .V] [.tmp 4] r)) : A 50 cs = some r := A_run T_laws_markDefS h
theorem runE_laws_markDefS {cs : List CV} {X : List CV → List CV → Prop} (h : Run G A laws_markDefS.b (params 0 cs) [] (QE true [.M, .V] [.tmp 4] X)) : ∃ rs os, A 50 cs = some (rs, os) ∧ X rs os := A_runE T_laws_markDefS h
theorem run_laws_markBindS {cs : List CV} {r : List CV × List CV} (h : Run G A laws_markBindS.b (params 0 cs) [] (QF true [.M, .V] [.tmp 4] r)) : A 84 cs = some r := A_run T_laws_markBindS h
theorem runE_laws_markBindS {cs : List CV} {X : List CV → List CV → Prop} (h : Run G A laws_markBindS.b (params 0 cs) [] (QE true [.M, .V] [.tmp 4] X)) : ∃ rs os, A 84 cs = some (rs, os) ∧ X rs os := A_runE T_laws_markBindS h
theorem run_laws_markFrameS {cs : List CV} {r : List CV × List CV} (h : Run G A laws_markFrameS.b (params 0 cs) [] (QF true [.M, .V] [.tmp 4] r)) : A 85 cs = some r := A_run T_laws_markFrameS h
theorem runE_laws_markFrameS {cs : List CV} {X : List CV → List CV → Prop} (h : Run G A laws_markFrameS.b (params 0 cs) [] (QE true [.M, .V] [.tmp 4] X)) : ∃ rs os, A 85 cs = some (rs, os) ∧ X rs os := A_runE T_laws_markFrameS h
theorem run_laws_heldStringS {cs : List CV} {r : List CV × List CV} (h : Run G A laws_heldStringS.b (params 0 cs) [] (QF true [.V, .V] [.tmp 4] r)) : A 20 cs = some r := A_run T_laws_heldStringS h
theorem runE_laws_heldStringS {cs : List CV} {X : List CV → List CV → Prop} (h : Run G A laws_heldStringS.b (params 0 cs) [] (QE true [.V, .V] [.tmp 4] X)) : ∃ rs os, A 20 cs = some (rs, os) ∧ X rs os := A_runE T_laws_heldStringS h
theorem run_laws_heldCellS {cs : List CV} {r : List CV × List CV} (h : Run G A laws_heldCellS.b (params 0 cs) [] (QF true [.V, .V] [.tmp 4] r)) : A 34 cs = some r := A_run T_laws_heldCellS h
theorem runE_laws_heldCellS {cs : List CV} {X : List CV → List CV → Prop} (h : Run G A laws_heldCellS.b (params 0 cs) [] (QE true [.V, .V] [.tmp 4] X)) : ∃ rs os, A 34 cs = some (rs, os) ∧ X rs os := A_runE T_laws_heldCellS h
theorem run_laws_heldInstS {cs : List CV} {r : List CV × List CV} (h : Run G A laws_heldInstS.b (params 0 cs) [] (QF true [.V, .V] [.tmp 4] r)) : A 35 cs = some r := A_run T_laws_heldInstS h
theorem runE_laws_heldInstS {cs : List CV} {X : List CV → List CV → Prop} (h : Run G A laws_heldInstS.b (params 0 cs) [] (QE true [.V, .V] [.tmp 4] X)) : ∃ rs os, A 35 cs = some (rs, os) ∧ X rs os := A_runE T_laws_heldInstS h
theorem run_laws_heldUnitS {cs : List CV} {r : List CV × List CV} (h : Run G A laws_heldUnitS.b (params 0 cs) [] (QF true [.V, .V] [.tmp 4] r)) : A 36 cs = some r := A_run T_laws_heldUnitS h
theorem runE_laws_heldUnitS {cs : List CV} {X : List CV → List CV → Prop} (h : Run G A laws_heldUnitS.b (params 0 cs) [] (QE true [.V, .V] [.tmp 4] X)) : ∃ rs os, A 36 cs = some (rs, os) ∧ X rs os := A_runE T_laws_heldUnitS h
theorem run_laws_heldTypeS {cs : List CV} {r : List CV × List CV} (h : Run G A laws_heldTypeS.b (params 0 cs) [] (QF true [.V, .V] [.tmp 4] r)) : A 66 cs = some r := A_run T_laws_heldTypeS h
theorem runE_laws_heldTypeS {cs : List CV} {X : List CV → List CV → Prop} (h : Run G A laws_heldTypeS.b (params 0 cs) [] (QE true [.V, .V] [.tmp 4] X)) : ∃ rs os, A 66 cs = some (rs, os) ∧ X rs os := A_runE T_laws_heldTypeS h
theorem run_laws_heldDefS {cs : List CV} {r : List CV × List CV} (h : Run G A laws_heldDefS.b (params 0 cs) [] (QF true [.V, .V] [.tmp 4] r)) : A 86 cs = some r := A_run T_laws_heldDefS h
theorem runE_laws_heldDefS {cs : List CV} {X : List CV → List CV → Prop} (h : Run G A laws_heldDefS.b (params 0 cs) [] (QE true [.V, .V] [.tmp 4] X)) : ∃ rs os, A 86 cs = some (rs, os) ∧ X rs os := A_runE T_laws_heldDefS h
theorem run_laws_heldBindS {cs : List CV} {r : List CV × List CV} (h : Run G A laws_heldBindS.b (params 0 cs) [] (QF true [.V, .V] [.tmp 4] r)) : A 87 cs = some r := A_run T_laws_heldBindS h
theorem runE_laws_heldBindS {cs : List CV} {X : List CV → List CV → Prop} (h : Run G A laws_heldBindS.b (params 0 cs) [] (QE true [.V, .V] [.tmp 4] X)) : ∃ rs os, A 87 cs = some (rs, os) ∧ X rs os := A_runE T_laws_heldBindS h
theorem run_laws_heldFrameS {cs : List CV} {r : List CV × List CV} (h : Run G A laws_heldFrameS.b (params 0 cs) [] (QF true [.V, .V] [.tmp 4] r)) : A 88 cs = some r := A_run T_laws_heldFrameS h
theorem runE_laws_heldFrameS {cs : List CV} {X : List CV → List CV → Prop} (h : Run G A laws_heldFrameS.b (params 0 cs) [] (QE true [.V, .V] [.tmp 4] X)) : ∃ rs os, A 88 cs = some (rs, os) ∧ X rs os := A_runE T_laws_heldFrameS h
theorem run_laws_eqCell {cs : List CV} {r : List CV × List CV} (h : Run G A laws_eqCell.b (params 0 cs) [] (QF true [.V, .V] [.tmp 4] r)) : A 58 cs = some r := A_run T_laws_eqCell h
theorem runE_laws_eqCell {cs : List CV} {X : List CV → List CV → Prop} (h : Run G A laws_eqCell.b (params 0 cs) [] (QE true [.V, .V] [.tmp 4] X)) : ∃ rs os, A 58 cs = some (rs, os) ∧ X rs os := A_runE T_laws_eqCell h
theorem run_laws_eqInst {cs : List CV} {r : List CV × List CV} (h : Run G A laws_eqInst.b (params 0 cs) [] (QF true [.V, .V] [.tmp 4] r)) : A 59 cs = some r := A_run T_laws_eqInst h
theorem runE_laws_eqInst {cs : List CV} {X : List CV → List CV → Prop} (h : Run G A laws_eqInst.b (params 0 cs) [] (QE true [.V, .V] [.tmp 4] X)) : ∃ rs os, A 59 cs = some (rs, os) ∧ X rs os := A_runE T_laws_eqInst h
theorem run_laws_eqUnit {cs : List CV} {r : List CV × List CV} (h : Run G A laws_eqUnit.b (params 0 cs) [] (QF true [.V, .V] [.tmp 4] r)) : A 60 cs = some r := A_run T_laws_eqUnit h
theorem runE_laws_eqUnit {cs : List CV} {X : List CV → List CV → Prop} (h : Run G A laws_eqUnit.b (params 0 cs) [] (QE true [.V, .V] [.tmp 4] X)) : ∃ rs os, A 60 cs = some (rs, os) ∧ X rs os := A_runE T_laws_eqUnit h
theorem run_laws_eqSrc {cs : List CV} {r : List CV × List CV} (h : Run G A laws_eqSrc.b (params 0 cs) [] (QF true [.V, .V] [.tmp 4] r)) : A 47 cs = some r := A_run T_laws_eqSrc h
theorem runE_laws_eqSrc {cs : List CV} {X : List CV → List CV → Prop} (h : Run G A laws_eqSrc.b (params 0 cs) [] (QE true [.V, .V] [.tmp 4] X)) : ∃ rs os, A 47 cs = some (rs, os) ∧ X rs os := A_runE T_laws_eqSrc h
theorem run_laws_eqMachine {cs : List CV} {r : List CV × List CV} (h : Run G A laws_eqMachine.b (params 0 cs) [] (QF true [.V, .V] [.tmp 4] r)) : A 111 cs = some r := A_run T_laws_eqMachine h
theorem runE_laws_eqMachine {cs : List CV} {X : List CV → List CV → Prop} (h : Run G A laws_eqMachine.b (params 0 cs) [] (QE true [.V, .V] [.tmp 4] X)) : ∃ rs os, A 111 cs = some (rs, os) ∧ X rs os := A_runE T_laws_eqMachine h
theorem run_laws_markValueS {cs : List CV} {r : List CV × List CV} (h : Run G A laws_markValueS.b (params 0 cs) [] (QF true [.M, .V] [.tmp 4] r)) : A 61 cs = some r := A_run T_laws_markValueS h
theorem runE_laws_markValueS {cs : List CV} {X : List CV → List CV → Prop} (h : Run G A laws_markValueS.b (params 0 cs) [] (QE true [.M, .V] [.tmp 4] X)) : ∃ rs os, A 61 cs = some (rs, os) ∧ X rs os := A_runE T_laws_markValueS h
theorem run_laws_markLinkS {cs : List CV} {r : List CV × List CV} (h : Run G A laws_markLinkS.b (params 0 cs) [] (QF true [.M, .V] [.tmp 4] r)) : A 62 cs = some r := A_run T_laws_markLinkS h
theorem runE_laws_markLinkS {cs : List CV} {X : List CV → List CV → Prop} (h : Run G A laws_markLinkS.b (params 0 cs) [] (QE true [.M, .V] [.tmp 4] X)) : ∃ rs os, A 62 cs = some (rs, os) ∧ X rs os := A_runE T_laws_markLinkS h
theorem run_laws_markNodeS {cs : List CV} {r : List CV × List CV} (h : Run G A laws_markNodeS.b (params 0 cs) [] (QF true [.M, .V] [.tmp 4] r)) : A 63 cs = some r := A_run T_laws_markNodeS h
theorem runE_laws_markNodeS {cs : List CV} {X : List CV → List CV → Prop} (h : Run G A laws_markNodeS.b (params 0 cs) [] (QE true [.M, .V] [.tmp 4] X)) : ∃ rs os, A 63 cs = some (rs, os) ∧ X rs os := A_runE T_laws_markNodeS h
theorem run_laws_heldValueS {cs : List CV} {r : List CV × List CV} (h : Run G A laws_heldValueS.b (params 0 cs) [] (QF true [.V, .V] [.tmp 4] r)) : A 64 cs = some r := A_run T_laws_heldValueS h
theorem runE_laws_heldValueS {cs : List CV} {X : List CV → List CV → Prop} (h : Run G A laws_heldValueS.b (params 0 cs) [] (QE true [.V, .V] [.tmp 4] X)) : ∃ rs os, A 64 cs = some (rs, os) ∧ X rs os := A_runE T_laws_heldValueS h
theorem run_laws_heldLinkS {cs : List CV} {r : List CV × List CV} (h : Run G A laws_heldLinkS.b (params 0 cs) [] (QF true [.V, .V] [.tmp 4] r)) : A 65 cs = some r := A_run T_laws_heldLinkS h
theorem runE_laws_heldLinkS {cs : List CV} {X : List CV → List CV → Prop} (h : Run G A laws_heldLinkS.b (params 0 cs) [] (QE true [.V, .V] [.tmp 4] X)) : ∃ rs os, A 65 cs = some (rs, os) ∧ X rs os := A_runE T_laws_heldLinkS h
theorem run_laws_heldNodeS {cs : List CV} {r : List CV × List CV} (h : Run G A laws_heldNodeS.b (params 0 cs) [] (QF true [.V, .V] [.tmp 4] r)) : A 67 cs = some r := A_run T_laws_heldNodeS h
theorem runE_laws_heldNodeS {cs : List CV} {X : List CV → List CV → Prop} (h : Run G A laws_heldNodeS.b (params 0 cs) [] (QE true [.V, .V] [.tmp 4] X)) : ∃ rs os, A 67 cs = some (rs, os) ∧ X rs os := A_runE T_laws_heldNodeS h
theorem run_laws_eqValueS {cs : List CV} {r : List CV × List CV} (h : Run G A laws_eqValueS.b (params 0 cs) [] (QF true [.V, .V] [.tmp 4] r)) : A 89 cs = some r := A_run T_laws_eqValueS h
theorem runE_laws_eqValueS {cs : List CV} {X : List CV → List CV → Prop} (h : Run G A laws_eqValueS.b (params 0 cs) [] (QE true [.V, .V] [.tmp 4] X)) : ∃ rs os, A 89 cs = some (rs, os) ∧ X rs os := A_runE T_laws_eqValueS h
theorem run_laws_eqTypeS {cs : List CV} {r : List CV × List CV} (h : Run G A laws_eqTypeS.b (params 0 cs) [] (QF true [.V, .V] [.tmp 4] r)) : A 79 cs = some r := A_run T_laws_eqTypeS h
theorem runE_laws_eqTypeS {cs : List CV} {X : List CV → List CV → Prop} (h : Run G A laws_eqTypeS.b (params 0 cs) [] (QE true [.V, .V] [.tmp 4] X)) : ∃ rs os, A 79 cs = some (rs, os) ∧ X rs os := A_runE T_laws_eqTypeS h
theorem run_laws_eqLinkS {cs : List CV} {r : List CV × List CV} (h : Run G A laws_eqLinkS.b (params 0 cs) [] (QF true [.V, .V] [.tmp 4] r)) : A 90 cs = some r := A_run T_laws_eqLinkS h
theorem runE_laws_eqLinkS {cs : List CV} {X : List CV → List CV → Prop} (h : Run G A laws_eqLinkS.b (params 0 cs) [] (QE true [.V, .V] [.tmp 4] X)) : ∃ rs os, A 90 cs = some (rs, os) ∧ X rs os := A_runE T_laws_eqLinkS h
theorem run_laws_eqProg {cs : List CV} {r : List CV × List CV} (h : Run G A laws_eqProg.b (params 0 cs) [] (QF true [.V, .V] [.tmp 4] r)) : A 91 cs = some r := A_run T_laws_eqProg h
theorem runE_laws_eqProg {cs : List CV} {X : List CV → List CV → Prop} (h : Run G A laws_eqProg.b (params 0 cs) [] (QE true [.V, .V] [.tmp 4] X)) : ∃ rs os, A 91 cs = some (rs, os) ∧ X rs os := A_runE T_laws_eqProg h
theorem run_laws_eqDefS {cs : List CV} {r : List CV × List CV} (h : Run G A laws_eqDefS.b (params 0 cs) [] (QF true [.V, .V] [.tmp 4] r)) : A 80 cs = some r := A_run T_laws_eqDefS h
theorem runE_laws_eqDefS {cs : List CV} {X : List CV → List CV → Prop} (h : Run G A laws_eqDefS.b (params 0 cs) [] (QE true [.V, .V] [.tmp 4] X)) : ∃ rs os, A 80 cs = some (rs, os) ∧ X rs os := A_runE T_laws_eqDefS h
theorem run_laws_eqValue {cs : List CV} {r : List CV × List CV} (h : Run G A laws_eqValue.b (params 0 cs) [] (QF true [.V, .V] [.tmp 4] r)) : A 112 cs = some r := A_run T_laws_eqValue h
theorem runE_laws_eqValue {cs : List CV} {X : List CV → List CV → Prop} (h : Run G A laws_eqValue.b (params 0 cs) [] (QE true [.V, .V] [.tmp 4] X)) : ∃ rs os, A 112 cs = some (rs, os) ∧ X rs os := A_runE T_laws_eqValue h
theorem run_laws_eqBindS {cs : List CV} {r : List CV × List CV} (h : Run G A laws_eqBindS.b (params 0 cs) [] (QF true [.V, .V] [.tmp 4] r)) : A 123 cs = some r := A_run T_laws_eqBindS h
theorem runE_laws_eqBindS {cs : List CV} {X : List CV → List CV → Prop} (h : Run G A laws_eqBindS.b (params 0 cs) [] (QE true [.V, .V] [.tmp 4] X)) : ∃ rs os, A 123 cs = some (rs, os) ∧ X rs os := A_runE T_laws_eqBindS h
theorem run_laws_eqFrameS {cs : List CV} {r : List CV × List CV} (h : Run G A laws_eqFrameS.b (params 0 cs) [] (QF true [.V, .V] [.tmp 4] r)) : A 124 cs = some r := A_run T_laws_eqFrameS h
theorem runE_laws_eqFrameS {cs : List CV} {X : List CV → List CV → Prop} (h : Run G A laws_eqFrameS.b (params 0 cs) [] (QE true [.V, .V] [.tmp 4] X)) : ∃ rs os, A 124 cs = some (rs, os) ∧ X rs os := A_runE T_laws_eqFrameS h
theorem run_laws_markIntS {cs : List CV} {r : List CV × List CV} (h : Run G A laws_markIntS.b (params 0 cs) [] (QF true [.M, .V] [.tmp 4] r)) : A 92 cs = some r := A_run T_laws_markIntS h
theorem runE_laws_markIntS {cs : List CV} {X : List CV → List CV → Prop} (h : Run G A laws_markIntS.b (params 0 cs) [] (QE true [.M, .V] [.tmp 4] X)) : ∃ rs os, A 92 cs = some (rs, os) ∧ X rs os := A_runE T_laws_markIntS h
theorem run_laws_heldIntS {cs : List CV} {r : List CV × List CV} (h : Run G A laws_heldIntS.b (params 0 cs) [] (QF true [.V, .V] [.tmp 4] r)) : A 93 cs = some r := A_run T_laws_heldIntS h
theorem runE_laws_heldIntS {cs : List CV} {X : List CV → List CV → Prop} (h : Run G A laws_heldIntS.b (params 0 cs) [] (QE true [.V, .V] [.tmp 4] X)) : ∃ rs os, A 93 cs = some (rs, os) ∧ X rs os := A_runE T_laws_heldIntS h
theorem run_laws_eqType {cs : List CV} {r : List CV × List CV} (h : Run G A laws_eqType.b (params 0 cs) [] (QF true [.V, .V] [.tmp 4] r)) : A 109 cs = some r := A_run T_laws_eqType h
theorem runE_laws_eqType {cs : List CV} {X : List CV → List CV → Prop} (h : Run G A laws_eqType.b (params 0 cs) [] (QE true [.V, .V] [.tmp 4] X)) : ∃ rs os, A 109 cs = some (rs, os) ∧ X rs os := A_runE T_laws_eqType h
theorem run_laws_eqLink {cs : List CV} {r : List CV × List CV} (h : Run G A laws_eqLink.b (params 0 cs) [] (QF true [.V, .V] [.tmp 4] r)) : A 113 cs = some r := A_run T_laws_eqLink h
theorem runE_laws_eqLink {cs : List CV} {X : List CV → List CV → Prop} (h : Run G A laws_eqLink.b (params 0 cs) [] (QE true [.V, .V] [.tmp 4] X)) : ∃ rs os, A 113 cs = some (rs, os) ∧ X rs os := A_runE T_laws_eqLink h
theorem run_laws_eqNodeS {cs : List CV} {r : List CV × List CV} (h : Run G A laws_eqNodeS.b (params 0 cs) [] (QF true [.V, .V] [.tmp 4] r)) : A 114 cs = some r := A_run T_laws_eqNodeS h
theorem runE_laws_eqNodeS {cs : List CV} {X : List CV → List CV → Prop} (h : Run G A laws_eqNodeS.b (params 0 cs) [] (QE true [.V, .V] [.tmp 4] X)) : ∃ rs os, A 114 cs = some (rs, os) ∧ X rs os := A_runE T_laws_eqNodeS h
theorem run_laws_eqDef {cs : List CV} {r : List CV × List CV} (h : Run G A laws_eqDef.b (params 0 cs) [] (QF true [.V, .V] [.tmp 4] r)) : A 110 cs = some r := A_run T_laws_eqDef h
theorem runE_laws_eqDef {cs : List CV} {X : List CV → List CV → Prop} (h : Run G A laws_eqDef.b (params 0 cs) [] (QE true [.V, .V] [.tmp 4] X)) : ∃ rs os, A 110 cs = some (rs, os) ∧ X rs os := A_runE T_laws_eqDef h
theorem run_laws_eqBind {cs : List CV} {r : List CV × List CV} (h : Run G A laws_eqBind.b (params 0 cs) [] (QF true [.V, .V] [.tmp 4] r)) : A 129 cs = some r := A_run T_laws_eqBind h
theorem runE_laws_eqBind {cs : List CV} {X : List CV → List CV → Prop} (h : Run G A laws_eqBind.b (params 0 cs) [] (QE true [.V, .V] [.tmp 4] X)) : ∃ rs os, A 129 cs = some (rs, os) ∧ X rs os := A_runE T_laws_eqBind h
theorem run_laws_eqFrame {cs : List CV} {r : List CV × List CV} (h : Run G A laws_eqFrame.b (params 0 cs) [] (QF true [.V, .V] [.tmp 4] r)) : A 130 cs = some r := A_run T_laws_eqFrame h
theorem runE_laws_eqFrame {cs : List CV} {X : List CV → List CV → Prop} (h : Run G A laws_eqFrame.b (params 0 cs) [] (QE true [.V, .V] [.tmp 4] X)) : ∃ rs os, A 130 cs = some (rs, os) ∧ X rs os := A_runE T_laws_eqFrame h
theorem run_laws_eqNode {cs : List CV} {r : List CV × List CV} (h : Run G A laws_eqNode.b (params 0 cs) [] (QF true [.V, .V] [.tmp 4] r)) : A 125 cs = some r := A_run T_laws_eqNode h
theorem runE_laws_eqNode {cs : List CV} {X : List CV → List CV → Prop} (h : Run G A laws_eqNode.b (params 0 cs) [] (QE true [.V, .V] [.tmp 4] X)) : ∃ rs os, A 125 cs = some (rs, os) ∧ X rs os := A_runE T_laws_eqNode h
theorem run_laws_eqIntS {cs : List CV} {r : List CV × List CV} (h : Run G A laws_eqIntS.b (params 0 cs) [] (QF true [.V, .V] [.tmp 4] r)) : A 131 cs = some r := A_run T_laws_eqIntS h
theorem runE_laws_eqIntS {cs : List CV} {X : List CV → List CV → Prop} (h : Run G A laws_eqIntS.b (params 0 cs) [] (QE true [.V, .V] [.tmp 4] X)) : ∃ rs os, A 131 cs = some (rs, os) ∧ X rs os := A_runE T_laws_eqIntS h
end Go.Proofs.Ytdoelepflcaijaa.NewWorld
