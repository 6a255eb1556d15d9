/- The table of the functions. -/
import Derived.Test.YticecjjfbjnaaaaNEFn0
import Derived.Test.YticecjjfbjnaaaaEngM7
import Derived.Test.YticecjjfbjnaaaaEngPDel
import Derived.Test.YticecjjfbjnaaaaEngPSort
namespace Go.Proofs.Yticecjjfbjnaaaa.NE
open Go Go.VS
set_option maxRecDepth 100000
set_option linter.unusedVariables false
set_option linter.unusedSimpArgs false
noncomputable def tab : List (Entry Try.prog) := [⟨3, laws_FnExactNeeds, Try.f3, Try.func3, laws_FnExactNeeds.turned⟩,
  ⟨5, laws_szSrcS, Try.f5, Try.func5, laws_szSrcS.turned⟩,
  ⟨6, spec_Needs, Try.f6, Try.func6, spec_Needs.turned⟩,
  ⟨7, laws_toSrcS, Try.f7, Try.func7, laws_toSrcS.turned⟩,
  ⟨8, impl_Needs, Try.f8, Try.func8, impl_Needs.turned⟩,
  ⟨9, laws_eqStringS, Try.f9, Try.func9, laws_eqStringS.turned⟩,
  ⟨10, laws_eqSrcS, Try.f10, Try.func10, laws_eqSrcS.turned⟩,
  ⟨11, laws_markSrcS, Try.f11, Try.func11, laws_markSrcS.turned⟩,
  ⟨12, laws_markStringS, Try.f12, Try.func12, laws_markStringS.turned⟩,
  ⟨13, laws_heldStringS, Try.f13, Try.func13, laws_heldStringS.turned⟩,
  ⟨16, laws_szSrc, Try.f16, Try.func16, laws_szSrc.turned⟩,
  ⟨17, spec_l12At, Try.f17, Try.func17, spec_l12At.turned⟩,
  ⟨18, spec_l12Put, Try.f18, Try.func18, spec_l12Put.turned⟩,
  ⟨19, spec_l3In, Try.f19, Try.func19, spec_l3In.turned⟩,
  ⟨20, laws_toSrc, Try.f20, Try.func20, laws_toSrc.turned⟩,
  ⟨21, impl_srcAt, Try.f21, Try.func21, impl_srcAt.turned⟩,
  ⟨22, impl_addOnce, Try.f22, Try.func22, impl_addOnce.turned⟩,
  ⟨24, impl_Needs_1, Try.f24, Try.func24, impl_Needs_1.turned⟩,
  ⟨26, laws_eqSrc, Try.f26, Try.func26, laws_eqSrc.turned⟩,
  ⟨27, laws_markText, Try.f27, Try.func27, laws_markText.turned⟩,
  ⟨28, laws_markTypeS, Try.f28, Try.func28, laws_markTypeS.turned⟩,
  ⟨29, laws_markDefS, Try.f29, Try.func29, laws_markDefS.turned⟩,
  ⟨31, laws_szStringS, Try.f31, Try.func31, laws_szStringS.turned⟩,
  ⟨32, laws_szTypeS, Try.f32, Try.func32, laws_szTypeS.turned⟩,
  ⟨33, laws_szDefS, Try.f33, Try.func33, laws_szDefS.turned⟩,
  ⟨34, laws_toStringS, Try.f34, Try.func34, laws_toStringS.turned⟩,
  ⟨35, laws_toTypeS, Try.f35, Try.func35, laws_toTypeS.turned⟩,
  ⟨36, laws_toDefS, Try.f36, Try.func36, laws_toDefS.turned⟩,
  ⟨37, slices_IndexFunc_impl_Src_impl_Src, Try.f37, Try.func37, slices_IndexFunc_impl_Src_impl_Src.turned⟩,
  ⟨38, impl_srcAt_1, Try.f38, Try.func38, impl_srcAt_1.turned⟩,
  ⟨30, slices_Contains_string_string, Try.f30, Try.func30, slices_Contains_string_string.turned⟩,
  ⟨42, laws_eqTypeS, Try.f42, Try.func42, laws_eqTypeS.turned⟩,
  ⟨43, laws_eqDefS, Try.f43, Try.func43, laws_eqDefS.turned⟩,
  ⟨44, laws_markNodeS, Try.f44, Try.func44, laws_markNodeS.turned⟩,
  ⟨46, laws_szType, Try.f46, Try.func46, laws_szType.turned⟩,
  ⟨47, laws_szDef, Try.f47, Try.func47, laws_szDef.turned⟩,
  ⟨48, laws_toType, Try.f48, Try.func48, laws_toType.turned⟩,
  ⟨49, laws_toDef, Try.f49, Try.func49, laws_toDef.turned⟩,
  ⟨45, slices_Index_string_string, Try.f45, Try.func45, slices_Index_string_string.turned⟩,
  ⟨61, laws_eqType, Try.f61, Try.func61, laws_eqType.turned⟩,
  ⟨62, laws_eqDef, Try.f62, Try.func62, laws_eqDef.turned⟩,
  ⟨63, laws_markIntS, Try.f63, Try.func63, laws_markIntS.turned⟩,
  ⟨64, laws_szProg, Try.f64, Try.func64, laws_szProg.turned⟩,
  ⟨65, laws_toProg, Try.f65, Try.func65, laws_toProg.turned⟩,
  ⟨72, laws_eqProg, Try.f72, Try.func72, laws_eqProg.turned⟩,
  ⟨73, laws_szNodeS, Try.f73, Try.func73, laws_szNodeS.turned⟩,
  ⟨74, laws_toNodeS, Try.f74, Try.func74, laws_toNodeS.turned⟩,
  ⟨76, laws_eqNodeS, Try.f76, Try.func76, laws_eqNodeS.turned⟩,
  ⟨77, laws_szNode, Try.f77, Try.func77, laws_szNode.turned⟩,
  ⟨78, laws_toNode, Try.f78, Try.func78, laws_toNode.turned⟩,
  ⟨79, laws_eqNode, Try.f79, Try.func79, laws_eqNode.turned⟩,
  ⟨80, laws_szIntS, Try.f80, Try.func80, laws_szIntS.turned⟩,
  ⟨81, laws_toIntS, Try.f81, Try.func81, laws_toIntS.turned⟩,
  ⟨82, laws_eqIntS, Try.f82, Try.func82, laws_eqIntS.turned⟩]
noncomputable def ptab : List (PEntry Try.prog LaidX) := [prim_slices_DeleteFunc_string_string, prim_slices_Sort_string_string]
noncomputable def T : FuncId → Option VFn := tabT tab
noncomputable def G : Sigs := tabG tab ptab
noncomputable def A : Fns := lim G T (tabP ptab)
theorem A_run {f : FuncId} {vf : VFn} {cs : List CV} {r : List CV × List CV} (hT : T f = some vf) (h : Run G A vf.body (params 0 cs) [] (QF vf.sig.own vf.sig.modes vf.res r)) : A f cs = some r := lim_run hT h
theorem A_runE {f : FuncId} {vf : VFn} {cs : List CV} {X : List CV → List CV → Prop} (hT : T f = some vf) (h : Run G A vf.body (params 0 cs) [] (QE vf.sig.own vf.sig.modes vf.res X)) : ∃ rs os, A f cs = some (rs, os) ∧ X rs os := lim_runE hT h
theorem A_prim {f : FuncId} {cs : List CV} {r : List CV × List CV} (hT : T f = none) (h : tabP ptab f cs = some r) : A f cs = some r := lim_prim hT h
theorem A_answers {W : World} (hX : LaidX W) {f : FuncId} {g : Sig} {cs res outs : List CV} (hg : G f = some g) (h : A f cs = some (res, outs)) : Answers Try.prog W f cs res outs := lim_answers (tabT_ok tab ptab) (tabP_ok hX tab ptab) hg h
theorem T_laws_FnExactNeeds : T 3 = some laws_FnExactNeeds := by kernel_rfl
@[simp] theorem G_3 : G 3 = some ⟨[.V, .V], true⟩ := by kernel_rfl
theorem T_laws_szSrcS : T 5 = some laws_szSrcS := by kernel_rfl
@[simp] theorem G_5 : G 5 = some ⟨[.V, .V], true⟩ := by kernel_rfl
theorem T_spec_Needs : T 6 = some spec_Needs := by kernel_rfl
@[simp] theorem G_6 : G 6 = some ⟨[.V, .V], true⟩ := by kernel_rfl
theorem T_laws_toSrcS : T 7 = some laws_toSrcS := by kernel_rfl
@[simp] theorem G_7 : G 7 = some ⟨[.V], true⟩ := by kernel_rfl
theorem T_impl_Needs : T 8 = some impl_Needs := by kernel_rfl
@[simp] theorem G_8 : G 8 = some ⟨[.V, .V], true⟩ := by kernel_rfl
theorem T_laws_eqStringS : T 9 = some laws_eqStringS := by kernel_rfl
@[simp] theorem G_9 : G 9 = some ⟨[.V, .V], true⟩ := by kernel_rfl
theorem T_laws_eqSrcS : T 10 = some laws_eqSrcS := by kernel_rfl
@[simp] theorem G_10 : G 10 = some ⟨[.V, .V], true⟩ := by kernel_rfl
theorem T_laws_markSrcS : T 11 = some laws_markSrcS := by kernel_rfl
@[simp] theorem G_11 : G 11 = some ⟨[.M, .V], true⟩ := by kernel_rfl
theorem T_laws_markStringS : T 12 = some laws_markStringS := by kernel_rfl
@[simp] theorem G_12 : G 12 = some ⟨[.M, .V], true⟩ := by kernel_rfl
theorem T_laws_heldStringS : T 13 = some laws_heldStringS := by kernel_rfl
@[simp] theorem G_13 : G 13 = some ⟨[.V, .V], true⟩ := by kernel_rfl
theorem T_laws_szSrc : T 16 = some laws_szSrc := by kernel_rfl
@[simp] theorem G_16 : G 16 = some ⟨[.V, .V], true⟩ := by kernel_rfl
theorem T_spec_l12At : T 17 = some spec_l12At := by kernel_rfl
@[simp] theorem G_17 : G 17 = some ⟨[.V, .V], true⟩ := by kernel_rfl
theorem T_spec_l12Put : T 18 = some spec_l12Put := by kernel_rfl
@[simp] theorem G_18 : G 18 = some ⟨[.O, .V], true⟩ := by kernel_rfl
theorem T_spec_l3In : T 19 = some spec_l3In := by kernel_rfl
@[simp] theorem G_19 : G 19 = some ⟨[.V, .V], true⟩ := by kernel_rfl
theorem T_laws_toSrc : T 20 = some laws_toSrc := by kernel_rfl
@[simp] theorem G_20 : G 20 = some ⟨[.V], true⟩ := by kernel_rfl
theorem T_impl_srcAt : T 21 = some impl_srcAt := by kernel_rfl
@[simp] theorem G_21 : G 21 = some ⟨[.V, .V], true⟩ := by kernel_rfl
theorem T_impl_addOnce : T 22 = some impl_addOnce := by kernel_rfl
@[simp] theorem G_22 : G 22 = some ⟨[.O, .V], true⟩ := by kernel_rfl
theorem T_impl_Needs_1 : T 24 = some impl_Needs_1 := by kernel_rfl
@[simp] theorem G_24 : G 24 = some ⟨[.V, .M], true⟩ := by kernel_rfl
theorem T_laws_eqSrc : T 26 = some laws_eqSrc := by kernel_rfl
@[simp] theorem G_26 : G 26 = some ⟨[.V, .V], true⟩ := by kernel_rfl
theorem T_laws_markText : T 27 = some laws_markText := by kernel_rfl
@[simp] theorem G_27 : G 27 = some ⟨[.V], true⟩ := by kernel_rfl
theorem T_laws_markTypeS : T 28 = some laws_markTypeS := by kernel_rfl
@[simp] theorem G_28 : G 28 = some ⟨[.M, .V], true⟩ := by kernel_rfl
theorem T_laws_markDefS : T 29 = some laws_markDefS := by kernel_rfl
@[simp] theorem G_29 : G 29 = some ⟨[.M, .V], true⟩ := by kernel_rfl
theorem T_laws_szStringS : T 31 = some laws_szStringS := by kernel_rfl
@[simp] theorem G_31 : G 31 = some ⟨[.V, .V], true⟩ := by kernel_rfl
theorem T_laws_szTypeS : T 32 = some laws_szTypeS := by kernel_rfl
@[simp] theorem G_32 : G 32 = some ⟨[.V, .V], true⟩ := by kernel_rfl
theorem T_laws_szDefS : T 33 = some laws_szDefS := by kernel_rfl
@[simp] theorem G_33 : G 33 = some ⟨[.V, .V], true⟩ := by kernel_rfl
theorem T_laws_toStringS : T 34 = some laws_toStringS := by kernel_rfl
@[simp] theorem G_34 : G 34 = some ⟨[.V], true⟩ := by kernel_rfl
theorem T_laws_toTypeS : T 35 = some laws_toTypeS := by kernel_rfl
@[simp] theorem G_35 : G 35 = some ⟨[.V], true⟩ := by kernel_rfl
theorem T_laws_toDefS : T 36 = some laws_toDefS := by kernel_rfl
@[simp] theorem G_36 : G 36 = some ⟨[.V], true⟩ := by kernel_rfl
theorem T_slices_IndexFunc_impl_Src_impl_Src : T 37 = some slices_IndexFunc_impl_Src_impl_Src := by kernel_rfl
@[simp] theorem G_37 : G 37 = some ⟨[.V, .M], true⟩ := by kernel_rfl
theorem T_impl_srcAt_1 : T 38 = some impl_srcAt_1 := by kernel_rfl
@[simp] theorem G_38 : G 38 = some ⟨[.V, .M], true⟩ := by kernel_rfl
theorem T_slices_Contains_string_string : T 30 = some slices_Contains_string_string := by kernel_rfl
@[simp] theorem G_30 : G 30 = some ⟨[.V, .V], true⟩ := by kernel_rfl
theorem T_laws_eqTypeS : T 42 = some laws_eqTypeS := by kernel_rfl
@[simp] theorem G_42 : G 42 = some ⟨[.V, .V], true⟩ := by kernel_rfl
theorem T_laws_eqDefS : T 43 = some laws_eqDefS := by kernel_rfl
@[simp] theorem G_43 : G 43 = some ⟨[.V, .V], true⟩ := by kernel_rfl
theorem T_laws_markNodeS : T 44 = some laws_markNodeS := by kernel_rfl
@[simp] theorem G_44 : G 44 = some ⟨[.M, .V], true⟩ := by kernel_rfl
theorem T_laws_szType : T 46 = some laws_szType := by kernel_rfl
@[simp] theorem G_46 : G 46 = some ⟨[.V, .V], true⟩ := by kernel_rfl
theorem T_laws_szDef : T 47 = some laws_szDef := by kernel_rfl
@[simp] theorem G_47 : G 47 = some ⟨[.V, .V], true⟩ := by kernel_rfl
theorem T_laws_toType : T 48 = some laws_toType := by kernel_rfl
@[simp] theorem G_48 : G 48 = some ⟨[.V], true⟩ := by kernel_rfl
theorem T_laws_toDef : T 49 = some laws_toDef := by kernel_rfl
@[simp] theorem G_49 : G 49 = some ⟨[.V], true⟩ := by kernel_rfl
theorem T_slices_Index_string_string : T 45 = some slices_Index_string_string := by kernel_rfl
@[simp] theorem G_45 : G 45 = some ⟨[.V, .V], true⟩ := by kernel_rfl
theorem T_laws_eqType : T 61 = some laws_eqType := by kernel_rfl
@[simp] theorem G_61 : G 61 = some ⟨[.V, .V], true⟩ := by kernel_rfl
theorem T_laws_eqDef : T 62 = some laws_eqDef := by kernel_rfl
@[simp] theorem G_62 : G 62 = some ⟨[.V, .V], true⟩ := by kernel_rfl
theorem T_laws_markIntS : T 63 = some laws_markIntS := by kernel_rfl
@[simp] theorem G_63 : G 63 = some ⟨[.M, .V], true⟩ := by kernel_rfl
theorem T_laws_szProg : T 64 = some laws_szProg := by kernel_rfl
@[simp] theorem G_64 : G 64 = some ⟨[.V, .V], true⟩ := by kernel_rfl
theorem T_laws_toProg : T 65 = some laws_toProg := by kernel_rfl
@[simp] theorem G_65 : G 65 = some ⟨[.V], true⟩ := by kernel_rfl
theorem T_laws_eqProg : T 72 = some laws_eqProg := by kernel_rfl
@[simp] theorem G_72 : G 72 = some ⟨[.V, .V], true⟩ := by kernel_rfl
theorem T_laws_szNodeS : T 73 = some laws_szNodeS := by kernel_rfl
@[simp] theorem G_73 : G 73 = some ⟨[.V, .V], true⟩ := by kernel_rfl
theorem T_laws_toNodeS : T 74 = some laws_toNodeS := by kernel_rfl
@[simp] theorem G_74 : G 74 = some ⟨[.V], true⟩ := by kernel_rfl
theorem T_laws_eqNodeS : T 76 = some laws_eqNodeS := by kernel_rfl
@[simp] theorem G_76 : G 76 = some ⟨[.V, .V], true⟩ := by kernel_rfl
theorem T_laws_szNode : T 77 = some laws_szNode := by kernel_rfl
@[simp] theorem G_77 : G 77 = some ⟨[.V, .V], true⟩ := by kernel_rfl
theorem T_laws_toNode : T 78 = some laws_toNode := by kernel_rfl
@[simp] theorem G_78 : G 78 = some ⟨[.V], true⟩ := by kernel_rfl
theorem T_laws_eqNode : T 79 = some laws_eqNode := by kernel_rfl
@[simp] theorem G_79 : G 79 = some ⟨[.V, .V], true⟩ := by kernel_rfl
theorem T_laws_szIntS : T 80 = some laws_szIntS := by kernel_rfl
@[simp] theorem G_80 : G 80 = some ⟨[.V, .V], true⟩ := by kernel_rfl
theorem T_laws_toIntS : T 81 = some laws_toIntS := by kernel_rfl
@[simp] theorem G_81 : G 81 = some ⟨[.V], true⟩ := by kernel_rfl
theorem T_laws_eqIntS : T 82 = some laws_eqIntS := by kernel_rfl
@[simp] theorem G_82 : G 82 = some ⟨[.V, .V], true⟩ := by kernel_rfl
theorem run_laws_FnExactNeeds {cs : List CV} {r : List CV × List CV} (h : Run G A laws_FnExactNeeds.b (params 0 cs) [] (QF true [.V, .V] [.tmp 4] r)) : A 3 cs = some r := A_run T_laws_FnExactNeeds h
theorem run_laws_szSrcS {cs : List CV} {r : List CV × List CV} (h : Run G A laws_szSrcS.b (params 0 cs) [] (QF true [.V, .V] [.tmp 4] r)) : A 5 cs = some r := A_run T_laws_szSrcS h
theorem run_spec_Needs {cs : List CV} {r : List CV × List CV} (h : Run G A spec_Needs.b (params 0 cs) [] (QF true [.V, .V] [.tmp 4] r)) : A 6 cs = some r := A_run T_spec_Needs h
theorem run_laws_toSrcS {cs : List CV} {r : List CV × List CV} (h : Run G A laws_toSrcS.b (params 0 cs) [] (QF true [.V] [.tmp 2] r)) : A 7 cs = some r := A_run T_laws_toSrcS h
theorem run_impl_Needs {cs : List CV} {r : List CV × List CV} (h : Run G A impl_Needs.b (params 0 cs) [] (QF true [.V, .V] [.tmp 4] r)) : A 8 cs = some r := A_run T_impl_Needs h
theorem run_laws_eqStringS {cs : List CV} {r : List CV × List CV} (h : Run G A laws_eqStringS.b (params 0 cs) [] (QF true [.V, .V] [.tmp 4] r)) : A 9 cs = some r := A_run T_laws_eqStringS h
theorem run_laws_eqSrcS {cs : List CV} {r : List CV × List CV} (h : Run G A laws_eqSrcS.b (params 0 cs) [] (QF true [.V, .V] [.tmp 4] r)) : A 10 cs = some r := A_run T_laws_eqSrcS h
theorem run_laws_markSrcS {cs : List CV} {r : List CV × List CV} (h : Run G A laws_markSrcS.b (params 0 cs) [] (QF true [.M, .V] [.tmp 4] r)) : A 11 cs = some r := A_run T_laws_markSrcS h
theorem run_laws_markStringS {cs : List CV} {r : List CV × List CV} (h : Run G A laws_markStringS.b (params 0 cs) [] (QF true [.M, .V] [.tmp 4] r)) : A 12 cs = some r := A_run T_laws_markStringS h
theorem run_laws_heldStringS {cs : List CV} {r : List CV × List CV} (h : Run G A laws_heldStringS.b (params 0 cs) [] (QF true [.V, .V] [.tmp 4] r)) : A 13 cs = some r := A_run T_laws_heldStringS h
theorem run_laws_szSrc {cs : List CV} {r : List CV × List CV} (h : Run G A laws_szSrc.b (params 0 cs) [] (QF true [.V, .V] [.tmp 4] r)) : A 16 cs = some r := A_run T_laws_szSrc h
theorem run_spec_l12At {cs : List CV} {r : List CV × List CV} (h : Run G A spec_l12At.b (params 0 cs) [] (QF true [.V, .V] [.tmp 4] r)) : A 17 cs = some r := A_run T_spec_l12At h
theorem run_spec_l12Put {cs : List CV} {r : List CV × List CV} (h : Run G A spec_l12Put.b (params 0 cs) [] (QF true [.O, .V] [.tmp 4] r)) : A 18 cs = some r := A_run T_spec_l12Put h
theorem run_spec_l3In {cs : List CV} {r : List CV × List CV} (h : Run G A spec_l3In.b (params 0 cs) [] (QF true [.V, .V] [.tmp 4] r)) : A 19 cs = some r := A_run T_spec_l3In h
theorem run_laws_toSrc {cs : List CV} {r : List CV × List CV} (h : Run G A laws_toSrc.b (params 0 cs) [] (QF true [.V] [.cell 2 6 true] r)) : A 20 cs = some r := A_run T_laws_toSrc h
theorem run_impl_srcAt {cs : List CV} {r : List CV × List CV} (h : Run G A impl_srcAt.b (params 0 cs) [] (QF true [.V, .V] [.tmp 4] r)) : A 21 cs = some r := A_run T_impl_srcAt h
theorem run_impl_addOnce {cs : List CV} {r : List CV × List CV} (h : Run G A impl_addOnce.b (params 0 cs) [] (QF true [.O, .V] [.tmp 4] r)) : A 22 cs = some r := A_run T_impl_addOnce h
theorem run_impl_Needs_1 {cs : List CV} {r : List CV × List CV} (h : Run G A impl_Needs_1.b (params 0 cs) [] (QF true [.V, .M] [.tmp 3] r)) : A 24 cs = some r := A_run T_impl_Needs_1 h
theorem run_laws_eqSrc {cs : List CV} {r : List CV × List CV} (h : Run G A laws_eqSrc.b (params 0 cs) [] (QF true [.V, .V] [.tmp 4] r)) : A 26 cs = some r := A_run T_laws_eqSrc h
theorem run_laws_markText {cs : List CV} {r : List CV × List CV} (h : Run G A laws_markText.b (params 0 cs) [] (QF true [.V] [.tmp 2] r)) : A 27 cs = some r := A_run T_laws_markText h
theorem runE_laws_markText {cs : List CV} {X : List CV → List CV → Prop} (h : Run G A laws_markText.b (params 0 cs) [] (QE true [.V] [.tmp 2] X)) : ∃ rs os, A 27 cs = some (rs, os) ∧ X rs os := A_runE T_laws_markText h
theorem run_laws_markTypeS {cs : List CV} {r : List CV × List CV} (h : Run G A laws_markTypeS.b (params 0 cs) [] (QF true [.M, .V] [.tmp 4] r)) : A 28 cs = some r := A_run T_laws_markTypeS h
theorem run_laws_markDefS {cs : List CV} {r : List CV × List CV} (h : Run G A laws_markDefS.b (params 0 cs) [] (QF true [.M, .V] [.tmp 4] r)) : A 29 cs = some r := A_run T_laws_markDefS h
theorem run_laws_szStringS {cs : List CV} {r : List CV × List CV} (h : Run G A laws_szStringS.b (params 0 cs) [] (QF true [.V, .V] [.tmp 4] r)) : A 31 cs = some r := A_run T_laws_szStringS h
theorem run_laws_szTypeS {cs : List CV} {r : List CV × List CV} (h : Run G A laws_szTypeS.b (params 0 cs) [] (QF true [.V, .V] [.tmp 4] r)) : A 32 cs = some r := A_run T_laws_szTypeS h
theorem run_laws_szDefS {cs : List CV} {r : List CV × List CV} (h : Run G A laws_szDefS.b (params 0 cs) [] (QF true [.V, .V] [.tmp 4] r)) : A 33 cs = some r := A_run T_laws_szDefS h
theorem run_laws_toStringS {cs : List CV} {r : List CV × List CV} (h : Run G A laws_toStringS.b (params 0 cs) [] (QF true [.V] [.tmp 2] r)) : A 34 cs = some r := A_run T_laws_toStringS h
theorem run_laws_toTypeS {cs : List CV} {r : List CV × List CV} (h : Run G A laws_toTypeS.b (params 0 cs) [] (QF true [.V] [.tmp 2] r)) : A 35 cs = some r := A_run T_laws_toTypeS h
theorem run_laws_toDefS {cs : List CV} {r : List CV × List CV} (h : Run G A laws_toDefS.b (params 0 cs) [] (QF true [.V] [.tmp 2] r)) : A 36 cs = some r := A_run T_laws_toDefS h
theorem run_slices_IndexFunc_impl_Src_impl_Src {cs : List CV} {r : List CV × List CV} (h : Run G A slices_IndexFunc_impl_Src_impl_Src.b (params 0 cs) [] (QF true [.V, .M] [.tmp 4] r)) : A 37 cs = some r := A_run T_slices_IndexFunc_impl_Src_impl_Src h
theorem run_impl_srcAt_1 {cs : List CV} {r : List CV × List CV} (h : Run G A impl_srcAt_1.b (params 0 cs) [] (QF true [.V, .M] [.tmp 3] r)) : A 38 cs = some r := A_run T_impl_srcAt_1 h
theorem run_slices_Contains_string_string {cs : List CV} {r : List CV × List CV} (h : Run G A slices_Contains_string_string.b (params 0 cs) [] (QF true [.V, .V] [.tmp 4] r)) : A 30 cs = some r := A_run T_slices_Contains_string_string h
theorem run_laws_eqTypeS {cs : List CV} {r : List CV × List CV} (h : Run G A laws_eqTypeS.b (params 0 cs) [] (QF true [.V, .V] [.tmp 4] r)) : A 42 cs = some r := A_run T_laws_eqTypeS h
theorem run_laws_eqDefS {cs : List CV} {r : List CV × List CV} (h : Run G A laws_eqDefS.b (params 0 cs) [] (QF true [.V, .V] [.tmp 4] r)) : A 43 cs = some r := A_run T_laws_eqDefS h
theorem run_laws_markNodeS {cs : List CV} {r : List CV × List CV} (h : Run G A laws_markNodeS.b (params 0 cs) [] (QF true [.M, .V] [.tmp 4] r)) : A 44 cs = some r := A_run T_laws_markNodeS h
theorem run_laws_szType {cs : List CV} {r : List CV × List CV} (h : Run G A laws_szType.b (params 0 cs) [] (QF true [.V, .V] [.tmp 4] r)) : A 46 cs = some r := A_run T_laws_szType h
theorem run_laws_szDef {cs : List CV} {r : List CV × List CV} (h : Run G A laws_szDef.b (params 0 cs) [] (QF true [.V, .V] [.tmp 4] r)) : A 47 cs = some r := A_run T_laws_szDef h
theorem run_laws_toType {cs : List CV} {r : List CV × List CV} (h : Run G A laws_toType.b (params 0 cs) [] (QF true [.V] [.cell 2 2 true] r)) : A 48 cs = some r := A_run T_laws_toType h
theorem run_laws_toDef {cs : List CV} {r : List CV × List CV} (h : Run G A laws_toDef.b (params 0 cs) [] (QF true [.V] [.cell 2 3 true] r)) : A 49 cs = some r := A_run T_laws_toDef h
theorem run_slices_Index_string_string {cs : List CV} {r : List CV × List CV} (h : Run G A slices_Index_string_string.b (params 0 cs) [] (QF true [.V, .V] [.tmp 4] r)) : A 45 cs = some r := A_run T_slices_Index_string_string h
theorem run_laws_eqType {cs : List CV} {r : List CV × List CV} (h : Run G A laws_eqType.b (params 0 cs) [] (QF true [.V, .V] [.tmp 4] r)) : A 61 cs = some r := A_run T_laws_eqType h
theorem run_laws_eqDef {cs : List CV} {r : List CV × List CV} (h : Run G A laws_eqDef.b (params 0 cs) [] (QF true [.V, .V] [.tmp 4] r)) : A 62 cs = some r := A_run T_laws_eqDef h
theorem run_laws_markIntS {cs : List CV} {r : List CV × List CV} (h : Run G A laws_markIntS.b (params 0 cs) [] (QF true [.M, .V] [.tmp 4] r)) : A 63 cs = some r := A_run T_laws_markIntS h
theorem run_laws_szProg {cs : List CV} {r : List CV × List CV} (h : Run G A laws_szProg.b (params 0 cs) [] (QF true [.V, .V] [.tmp 4] r)) : A 64 cs = some r := A_run T_laws_szProg h
theorem run_laws_toProg {cs : List CV} {r : List CV × List CV} (h : Run G A laws_toProg.b (params 0 cs) [] (QF true [.V] [.cell 2 2 true] r)) : A 65 cs = some r := A_run T_laws_toProg h
theorem run_laws_eqProg {cs : List CV} {r : List CV × List CV} (h : Run G A laws_eqProg.b (params 0 cs) [] (QF true [.V, .V] [.tmp 4] r)) : A 72 cs = some r := A_run T_laws_eqProg h
theorem run_laws_szNodeS {cs : List CV} {r : List CV × List CV} (h : Run G A laws_szNodeS.b (params 0 cs) [] (QF true [.V, .V] [.tmp 4] r)) : A 73 cs = some r := A_run T_laws_szNodeS h
theorem run_laws_toNodeS {cs : List CV} {r : List CV × List CV} (h : Run G A laws_toNodeS.b (params 0 cs) [] (QF true [.V] [.tmp 2] r)) : A 74 cs = some r := A_run T_laws_toNodeS h
theorem run_laws_eqNodeS {cs : List CV} {r : List CV × List CV} (h : Run G A laws_eqNodeS.b (params 0 cs) [] (QF true [.V, .V] [.tmp 4] r)) : A 76 cs = some r := A_run T_laws_eqNodeS h
theorem run_laws_szNode {cs : List CV} {r : List CV × List CV} (h : Run G A laws_szNode.b (params 0 cs) [] (QF true [.V, .V] [.tmp 4] r)) : A 77 cs = some r := A_run T_laws_szNode h
theorem run_laws_toNode {cs : List CV} {r : List CV × List CV} (h : Run G A laws_toNode.b (params 0 cs) [] (QF true [.V] [.cell 2 5 true] r)) : A 78 cs = some r := A_run T_laws_toNode h
theorem run_laws_eqNode {cs : List CV} {r : List CV × List CV} (h : Run G A laws_eqNode.b (params 0 cs) [] (QF true [.V, .V] [.tmp 4] r)) : A 79 cs = some r := A_run T_laws_eqNode h
theorem run_laws_szIntS {cs : List CV} {r : List CV × List CV} (h : Run G A laws_szIntS.b (params 0 cs) [] (QF true [.V, .V] [.tmp 4] r)) : A 80 cs = some r := A_run T_laws_szIntS h
theorem run_laws_toIntS {cs : List CV} {r : List CV × List CV} (h : Run G A laws_toIntS.b (params 0 cs) [] (QF true [.V] [.tmp 2] r)) : A 81 cs = some r := A_run T_laws_toIntS h
theorem run_laws_eqIntS {cs : List CV} {r : List CV × List CV} (h : Run G A laws_eqIntS.b (params 0 cs) [] (QF true [.V, .V] [.tmp 4] r)) : A 82 cs = some r := A_run T_laws_eqIntS h
theorem T_slices_DeleteFunc_string_string : T 23 = none := by kernel_rfl
@[simp] theorem G_23 : G 23 = some ⟨[.O, .O], true⟩ := by kernel_rfl
theorem P_slices_DeleteFunc_string_string {cs : List CV} {r : List CV × List CV} (h : prim_slices_DeleteFunc_string_string.run cs = some r) : A 23 cs = some r := A_prim T_slices_DeleteFunc_string_string (by rw [← h]; rfl)
theorem T_slices_Sort_string_string : T 25 = none := by kernel_rfl
@[simp] theorem G_25 : G 25 = some ⟨[.M], true⟩ := by kernel_rfl
theorem P_slices_Sort_string_string {cs : List CV} {r : List CV × List CV} (h : prim_slices_Sort_string_string.run cs = some r) : A 25 cs = some r := A_prim T_slices_Sort_string_string (by rw [← h]; rfl)
end Go.Proofs.Yticecjjfbjnaaaa.NE
