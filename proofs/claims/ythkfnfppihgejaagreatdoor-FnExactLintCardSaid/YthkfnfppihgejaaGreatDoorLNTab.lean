/- The table of the functions. -/
import Derived.Test.YthkfnfppihgejaaGreatDoorLNFn0
import Derived.Test.YthkfnfppihgejaaGreatDoorLNFn1
import Derived.Test.YthkfnfppihgejaaGreatDoorEngM7
import Derived.Test.YthkfnfppihgejaaGreatDoorEngPClone
import Derived.Test.YthkfnfppihgejaaGreatDoorEngPContains
import Derived.Test.YthkfnfppihgejaaGreatDoorEngPGrowD
import Derived.Test.YthkfnfppihgejaaGreatDoorEngPGrowN
import Derived.Test.YthkfnfppihgejaaGreatDoorEngPIndexByte
import Derived.Test.YthkfnfppihgejaaGreatDoorEngPReadDec
namespace Go.Proofs.YthkfnfppihgejaaGreatDoor.LN
open Go Go.VS
set_option maxRecDepth 100000
set_option linter.unusedVariables false
set_option linter.unusedSimpArgs false
noncomputable def tab : List (Entry Tryz.prog) := [⟨3, laws_FnExactLint, Tryz.f3, Tryz.func3, laws_FnExactLint.turned⟩,
  ⟨4, laws_szSrc, Tryz.f4, Tryz.func4, laws_szSrc.turned⟩,
  ⟨5, laws_szStringS, Tryz.f5, Tryz.func5, laws_szStringS.turned⟩,
  ⟨6, spec_Lint, Tryz.f6, Tryz.func6, spec_Lint.turned⟩,
  ⟨7, laws_toSrc, Tryz.f7, Tryz.func7, laws_toSrc.turned⟩,
  ⟨8, laws_toStringS, Tryz.f8, Tryz.func8, laws_toStringS.turned⟩,
  ⟨9, impl_Lint, Tryz.f9, Tryz.func9, impl_Lint.turned⟩,
  ⟨10, laws_eqNoteS, Tryz.f10, Tryz.func10, laws_eqNoteS.turned⟩,
  ⟨11, laws_eqSrc, Tryz.f11, Tryz.func11, laws_eqSrc.turned⟩,
  ⟨12, laws_eqStringS, Tryz.f12, Tryz.func12, laws_eqStringS.turned⟩,
  ⟨13, laws_markSrc, Tryz.f13, Tryz.func13, laws_markSrc.turned⟩,
  ⟨14, laws_markStringS, Tryz.f14, Tryz.func14, laws_markStringS.turned⟩,
  ⟨15, laws_markNoteS, Tryz.f15, Tryz.func15, laws_markNoteS.turned⟩,
  ⟨16, laws_heldNoteS, Tryz.f16, Tryz.func16, laws_heldNoteS.turned⟩,
  ⟨17, laws_szTypeS, Tryz.f17, Tryz.func17, laws_szTypeS.turned⟩,
  ⟨18, laws_szDefS, Tryz.f18, Tryz.func18, laws_szDefS.turned⟩,
  ⟨19, spec_SrcOk, Tryz.f19, Tryz.func19, spec_SrcOk.turned⟩,
  ⟨20, spec_l11DefNames, Tryz.f20, Tryz.func20, spec_l11DefNames.turned⟩,
  ⟨21, spec_l21All, Tryz.f21, Tryz.func21, spec_l21All.turned⟩,
  ⟨22, spec_l5Free, Tryz.f22, Tryz.func22, spec_l5Free.turned⟩,
  ⟨23, spec_l3In, Tryz.f23, Tryz.func23, spec_l3In.turned⟩,
  ⟨24, spec_Sets, Tryz.f24, Tryz.func24, spec_Sets.turned⟩,
  ⟨25, laws_toTypeS, Tryz.f25, Tryz.func25, laws_toTypeS.turned⟩,
  ⟨26, laws_toDefS, Tryz.f26, Tryz.func26, laws_toDefS.turned⟩,
  ⟨27, impl_SrcOk, Tryz.f27, Tryz.func27, impl_SrcOk.turned⟩,
  ⟨28, impl_namesOfDefs, Tryz.f28, Tryz.func28, impl_namesOfDefs.turned⟩,
  ⟨29, impl_Src_freeNames, Tryz.f29, Tryz.func29, impl_Src_freeNames.turned⟩,
  ⟨30, impl_Src_progs, Tryz.f30, Tryz.func30, impl_Src_progs.turned⟩,
  ⟨31, impl_addOnce, Tryz.f31, Tryz.func31, impl_addOnce.turned⟩,
  ⟨32, impl_Sets, Tryz.f32, Tryz.func32, impl_Sets.turned⟩,
  ⟨33, impl_less, Tryz.f33, Tryz.func33, impl_less.turned⟩,
  ⟨34, slices_Concat_impl_Note_impl_Note, Tryz.f34, Tryz.func34, slices_Concat_impl_Note_impl_Note.turned⟩,
  ⟨35, impl_notesOf, Tryz.f35, Tryz.func35, impl_notesOf.turned⟩,
  ⟨36, laws_eqNote, Tryz.f36, Tryz.func36, laws_eqNote.turned⟩,
  ⟨37, laws_eqTypeS, Tryz.f37, Tryz.func37, laws_eqTypeS.turned⟩,
  ⟨38, laws_eqDefS, Tryz.f38, Tryz.func38, laws_eqDefS.turned⟩,
  ⟨39, laws_markTypeS, Tryz.f39, Tryz.func39, laws_markTypeS.turned⟩,
  ⟨40, laws_markDefS, Tryz.f40, Tryz.func40, laws_markDefS.turned⟩,
  ⟨41, laws_markText, Tryz.f41, Tryz.func41, laws_markText.turned⟩,
  ⟨42, laws_szType, Tryz.f42, Tryz.func42, laws_szType.turned⟩,
  ⟨43, laws_szDef, Tryz.f43, Tryz.func43, laws_szDef.turned⟩,
  ⟨44, spec_IsName, Tryz.f44, Tryz.func44, spec_IsName.turned⟩,
  ⟨45, spec_l11Many, Tryz.f45, Tryz.func45, spec_l11Many.turned⟩,
  ⟨46, spec_l11Dup, Tryz.f46, Tryz.func46, spec_l11Dup.turned⟩,
  ⟨47, spec_l11Lacks, Tryz.f47, Tryz.func47, spec_l11Lacks.turned⟩,
  ⟨48, spec_l11All, Tryz.f48, Tryz.func48, spec_l11All.turned⟩,
  ⟨49, spec_l11TypeNames, Tryz.f49, Tryz.func49, spec_l11TypeNames.turned⟩,
  ⟨50, spec_l1In, Tryz.f50, Tryz.func50, spec_l1In.turned⟩,
  ⟨51, spec_ProgOk, Tryz.f51, Tryz.func51, spec_ProgOk.turned⟩,
  ⟨52, laws_toType, Tryz.f52, Tryz.func52, laws_toType.turned⟩,
  ⟨53, laws_toDef, Tryz.f53, Tryz.func53, laws_toDef.turned⟩,
  ⟨54, impl_IsName, Tryz.f54, Tryz.func54, impl_IsName.turned⟩,
  ⟨55, impl_Src_isFew, Tryz.f55, Tryz.func55, impl_Src_isFew.turned⟩,
  ⟨56, impl_Src_isUnlike, Tryz.f56, Tryz.func56, impl_Src_isUnlike.turned⟩,
  ⟨57, impl_Src_isFit, Tryz.f57, Tryz.func57, impl_Src_isFit.turned⟩,
  ⟨58, impl_allNames, Tryz.f58, Tryz.func58, impl_allNames.turned⟩,
  ⟨59, impl_typesOk, Tryz.f59, Tryz.func59, impl_typesOk.turned⟩,
  ⟨60, impl_progsOk, Tryz.f60, Tryz.func60, impl_progsOk.turned⟩,
  ⟨61, impl_free, Tryz.f61, Tryz.func61, impl_free.turned⟩,
  ⟨62, slices_Concat_impl_Def_impl_Def, Tryz.f62, Tryz.func62, slices_Concat_impl_Def_impl_Def.turned⟩,
  ⟨63, slices_Contains_string_string, Tryz.f63, Tryz.func63, slices_Contains_string_string.turned⟩,
  ⟨64, impl_ProgOk, Tryz.f64, Tryz.func64, impl_ProgOk.turned⟩,
  ⟨66, laws_eqType, Tryz.f66, Tryz.func66, laws_eqType.turned⟩,
  ⟨67, laws_eqDef, Tryz.f67, Tryz.func67, laws_eqDef.turned⟩,
  ⟨68, laws_markNodeS, Tryz.f68, Tryz.func68, laws_markNodeS.turned⟩,
  ⟨69, laws_szProg, Tryz.f69, Tryz.func69, laws_szProg.turned⟩,
  ⟨70, spec_l2Sym, Tryz.f70, Tryz.func70, spec_l2Sym.turned⟩,
  ⟨71, spec_l3Word, Tryz.f71, Tryz.func71, spec_l3Word.turned⟩,
  ⟨72, spec_Arity, Tryz.f72, Tryz.func72, spec_Arity.turned⟩,
  ⟨73, spec_l11Twice, Tryz.f73, Tryz.func73, spec_l11Twice.turned⟩,
  ⟨74, spec_l3Node, Tryz.f74, Tryz.func74, spec_l3Node.turned⟩,
  ⟨75, laws_toProg, Tryz.f75, Tryz.func75, laws_toProg.turned⟩,
  ⟨76, impl_symOk, Tryz.f76, Tryz.func76, impl_symOk.turned⟩,
  ⟨77, impl_isOneOf, Tryz.f77, Tryz.func77, impl_isOneOf.turned⟩,
  ⟨78, impl_Arity, Tryz.f78, Tryz.func78, impl_Arity.turned⟩,
  ⟨79, impl_isOnce, Tryz.f79, Tryz.func79, impl_isOnce.turned⟩,
  ⟨80, impl_namesOfTypes, Tryz.f80, Tryz.func80, impl_namesOfTypes.turned⟩,
  ⟨81, impl_areIn, Tryz.f81, Tryz.func81, impl_areIn.turned⟩,
  ⟨82, impl_inRange, Tryz.f82, Tryz.func82, impl_inRange.turned⟩,
  ⟨83, impl_namesOk, Tryz.f83, Tryz.func83, impl_namesOk.turned⟩,
  ⟨84, impl_seeker_seek, Tryz.f84, Tryz.func84, impl_seeker_seek.turned⟩,
  ⟨86, slices_Index_string_string, Tryz.f86, Tryz.func86, slices_Index_string_string.turned⟩,
  ⟨87, impl_nodeOk, Tryz.f87, Tryz.func87, impl_nodeOk.turned⟩,
  ⟨88, laws_eqProg, Tryz.f88, Tryz.func88, laws_eqProg.turned⟩,
  ⟨89, laws_markIntS, Tryz.f89, Tryz.func89, laws_markIntS.turned⟩,
  ⟨90, laws_szNodeS, Tryz.f90, Tryz.func90, laws_szNodeS.turned⟩,
  ⟨91, spec_l2Digit, Tryz.f91, Tryz.func91, spec_l2Digit.turned⟩,
  ⟨92, spec_l2Sign, Tryz.f92, Tryz.func92, spec_l2Sign.turned⟩,
  ⟨93, spec_ReadDec, Tryz.f93, Tryz.func93, spec_ReadDec.turned⟩,
  ⟨94, spec_l3Names, Tryz.f94, Tryz.func94, spec_l3Names.turned⟩,
  ⟨95, spec_l3Prim, Tryz.f95, Tryz.func95, spec_l3Prim.turned⟩,
  ⟨96, laws_toNodeS, Tryz.f96, Tryz.func96, laws_toNodeS.turned⟩,
  ⟨97, impl_isSymByte, Tryz.f97, Tryz.func97, impl_isSymByte.turned⟩,
  ⟨100, slices_Concat_string_string, Tryz.f100, Tryz.func100, slices_Concat_string_string.turned⟩,
  ⟨101, impl_primOk, Tryz.f101, Tryz.func101, impl_primOk.turned⟩,
  ⟨102, laws_eqNodeS, Tryz.f102, Tryz.func102, laws_eqNodeS.turned⟩,
  ⟨103, laws_szNode, Tryz.f103, Tryz.func103, laws_szNode.turned⟩,
  ⟨104, spec_l2In, Tryz.f104, Tryz.func104, spec_l2In.turned⟩,
  ⟨105, spec_Dec, Tryz.f105, Tryz.func105, spec_Dec.turned⟩,
  ⟨106, laws_toNode, Tryz.f106, Tryz.func106, laws_toNode.turned⟩,
  ⟨113, impl_isTyped, Tryz.f113, Tryz.func113, impl_isTyped.turned⟩,
  ⟨114, laws_eqNode, Tryz.f114, Tryz.func114, laws_eqNode.turned⟩,
  ⟨115, laws_szIntS, Tryz.f115, Tryz.func115, laws_szIntS.turned⟩,
  ⟨116, laws_toIntS, Tryz.f116, Tryz.func116, laws_toIntS.turned⟩,
  ⟨123, laws_eqIntS, Tryz.f123, Tryz.func123, laws_eqIntS.turned⟩]
noncomputable def ptab : List (PEntry Tryz.prog LaidX) := [prim_slices_Grow_impl_Note_impl_Note, prim_slices_Grow_impl_Def_impl_Def, prim_impl_ReadDec, prim_strings_Contains, prim_strings_IndexByte, prim_slices_Grow_string_string]
noncomputable def T : FuncId → Option VFn := tabT tab
noncomputable def G : Sigs := tabG tab ptab
noncomputable def A : Fns := lim G T (tabP ptab)
theorem A_run {f : FuncId} {vf : VFn} {cs : List CV} {r : List CV × List CV} (hT : T f = some vf) (h : Run G A vf.body (params 0 cs) [] (QF vf.sig.own vf.sig.modes vf.res r)) : A f cs = some r := lim_run hT h
theorem A_runE {f : FuncId} {vf : VFn} {cs : List CV} {X : List CV → List CV → Prop} (hT : T f = some vf) (h : Run G A vf.body (params 0 cs) [] (QE vf.sig.own vf.sig.modes vf.res X)) : ∃ rs os, A f cs = some (rs, os) ∧ X rs os := lim_runE hT h
theorem A_prim {f : FuncId} {cs : List CV} {r : List CV × List CV} (hT : T f = none) (h : tabP ptab f cs = some r) : A f cs = some r := lim_prim hT h
theorem A_answers {W : World} (hX : LaidX W) {f : FuncId} {g : Sig} {cs res outs : List CV} (hg : G f = some g) (h : A f cs = some (res, outs)) : Answers Tryz.prog W f cs res outs := lim_answers (tabT_ok tab ptab) (tabP_ok hX tab ptab) hg h
theorem ip {α : Sort _} {c : Prop} [Decidable c] {a b : α} : (c → (if c then a else b) = a) ∧ (¬ c → (if c then a else b) = b) := ⟨fun h => if_pos h, fun h => if_neg h⟩
theorem wr {n : Int} : (-9223372036854775808 ≤ n → n ≤ 9223372036854775807 → IntKind.i64.wrap n = n) ∧ (0 ≤ n → n ≤ 255 → IntKind.u8.wrap n = n) := ⟨wrap_i64, wrap_u8⟩
variable {cs : List CV} {r : List CV × List CV}
theorem T_laws_FnExactLint : T 3 = some laws_FnExactLint := by kernel_rfl
@[simp] theorem G_3 : G 3 = some ⟨[.V, .V], true⟩ := by kernel_rfl
theorem T_laws_szSrc : T 4 = some laws_szSrc := by kernel_rfl
@[simp] theorem G_4 : G 4 = some ⟨[.V, .V], true⟩ := by kernel_rfl
theorem T_laws_szStringS : T 5 = some laws_szStringS := by kernel_rfl
@[simp] theorem G_5 : G 5 = some ⟨[.V, .V], true⟩ := by kernel_rfl
theorem T_spec_Lint : T 6 = some spec_Lint := by kernel_rfl
@[simp] theorem G_6 : G 6 = some ⟨[.V, .V], true⟩ := by kernel_rfl
theorem T_laws_toSrc : T 7 = some laws_toSrc := by kernel_rfl
@[simp] theorem G_7 : G 7 = some ⟨[.V], true⟩ := by kernel_rfl
theorem T_laws_toStringS : T 8 = some laws_toStringS := by kernel_rfl
@[simp] theorem G_8 : G 8 = some ⟨[.V], true⟩ := by kernel_rfl
theorem T_impl_Lint : T 9 = some impl_Lint := by kernel_rfl
@[simp] theorem G_9 : G 9 = some ⟨[.V, .V], true⟩ := by kernel_rfl
theorem T_laws_eqNoteS : T 10 = some laws_eqNoteS := by kernel_rfl
@[simp] theorem G_10 : G 10 = some ⟨[.V, .V], true⟩ := by kernel_rfl
theorem T_laws_eqSrc : T 11 = some laws_eqSrc := by kernel_rfl
@[simp] theorem G_11 : G 11 = some ⟨[.V, .V], true⟩ := by kernel_rfl
theorem T_laws_eqStringS : T 12 = some laws_eqStringS := by kernel_rfl
@[simp] theorem G_12 : G 12 = some ⟨[.V, .V], true⟩ := by kernel_rfl
theorem T_laws_markSrc : T 13 = some laws_markSrc := by kernel_rfl
@[simp] theorem G_13 : G 13 = some ⟨[.M, .V], true⟩ := by kernel_rfl
theorem T_laws_markStringS : T 14 = some laws_markStringS := by kernel_rfl
@[simp] theorem G_14 : G 14 = some ⟨[.M, .V], true⟩ := by kernel_rfl
theorem T_laws_markNoteS : T 15 = some laws_markNoteS := by kernel_rfl
@[simp] theorem G_15 : G 15 = some ⟨[.M, .V], true⟩ := by kernel_rfl
theorem T_laws_heldNoteS : T 16 = some laws_heldNoteS := by kernel_rfl
@[simp] theorem G_16 : G 16 = some ⟨[.V, .V], true⟩ := by kernel_rfl
theorem T_laws_szTypeS : T 17 = some laws_szTypeS := by kernel_rfl
@[simp] theorem G_17 : G 17 = some ⟨[.V, .V], true⟩ := by kernel_rfl
theorem T_laws_szDefS : T 18 = some laws_szDefS := by kernel_rfl
@[simp] theorem G_18 : G 18 = some ⟨[.V, .V], true⟩ := by kernel_rfl
theorem T_spec_SrcOk : T 19 = some spec_SrcOk := by kernel_rfl
@[simp] theorem G_19 : G 19 = some ⟨[.V], true⟩ := by kernel_rfl
theorem T_spec_l11DefNames : T 20 = some spec_l11DefNames := by kernel_rfl
@[simp] theorem G_20 : G 20 = some ⟨[.V], true⟩ := by kernel_rfl
theorem T_spec_l21All : T 21 = some spec_l21All := by kernel_rfl
@[simp] theorem G_21 : G 21 = some ⟨[.V], false⟩ := by kernel_rfl
theorem T_spec_l5Free : T 22 = some spec_l5Free := by kernel_rfl
@[simp] theorem G_22 : G 22 = some ⟨[.V, .V, .V, .O], true⟩ := by kernel_rfl
theorem T_spec_l3In : T 23 = some spec_l3In := by kernel_rfl
@[simp] theorem G_23 : G 23 = some ⟨[.V, .V], true⟩ := by kernel_rfl
theorem T_spec_Sets : T 24 = some spec_Sets := by kernel_rfl
@[simp] theorem G_24 : G 24 = some ⟨[.V], true⟩ := by kernel_rfl
theorem T_laws_toTypeS : T 25 = some laws_toTypeS := by kernel_rfl
@[simp] theorem G_25 : G 25 = some ⟨[.V], true⟩ := by kernel_rfl
theorem T_laws_toDefS : T 26 = some laws_toDefS := by kernel_rfl
@[simp] theorem G_26 : G 26 = some ⟨[.V], true⟩ := by kernel_rfl
theorem T_impl_SrcOk : T 27 = some impl_SrcOk := by kernel_rfl
@[simp] theorem G_27 : G 27 = some ⟨[.V], true⟩ := by kernel_rfl
theorem T_impl_namesOfDefs : T 28 = some impl_namesOfDefs := by kernel_rfl
@[simp] theorem G_28 : G 28 = some ⟨[.V], true⟩ := by kernel_rfl
theorem T_impl_Src_freeNames : T 29 = some impl_Src_freeNames := by kernel_rfl
@[simp] theorem G_29 : G 29 = some ⟨[.M], false⟩ := by kernel_rfl
theorem T_impl_Src_progs : T 30 = some impl_Src_progs := by kernel_rfl
@[simp] theorem G_30 : G 30 = some ⟨[.M], false⟩ := by kernel_rfl
theorem T_impl_addOnce : T 31 = some impl_addOnce := by kernel_rfl
@[simp] theorem G_31 : G 31 = some ⟨[.O, .V], true⟩ := by kernel_rfl
theorem T_impl_Sets : T 32 = some impl_Sets := by kernel_rfl
@[simp] theorem G_32 : G 32 = some ⟨[.V], true⟩ := by kernel_rfl
theorem T_impl_less : T 33 = some impl_less := by kernel_rfl
@[simp] theorem G_33 : G 33 = some ⟨[.V, .V], true⟩ := by kernel_rfl
theorem T_slices_Concat_impl_Note_impl_Note : T 34 = some slices_Concat_impl_Note_impl_Note := by kernel_rfl
@[simp] theorem G_34 : G 34 = some ⟨[.V], true⟩ := by kernel_rfl
theorem T_impl_notesOf : T 35 = some impl_notesOf := by kernel_rfl
@[simp] theorem G_35 : G 35 = some ⟨[.V, .V], true⟩ := by kernel_rfl
theorem T_laws_eqNote : T 36 = some laws_eqNote := by kernel_rfl
@[simp] theorem G_36 : G 36 = some ⟨[.V, .V], true⟩ := by kernel_rfl
theorem T_laws_eqTypeS : T 37 = some laws_eqTypeS := by kernel_rfl
@[simp] theorem G_37 : G 37 = some ⟨[.V, .V], true⟩ := by kernel_rfl
theorem T_laws_eqDefS : T 38 = some laws_eqDefS := by kernel_rfl
@[simp] theorem G_38 : G 38 = some ⟨[.V, .V], true⟩ := by kernel_rfl
theorem T_laws_markTypeS : T 39 = some laws_markTypeS := by kernel_rfl
@[simp] theorem G_39 : G 39 = some ⟨[.M, .V], true⟩ := by kernel_rfl
theorem T_laws_markDefS : T 40 = some laws_markDefS := by kernel_rfl
@[simp] theorem G_40 : G 40 = some ⟨[.M, .V], true⟩ := by kernel_rfl
theorem T_laws_markText : T 41 = some laws_markText := by kernel_rfl
@[simp] theorem G_41 : G 41 = some ⟨[.V], true⟩ := by kernel_rfl
theorem T_laws_szType : T 42 = some laws_szType := by kernel_rfl
@[simp] theorem G_42 : G 42 = some ⟨[.V, .V], true⟩ := by kernel_rfl
theorem T_laws_szDef : T 43 = some laws_szDef := by kernel_rfl
@[simp] theorem G_43 : G 43 = some ⟨[.V, .V], true⟩ := by kernel_rfl
theorem T_spec_IsName : T 44 = some spec_IsName := by kernel_rfl
@[simp] theorem G_44 : G 44 = some ⟨[.V], true⟩ := by kernel_rfl
theorem T_spec_l11Many : T 45 = some spec_l11Many := by kernel_rfl
@[simp] theorem G_45 : G 45 = some ⟨[.V], true⟩ := by kernel_rfl
theorem T_spec_l11Dup : T 46 = some spec_l11Dup := by kernel_rfl
@[simp] theorem G_46 : G 46 = some ⟨[.V], true⟩ := by kernel_rfl
theorem T_spec_l11Lacks : T 47 = some spec_l11Lacks := by kernel_rfl
@[simp] theorem G_47 : G 47 = some ⟨[.V], true⟩ := by kernel_rfl
theorem T_spec_l11All : T 48 = some spec_l11All := by kernel_rfl
@[simp] theorem G_48 : G 48 = some ⟨[.V], true⟩ := by kernel_rfl
theorem T_spec_l11TypeNames : T 49 = some spec_l11TypeNames := by kernel_rfl
@[simp] theorem G_49 : G 49 = some ⟨[.V], true⟩ := by kernel_rfl
theorem T_spec_l1In : T 50 = some spec_l1In := by kernel_rfl
@[simp] theorem G_50 : G 50 = some ⟨[.V, .V, .V], true⟩ := by kernel_rfl
theorem T_spec_ProgOk : T 51 = some spec_ProgOk := by kernel_rfl
@[simp] theorem G_51 : G 51 = some ⟨[.V], true⟩ := by kernel_rfl
theorem T_laws_toType : T 52 = some laws_toType := by kernel_rfl
@[simp] theorem G_52 : G 52 = some ⟨[.V], true⟩ := by kernel_rfl
theorem T_laws_toDef : T 53 = some laws_toDef := by kernel_rfl
@[simp] theorem G_53 : G 53 = some ⟨[.V], true⟩ := by kernel_rfl
theorem T_impl_IsName : T 54 = some impl_IsName := by kernel_rfl
@[simp] theorem G_54 : G 54 = some ⟨[.V], true⟩ := by kernel_rfl
theorem T_impl_Src_isFew : T 55 = some impl_Src_isFew := by kernel_rfl
@[simp] theorem G_55 : G 55 = some ⟨[.M], false⟩ := by kernel_rfl
theorem T_impl_Src_isUnlike : T 56 = some impl_Src_isUnlike := by kernel_rfl
@[simp] theorem G_56 : G 56 = some ⟨[.M], false⟩ := by kernel_rfl
theorem T_impl_Src_isFit : T 57 = some impl_Src_isFit := by kernel_rfl
@[simp] theorem G_57 : G 57 = some ⟨[.M], false⟩ := by kernel_rfl
theorem T_impl_allNames : T 58 = some impl_allNames := by kernel_rfl
@[simp] theorem G_58 : G 58 = some ⟨[.V], true⟩ := by kernel_rfl
theorem T_impl_typesOk : T 59 = some impl_typesOk := by kernel_rfl
@[simp] theorem G_59 : G 59 = some ⟨[.V], true⟩ := by kernel_rfl
theorem T_impl_progsOk : T 60 = some impl_progsOk := by kernel_rfl
@[simp] theorem G_60 : G 60 = some ⟨[.V], true⟩ := by kernel_rfl
theorem T_impl_free : T 61 = some impl_free := by kernel_rfl
@[simp] theorem G_61 : G 61 = some ⟨[.M, .V], false⟩ := by kernel_rfl
theorem T_slices_Concat_impl_Def_impl_Def : T 62 = some slices_Concat_impl_Def_impl_Def := by kernel_rfl
@[simp] theorem G_62 : G 62 = some ⟨[.V], false⟩ := by kernel_rfl
theorem T_slices_Contains_string_string : T 63 = some slices_Contains_string_string := by kernel_rfl
@[simp] theorem G_63 : G 63 = some ⟨[.V, .V], true⟩ := by kernel_rfl
theorem T_impl_ProgOk : T 64 = some impl_ProgOk := by kernel_rfl
@[simp] theorem G_64 : G 64 = some ⟨[.V], true⟩ := by kernel_rfl
theorem T_laws_eqType : T 66 = some laws_eqType := by kernel_rfl
@[simp] theorem G_66 : G 66 = some ⟨[.V, .V], true⟩ := by kernel_rfl
theorem T_laws_eqDef : T 67 = some laws_eqDef := by kernel_rfl
@[simp] theorem G_67 : G 67 = some ⟨[.V, .V], true⟩ := by kernel_rfl
theorem T_laws_markNodeS : T 68 = some laws_markNodeS := by kernel_rfl
@[simp] theorem G_68 : G 68 = some ⟨[.M, .V], true⟩ := by kernel_rfl
theorem T_laws_szProg : T 69 = some laws_szProg := by kernel_rfl
@[simp] theorem G_69 : G 69 = some ⟨[.V, .V], true⟩ := by kernel_rfl
theorem T_spec_l2Sym : T 70 = some spec_l2Sym := by kernel_rfl
@[simp] theorem G_70 : G 70 = some ⟨[.V], true⟩ := by kernel_rfl
theorem T_spec_l3Word : T 71 = some spec_l3Word := by kernel_rfl
@[simp] theorem G_71 : G 71 = some ⟨[.V], true⟩ := by kernel_rfl
theorem T_spec_Arity : T 72 = some spec_Arity := by kernel_rfl
@[simp] theorem G_72 : G 72 = some ⟨[.V], true⟩ := by kernel_rfl
theorem T_spec_l11Twice : T 73 = some spec_l11Twice := by kernel_rfl
@[simp] theorem G_73 : G 73 = some ⟨[.V], true⟩ := by kernel_rfl
theorem T_spec_l3Node : T 74 = some spec_l3Node := by kernel_rfl
@[simp] theorem G_74 : G 74 = some ⟨[.V], true⟩ := by kernel_rfl
theorem T_laws_toProg : T 75 = some laws_toProg := by kernel_rfl
@[simp] theorem G_75 : G 75 = some ⟨[.V], true⟩ := by kernel_rfl
theorem T_impl_symOk : T 76 = some impl_symOk := by kernel_rfl
@[simp] theorem G_76 : G 76 = some ⟨[.V], true⟩ := by kernel_rfl
theorem T_impl_isOneOf : T 77 = some impl_isOneOf := by kernel_rfl
@[simp] theorem G_77 : G 77 = some ⟨[.V, .V], true⟩ := by kernel_rfl
theorem T_impl_Arity : T 78 = some impl_Arity := by kernel_rfl
@[simp] theorem G_78 : G 78 = some ⟨[.V], true⟩ := by kernel_rfl
theorem T_impl_isOnce : T 79 = some impl_isOnce := by kernel_rfl
@[simp] theorem G_79 : G 79 = some ⟨[.V], true⟩ := by kernel_rfl
theorem T_impl_namesOfTypes : T 80 = some impl_namesOfTypes := by kernel_rfl
@[simp] theorem G_80 : G 80 = some ⟨[.V], true⟩ := by kernel_rfl
theorem T_impl_areIn : T 81 = some impl_areIn := by kernel_rfl
@[simp] theorem G_81 : G 81 = some ⟨[.V, .V], true⟩ := by kernel_rfl
theorem T_impl_inRange : T 82 = some impl_inRange := by kernel_rfl
@[simp] theorem G_82 : G 82 = some ⟨[.V, .V, .V], true⟩ := by kernel_rfl
theorem T_impl_namesOk : T 83 = some impl_namesOk := by kernel_rfl
@[simp] theorem G_83 : G 83 = some ⟨[.V, .V], true⟩ := by kernel_rfl
theorem T_impl_seeker_seek : T 84 = some impl_seeker_seek := by kernel_rfl
@[simp] theorem G_84 : G 84 = some ⟨[.M, .V, .V], false⟩ := by kernel_rfl
theorem T_slices_Index_string_string : T 86 = some slices_Index_string_string := by kernel_rfl
@[simp] theorem G_86 : G 86 = some ⟨[.V, .V], true⟩ := by kernel_rfl
theorem T_impl_nodeOk : T 87 = some impl_nodeOk := by kernel_rfl
@[simp] theorem G_87 : G 87 = some ⟨[.V], true⟩ := by kernel_rfl
theorem T_laws_eqProg : T 88 = some laws_eqProg := by kernel_rfl
@[simp] theorem G_88 : G 88 = some ⟨[.V, .V], true⟩ := by kernel_rfl
theorem T_laws_markIntS : T 89 = some laws_markIntS := by kernel_rfl
@[simp] theorem G_89 : G 89 = some ⟨[.M, .V], true⟩ := by kernel_rfl
theorem T_laws_szNodeS : T 90 = some laws_szNodeS := by kernel_rfl
@[simp] theorem G_90 : G 90 = some ⟨[.V, .V], true⟩ := by kernel_rfl
theorem T_spec_l2Digit : T 91 = some spec_l2Digit := by kernel_rfl
@[simp] theorem G_91 : G 91 = some ⟨[.V], true⟩ := by kernel_rfl
theorem T_spec_l2Sign : T 92 = some spec_l2Sign := by kernel_rfl
@[simp] theorem G_92 : G 92 = some ⟨[.V], true⟩ := by kernel_rfl
theorem T_spec_ReadDec : T 93 = some spec_ReadDec := by kernel_rfl
@[simp] theorem G_93 : G 93 = some ⟨[.V], true⟩ := by kernel_rfl
theorem T_spec_l3Names : T 94 = some spec_l3Names := by kernel_rfl
@[simp] theorem G_94 : G 94 = some ⟨[.V, .V], true⟩ := by kernel_rfl
theorem T_spec_l3Prim : T 95 = some spec_l3Prim := by kernel_rfl
@[simp] theorem G_95 : G 95 = some ⟨[.V], true⟩ := by kernel_rfl
theorem T_laws_toNodeS : T 96 = some laws_toNodeS := by kernel_rfl
@[simp] theorem G_96 : G 96 = some ⟨[.V], true⟩ := by kernel_rfl
theorem T_impl_isSymByte : T 97 = some impl_isSymByte := by kernel_rfl
@[simp] theorem G_97 : G 97 = some ⟨[.V], true⟩ := by kernel_rfl
theorem T_slices_Concat_string_string : T 100 = some slices_Concat_string_string := by kernel_rfl
@[simp] theorem G_100 : G 100 = some ⟨[.V], true⟩ := by kernel_rfl
theorem T_impl_primOk : T 101 = some impl_primOk := by kernel_rfl
@[simp] theorem G_101 : G 101 = some ⟨[.V], true⟩ := by kernel_rfl
theorem T_laws_eqNodeS : T 102 = some laws_eqNodeS := by kernel_rfl
@[simp] theorem G_102 : G 102 = some ⟨[.V, .V], true⟩ := by kernel_rfl
theorem T_laws_szNode : T 103 = some laws_szNode := by kernel_rfl
@[simp] theorem G_103 : G 103 = some ⟨[.V, .V], true⟩ := by kernel_rfl
theorem T_spec_l2In : T 104 = some spec_l2In := by kernel_rfl
@[simp] theorem G_104 : G 104 = some ⟨[.V, .V], true⟩ := by kernel_rfl
theorem T_spec_Dec : T 105 = some spec_Dec := by kernel_rfl
@[simp] theorem G_105 : G 105 = some ⟨[.V], true⟩ := by kernel_rfl
theorem T_laws_toNode : T 106 = some laws_toNode := by kernel_rfl
@[simp] theorem G_106 : G 106 = some ⟨[.V], true⟩ := by kernel_rfl
theorem T_impl_isTyped : T 113 = some impl_isTyped := by kernel_rfl
@[simp] theorem G_113 : G 113 = some ⟨[.V], true⟩ := by kernel_rfl
theorem T_laws_eqNode : T 114 = some laws_eqNode := by kernel_rfl
@[simp] theorem G_114 : G 114 = some ⟨[.V, .V], true⟩ := by kernel_rfl
theorem T_laws_szIntS : T 115 = some laws_szIntS := by kernel_rfl
@[simp] theorem G_115 : G 115 = some ⟨[.V, .V], true⟩ := by kernel_rfl
theorem T_laws_toIntS : T 116 = some laws_toIntS := by kernel_rfl
@[simp] theorem G_116 : G 116 = some ⟨[.V], true⟩ := by kernel_rfl
theorem T_laws_eqIntS : T 123 = some laws_eqIntS := by kernel_rfl
@[simp] theorem G_123 : G 123 = some ⟨[.V, .V], true⟩ := by kernel_rfl
theorem run_laws_FnExactLint (h : Run G A laws_FnExactLint.b (params 0 cs) [] (QF true [.V, .V] [.tmp 4] r)) : A 3 cs = some r := A_run T_laws_FnExactLint h
theorem run_laws_szSrc (h : Run G A laws_szSrc.b (params 0 cs) [] (QF true [.V, .V] [.tmp 4] r)) : A 4 cs = some r := A_run T_laws_szSrc h
theorem run_laws_szStringS (h : Run G A laws_szStringS.b (params 0 cs) [] (QF true [.V, .V] [.tmp 4] r)) : A 5 cs = some r := A_run T_laws_szStringS h
theorem run_spec_Lint (h : Run G A spec_Lint.b (params 0 cs) [] (QF true [.V, .V] [.tmp 4] r)) : A 6 cs = some r := A_run T_spec_Lint h
theorem run_laws_toSrc (h : Run G A laws_toSrc.b (params 0 cs) [] (QF true [.V] [.cell 2 6 true] r)) : A 7 cs = some r := A_run T_laws_toSrc h
theorem run_laws_toStringS (h : Run G A laws_toStringS.b (params 0 cs) [] (QF true [.V] [.tmp 2] r)) : A 8 cs = some r := A_run T_laws_toStringS h
theorem run_impl_Lint (h : Run G A impl_Lint.b (params 0 cs) [] (QF true [.V, .V] [.tmp 4] r)) : A 9 cs = some r := A_run T_impl_Lint h
theorem run_laws_eqNoteS (h : Run G A laws_eqNoteS.b (params 0 cs) [] (QF true [.V, .V] [.tmp 4] r)) : A 10 cs = some r := A_run T_laws_eqNoteS h
theorem run_laws_eqSrc (h : Run G A laws_eqSrc.b (params 0 cs) [] (QF true [.V, .V] [.tmp 4] r)) : A 11 cs = some r := A_run T_laws_eqSrc h
theorem run_laws_eqStringS (h : Run G A laws_eqStringS.b (params 0 cs) [] (QF true [.V, .V] [.tmp 4] r)) : A 12 cs = some r := A_run T_laws_eqStringS h
theorem run_laws_markSrc (h : Run G A laws_markSrc.b (params 0 cs) [] (QF true [.M, .V] [.tmp 4] r)) : A 13 cs = some r := A_run T_laws_markSrc h
theorem run_laws_markStringS (h : Run G A laws_markStringS.b (params 0 cs) [] (QF true [.M, .V] [.tmp 4] r)) : A 14 cs = some r := A_run T_laws_markStringS h
theorem run_laws_markNoteS (h : Run G A laws_markNoteS.b (params 0 cs) [] (QF true [.M, .V] [.tmp 4] r)) : A 15 cs = some r := A_run T_laws_markNoteS h
theorem run_laws_heldNoteS (h : Run G A laws_heldNoteS.b (params 0 cs) [] (QF true [.V, .V] [.tmp 4] r)) : A 16 cs = some r := A_run T_laws_heldNoteS h
theorem run_laws_szTypeS (h : Run G A laws_szTypeS.b (params 0 cs) [] (QF true [.V, .V] [.tmp 4] r)) : A 17 cs = some r := A_run T_laws_szTypeS h
theorem run_laws_szDefS (h : Run G A laws_szDefS.b (params 0 cs) [] (QF true [.V, .V] [.tmp 4] r)) : A 18 cs = some r := A_run T_laws_szDefS h
theorem run_spec_SrcOk (h : Run G A spec_SrcOk.b (params 0 cs) [] (QF true [.V] [.tmp 2] r)) : A 19 cs = some r := A_run T_spec_SrcOk h
theorem run_spec_l11DefNames (h : Run G A spec_l11DefNames.b (params 0 cs) [] (QF true [.V] [.tmp 2] r)) : A 20 cs = some r := A_run T_spec_l11DefNames h
theorem run_spec_l21All (h : Run G A spec_l21All.b (params 0 cs) [] (QF false [.V] [.tmp 2] r)) : A 21 cs = some r := A_run T_spec_l21All h
theorem run_spec_l5Free (h : Run G A spec_l5Free.b (params 0 cs) [] (QF true [.V, .V, .V, .O] [.tmp 8] r)) : A 22 cs = some r := A_run T_spec_l5Free h
theorem run_spec_l3In (h : Run G A spec_l3In.b (params 0 cs) [] (QF true [.V, .V] [.tmp 4] r)) : A 23 cs = some r := A_run T_spec_l3In h
theorem run_spec_Sets (h : Run G A spec_Sets.b (params 0 cs) [] (QF true [.V] [.tmp 2] r)) : A 24 cs = some r := A_run T_spec_Sets h
theorem run_laws_toTypeS (h : Run G A laws_toTypeS.b (params 0 cs) [] (QF true [.V] [.tmp 2] r)) : A 25 cs = some r := A_run T_laws_toTypeS h
theorem run_laws_toDefS (h : Run G A laws_toDefS.b (params 0 cs) [] (QF true [.V] [.tmp 2] r)) : A 26 cs = some r := A_run T_laws_toDefS h
theorem run_impl_SrcOk (h : Run G A impl_SrcOk.b (params 0 cs) [] (QF true [.V] [.tmp 2] r)) : A 27 cs = some r := A_run T_impl_SrcOk h
theorem run_impl_namesOfDefs (h : Run G A impl_namesOfDefs.b (params 0 cs) [] (QF true [.V] [.tmp 2] r)) : A 28 cs = some r := A_run T_impl_namesOfDefs h
theorem run_impl_Src_freeNames (h : Run G A impl_Src_freeNames.b (params 0 cs) [] (QF false [.M] [.tmp 2] r)) : A 29 cs = some r := A_run T_impl_Src_freeNames h
theorem run_impl_Src_progs (h : Run G A impl_Src_progs.b (params 0 cs) [] (QF false [.M] [.tmp 2] r)) : A 30 cs = some r := A_run T_impl_Src_progs h
theorem run_impl_addOnce (h : Run G A impl_addOnce.b (params 0 cs) [] (QF true [.O, .V] [.tmp 4] r)) : A 31 cs = some r := A_run T_impl_addOnce h
theorem run_impl_Sets (h : Run G A impl_Sets.b (params 0 cs) [] (QF true [.V] [.tmp 2] r)) : A 32 cs = some r := A_run T_impl_Sets h
theorem run_impl_less (h : Run G A impl_less.b (params 0 cs) [] (QF true [.V, .V] [.tmp 4] r)) : A 33 cs = some r := A_run T_impl_less h
theorem run_slices_Concat_impl_Note_impl_Note (h : Run G A slices_Concat_impl_Note_impl_Note.b (params 0 cs) [] (QF true [.V] [.tmp 2] r)) : A 34 cs = some r := A_run T_slices_Concat_impl_Note_impl_Note h
theorem run_impl_notesOf (h : Run G A impl_notesOf.b (params 0 cs) [] (QF true [.V, .V] [.tmp 4] r)) : A 35 cs = some r := A_run T_impl_notesOf h
theorem run_laws_eqNote (h : Run G A laws_eqNote.b (params 0 cs) [] (QF true [.V, .V] [.tmp 4] r)) : A 36 cs = some r := A_run T_laws_eqNote h
theorem run_laws_eqTypeS (h : Run G A laws_eqTypeS.b (params 0 cs) [] (QF true [.V, .V] [.tmp 4] r)) : A 37 cs = some r := A_run T_laws_eqTypeS h
theorem run_laws_eqDefS (h : Run G A laws_eqDefS.b (params 0 cs) [] (QF true [.V, .V] [.tmp 4] r)) : A 38 cs = some r := A_run T_laws_eqDefS h
theorem run_laws_markTypeS (h : Run G A laws_markTypeS.b (params 0 cs) [] (QF true [.M, .V] [.tmp 4] r)) : A 39 cs = some r := A_run T_laws_markTypeS h
theorem run_laws_markDefS (h : Run G A laws_markDefS.b (params 0 cs) [] (QF true [.M, .V] [.tmp 4] r)) : A 40 cs = some r := A_run T_laws_markDefS h
theorem run_laws_markText (h : Run G A laws_markText.b (params 0 cs) [] (QF true [.V] [.tmp 2] r)) : A 41 cs = some r := A_run T_laws_markText h
theorem runE_laws_markText {cs : List CV} {X : List CV → List CV → Prop} (h : Run G A laws_markText.b (params 0 cs) [] (QE true [.V] [.tmp 2] X)) : ∃ rs os, A 41 cs = some (rs, os) ∧ X rs os := A_runE T_laws_markText h
theorem run_laws_szType (h : Run G A laws_szType.b (params 0 cs) [] (QF true [.V, .V] [.tmp 4] r)) : A 42 cs = some r := A_run T_laws_szType h
theorem run_laws_szDef (h : Run G A laws_szDef.b (params 0 cs) [] (QF true [.V, .V] [.tmp 4] r)) : A 43 cs = some r := A_run T_laws_szDef h
theorem run_spec_IsName (h : Run G A spec_IsName.b (params 0 cs) [] (QF true [.V] [.tmp 2] r)) : A 44 cs = some r := A_run T_spec_IsName h
theorem run_spec_l11Many (h : Run G A spec_l11Many.b (params 0 cs) [] (QF true [.V] [.tmp 2] r)) : A 45 cs = some r := A_run T_spec_l11Many h
theorem run_spec_l11Dup (h : Run G A spec_l11Dup.b (params 0 cs) [] (QF true [.V] [.tmp 2] r)) : A 46 cs = some r := A_run T_spec_l11Dup h
theorem run_spec_l11Lacks (h : Run G A spec_l11Lacks.b (params 0 cs) [] (QF true [.V] [.tmp 2] r)) : A 47 cs = some r := A_run T_spec_l11Lacks h
theorem run_spec_l11All (h : Run G A spec_l11All.b (params 0 cs) [] (QF true [.V] [.tmp 2] r)) : A 48 cs = some r := A_run T_spec_l11All h
theorem run_spec_l11TypeNames (h : Run G A spec_l11TypeNames.b (params 0 cs) [] (QF true [.V] [.tmp 2] r)) : A 49 cs = some r := A_run T_spec_l11TypeNames h
theorem run_spec_l1In (h : Run G A spec_l1In.b (params 0 cs) [] (QF true [.V, .V, .V] [.tmp 6] r)) : A 50 cs = some r := A_run T_spec_l1In h
theorem run_spec_ProgOk (h : Run G A spec_ProgOk.b (params 0 cs) [] (QF true [.V] [.tmp 2] r)) : A 51 cs = some r := A_run T_spec_ProgOk h
theorem run_laws_toType (h : Run G A laws_toType.b (params 0 cs) [] (QF true [.V] [.cell 2 2 true] r)) : A 52 cs = some r := A_run T_laws_toType h
theorem run_laws_toDef (h : Run G A laws_toDef.b (params 0 cs) [] (QF true [.V] [.cell 2 3 true] r)) : A 53 cs = some r := A_run T_laws_toDef h
theorem run_impl_IsName (h : Run G A impl_IsName.b (params 0 cs) [] (QF true [.V] [.tmp 2] r)) : A 54 cs = some r := A_run T_impl_IsName h
theorem run_impl_Src_isFew (h : Run G A impl_Src_isFew.b (params 0 cs) [] (QF false [.M] [.tmp 2] r)) : A 55 cs = some r := A_run T_impl_Src_isFew h
theorem run_impl_Src_isUnlike (h : Run G A impl_Src_isUnlike.b (params 0 cs) [] (QF false [.M] [.tmp 2] r)) : A 56 cs = some r := A_run T_impl_Src_isUnlike h
theorem run_impl_Src_isFit (h : Run G A impl_Src_isFit.b (params 0 cs) [] (QF false [.M] [.tmp 2] r)) : A 57 cs = some r := A_run T_impl_Src_isFit h
theorem run_impl_allNames (h : Run G A impl_allNames.b (params 0 cs) [] (QF true [.V] [.tmp 2] r)) : A 58 cs = some r := A_run T_impl_allNames h
theorem run_impl_typesOk (h : Run G A impl_typesOk.b (params 0 cs) [] (QF true [.V] [.tmp 2] r)) : A 59 cs = some r := A_run T_impl_typesOk h
theorem run_impl_progsOk (h : Run G A impl_progsOk.b (params 0 cs) [] (QF true [.V] [.tmp 2] r)) : A 60 cs = some r := A_run T_impl_progsOk h
theorem run_impl_free (h : Run G A impl_free.b (params 0 cs) [] (QF false [.M, .V] [.tmp 4] r)) : A 61 cs = some r := A_run T_impl_free h
theorem run_slices_Concat_impl_Def_impl_Def (h : Run G A slices_Concat_impl_Def_impl_Def.b (params 0 cs) [] (QF false [.V] [.tmp 2] r)) : A 62 cs = some r := A_run T_slices_Concat_impl_Def_impl_Def h
theorem run_slices_Contains_string_string (h : Run G A slices_Contains_string_string.b (params 0 cs) [] (QF true [.V, .V] [.tmp 4] r)) : A 63 cs = some r := A_run T_slices_Contains_string_string h
theorem run_impl_ProgOk (h : Run G A impl_ProgOk.b (params 0 cs) [] (QF true [.V] [.tmp 2] r)) : A 64 cs = some r := A_run T_impl_ProgOk h
theorem run_laws_eqType (h : Run G A laws_eqType.b (params 0 cs) [] (QF true [.V, .V] [.tmp 4] r)) : A 66 cs = some r := A_run T_laws_eqType h
theorem run_laws_eqDef (h : Run G A laws_eqDef.b (params 0 cs) [] (QF true [.V, .V] [.tmp 4] r)) : A 67 cs = some r := A_run T_laws_eqDef h
theorem run_laws_markNodeS (h : Run G A laws_markNodeS.b (params 0 cs) [] (QF true [.M, .V] [.tmp 4] r)) : A 68 cs = some r := A_run T_laws_markNodeS h
theorem run_laws_szProg (h : Run G A laws_szProg.b (params 0 cs) [] (QF true [.V, .V] [.tmp 4] r)) : A 69 cs = some r := A_run T_laws_szProg h
theorem run_spec_l2Sym (h : Run G A spec_l2Sym.b (params 0 cs) [] (QF true [.V] [.tmp 2] r)) : A 70 cs = some r := A_run T_spec_l2Sym h
theorem run_spec_l3Word (h : Run G A spec_l3Word.b (params 0 cs) [] (QF true [.V] [.tmp 2] r)) : A 71 cs = some r := A_run T_spec_l3Word h
theorem run_spec_Arity (h : Run G A spec_Arity.b (params 0 cs) [] (QF true [.V] [.tmp 2] r)) : A 72 cs = some r := A_run T_spec_Arity h
theorem run_spec_l11Twice (h : Run G A spec_l11Twice.b (params 0 cs) [] (QF true [.V] [.tmp 2] r)) : A 73 cs = some r := A_run T_spec_l11Twice h
theorem run_spec_l3Node (h : Run G A spec_l3Node.b (params 0 cs) [] (QF true [.V] [.tmp 2] r)) : A 74 cs = some r := A_run T_spec_l3Node h
theorem run_laws_toProg (h : Run G A laws_toProg.b (params 0 cs) [] (QF true [.V] [.cell 2 2 true] r)) : A 75 cs = some r := A_run T_laws_toProg h
theorem run_impl_symOk (h : Run G A impl_symOk.b (params 0 cs) [] (QF true [.V] [.tmp 2] r)) : A 76 cs = some r := A_run T_impl_symOk h
theorem run_impl_isOneOf (h : Run G A impl_isOneOf.b (params 0 cs) [] (QF true [.V, .V] [.tmp 4] r)) : A 77 cs = some r := A_run T_impl_isOneOf h
theorem run_impl_Arity (h : Run G A impl_Arity.b (params 0 cs) [] (QF true [.V] [.tmp 2] r)) : A 78 cs = some r := A_run T_impl_Arity h
theorem run_impl_isOnce (h : Run G A impl_isOnce.b (params 0 cs) [] (QF true [.V] [.tmp 2] r)) : A 79 cs = some r := A_run T_impl_isOnce h
theorem run_impl_namesOfTypes (h : Run G A impl_namesOfTypes.b (params 0 cs) [] (QF true [.V] [.tmp 2] r)) : A 80 cs = some r := A_run T_impl_namesOfTypes h
theorem run_impl_areIn (h : Run G A impl_areIn.b (params 0 cs) [] (QF true [.V, .V] [.tmp 4] r)) : A 81 cs = some r := A_run T_impl_areIn h
theorem run_impl_inRange (h : Run G A impl_inRange.b (params 0 cs) [] (QF true [.V, .V, .V] [.tmp 6] r)) : A 82 cs = some r := A_run T_impl_inRange h
theorem run_impl_namesOk (h : Run G A impl_namesOk.b (params 0 cs) [] (QF true [.V, .V] [.tmp 4] r)) : A 83 cs = some r := A_run T_impl_namesOk h
theorem run_impl_seeker_seek (h : Run G A impl_seeker_seek.b (params 0 cs) [] (QF false [.M, .V, .V] [] r)) : A 84 cs = some r := A_run T_impl_seeker_seek h
theorem run_slices_Index_string_string (h : Run G A slices_Index_string_string.b (params 0 cs) [] (QF true [.V, .V] [.tmp 4] r)) : A 86 cs = some r := A_run T_slices_Index_string_string h
theorem run_impl_nodeOk (h : Run G A impl_nodeOk.b (params 0 cs) [] (QF true [.V] [.tmp 2] r)) : A 87 cs = some r := A_run T_impl_nodeOk h
theorem run_laws_eqProg (h : Run G A laws_eqProg.b (params 0 cs) [] (QF true [.V, .V] [.tmp 4] r)) : A 88 cs = some r := A_run T_laws_eqProg h
theorem run_laws_markIntS (h : Run G A laws_markIntS.b (params 0 cs) [] (QF true [.M, .V] [.tmp 4] r)) : A 89 cs = some r := A_run T_laws_markIntS h
theorem run_laws_szNodeS (h : Run G A laws_szNodeS.b (params 0 cs) [] (QF true [.V, .V] [.tmp 4] r)) : A 90 cs = some r := A_run T_laws_szNodeS h
theorem run_spec_l2Digit (h : Run G A spec_l2Digit.b (params 0 cs) [] (QF true [.V] [.tmp 2] r)) : A 91 cs = some r := A_run T_spec_l2Digit h
theorem run_spec_l2Sign (h : Run G A spec_l2Sign.b (params 0 cs) [] (QF true [.V] [.tmp 2] r)) : A 92 cs = some r := A_run T_spec_l2Sign h
theorem run_spec_ReadDec (h : Run G A spec_ReadDec.b (params 0 cs) [] (QF true [.V] [.tmp 2, .tmp 3] r)) : A 93 cs = some r := A_run T_spec_ReadDec h
theorem run_spec_l3Names (h : Run G A spec_l3Names.b (params 0 cs) [] (QF true [.V, .V] [.tmp 4] r)) : A 94 cs = some r := A_run T_spec_l3Names h
theorem run_spec_l3Prim (h : Run G A spec_l3Prim.b (params 0 cs) [] (QF true [.V] [.tmp 2] r)) : A 95 cs = some r := A_run T_spec_l3Prim h
theorem run_laws_toNodeS (h : Run G A laws_toNodeS.b (params 0 cs) [] (QF true [.V] [.tmp 2] r)) : A 96 cs = some r := A_run T_laws_toNodeS h
theorem run_impl_isSymByte (h : Run G A impl_isSymByte.b (params 0 cs) [] (QF true [.V] [.tmp 2] r)) : A 97 cs = some r := A_run T_impl_isSymByte h
theorem run_slices_Concat_string_string (h : Run G A slices_Concat_string_string.b (params 0 cs) [] (QF true [.V] [.tmp 2] r)) : A 100 cs = some r := A_run T_slices_Concat_string_string h
theorem run_impl_primOk (h : Run G A impl_primOk.b (params 0 cs) [] (QF true [.V] [.tmp 2] r)) : A 101 cs = some r := A_run T_impl_primOk h
theorem run_laws_eqNodeS (h : Run G A laws_eqNodeS.b (params 0 cs) [] (QF true [.V, .V] [.tmp 4] r)) : A 102 cs = some r := A_run T_laws_eqNodeS h
theorem run_laws_szNode (h : Run G A laws_szNode.b (params 0 cs) [] (QF true [.V, .V] [.tmp 4] r)) : A 103 cs = some r := A_run T_laws_szNode h
theorem run_spec_l2In (h : Run G A spec_l2In.b (params 0 cs) [] (QF true [.V, .V] [.tmp 4] r)) : A 104 cs = some r := A_run T_spec_l2In h
theorem run_spec_Dec (h : Run G A spec_Dec.b (params 0 cs) [] (QF true [.V] [.tmp 2] r)) : A 105 cs = some r := A_run T_spec_Dec h
theorem run_laws_toNode (h : Run G A laws_toNode.b (params 0 cs) [] (QF true [.V] [.cell 2 5 true] r)) : A 106 cs = some r := A_run T_laws_toNode h
theorem run_impl_isTyped (h : Run G A impl_isTyped.b (params 0 cs) [] (QF true [.V] [.tmp 2] r)) : A 113 cs = some r := A_run T_impl_isTyped h
theorem run_laws_eqNode (h : Run G A laws_eqNode.b (params 0 cs) [] (QF true [.V, .V] [.tmp 4] r)) : A 114 cs = some r := A_run T_laws_eqNode h
theorem run_laws_szIntS (h : Run G A laws_szIntS.b (params 0 cs) [] (QF true [.V, .V] [.tmp 4] r)) : A 115 cs = some r := A_run T_laws_szIntS h
theorem run_laws_toIntS (h : Run G A laws_toIntS.b (params 0 cs) [] (QF true [.V] [.tmp 2] r)) : A 116 cs = some r := A_run T_laws_toIntS h
theorem run_laws_eqIntS (h : Run G A laws_eqIntS.b (params 0 cs) [] (QF true [.V, .V] [.tmp 4] r)) : A 123 cs = some r := A_run T_laws_eqIntS h
theorem T_slices_Grow_impl_Note_impl_Note : T 65 = none := by kernel_rfl
@[simp] theorem G_65 : G 65 = some ⟨[.O, .V], true⟩ := by kernel_rfl
theorem P_slices_Grow_impl_Note_impl_Note (h : prim_slices_Grow_impl_Note_impl_Note.run cs = some r) : A 65 cs = some r := A_prim T_slices_Grow_impl_Note_impl_Note (by rw [← h]; rfl)
theorem T_slices_Grow_impl_Def_impl_Def : T 85 = none := by kernel_rfl
@[simp] theorem G_85 : G 85 = some ⟨[.O, .V], true⟩ := by kernel_rfl
theorem P_slices_Grow_impl_Def_impl_Def (h : prim_slices_Grow_impl_Def_impl_Def.run cs = some r) : A 85 cs = some r := A_prim T_slices_Grow_impl_Def_impl_Def (by rw [← h]; rfl)
theorem T_impl_ReadDec : T 98 = none := by kernel_rfl
@[simp] theorem G_98 : G 98 = some ⟨[.V], true⟩ := by kernel_rfl
theorem P_impl_ReadDec (h : prim_impl_ReadDec.run cs = some r) : A 98 cs = some r := A_prim T_impl_ReadDec (by rw [← h]; rfl)
theorem T_strings_Contains : T 99 = none := by kernel_rfl
@[simp] theorem G_99 : G 99 = some ⟨[.V, .V], true⟩ := by kernel_rfl
theorem P_strings_Contains (h : prim_strings_Contains.run cs = some r) : A 99 cs = some r := A_prim T_strings_Contains (by rw [← h]; rfl)
theorem T_strings_IndexByte : T 107 = none := by kernel_rfl
@[simp] theorem G_107 : G 107 = some ⟨[.V, .V], true⟩ := by kernel_rfl
theorem P_strings_IndexByte (h : prim_strings_IndexByte.run cs = some r) : A 107 cs = some r := A_prim T_strings_IndexByte (by rw [← h]; rfl)
theorem T_slices_Grow_string_string : T 112 = none := by kernel_rfl
@[simp] theorem G_112 : G 112 = some ⟨[.O, .V], true⟩ := by kernel_rfl
theorem P_slices_Grow_string_string (h : prim_slices_Grow_string_string.run cs = some r) : A 112 cs = some r := A_prim T_slices_Grow_string_string (by rw [← h]; rfl)
end Go.Proofs.YthkfnfppihgejaaGreatDoor.LN
