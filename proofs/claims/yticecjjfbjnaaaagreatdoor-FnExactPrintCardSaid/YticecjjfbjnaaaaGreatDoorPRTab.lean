/- The table of the functions. -/
import Derived.Test.YticecjjfbjnaaaaGreatDoorPRFn0
import Derived.Test.YticecjjfbjnaaaaGreatDoorEngM7
import Derived.Test.YticecjjfbjnaaaaGreatDoorEngPContains
import Derived.Test.YticecjjfbjnaaaaGreatDoorEngPIndexByte
import Derived.Test.YticecjjfbjnaaaaGreatDoorEngPItoa
import Derived.Test.YticecjjfbjnaaaaGreatDoorEngPJoin
import Derived.Test.YticecjjfbjnaaaaGreatDoorEngPReadDec
namespace Go.Proofs.YticecjjfbjnaaaaGreatDoor.PR
open Go Go.VS
set_option maxRecDepth 100000
set_option linter.unusedVariables false
set_option linter.unusedSimpArgs false
noncomputable def tab : List (Entry Tryz.prog) := [⟨5, laws_FnExactPrint, Tryz.f5, Tryz.func5, laws_FnExactPrint.turned⟩,
  ⟨19, laws_szProg, Tryz.f19, Tryz.func19, laws_szProg.turned⟩,
  ⟨21, laws_toProg, Tryz.f21, Tryz.func21, laws_toProg.turned⟩,
  ⟨24, laws_eqProg, Tryz.f24, Tryz.func24, laws_eqProg.turned⟩,
  ⟨28, spec_Print, Tryz.f28, Tryz.func28, spec_Print.turned⟩,
  ⟨29, impl_Print, Tryz.f29, Tryz.func29, impl_Print.turned⟩,
  ⟨72, laws_szNodeS, Tryz.f72, Tryz.func72, laws_szNodeS.turned⟩,
  ⟨74, laws_toNodeS, Tryz.f74, Tryz.func74, laws_toNodeS.turned⟩,
  ⟨78, laws_eqNodeS, Tryz.f78, Tryz.func78, laws_eqNodeS.turned⟩,
  ⟨32, spec_ProgOk, Tryz.f32, Tryz.func32, spec_ProgOk.turned⟩,
  ⟨81, spec_l23Hidden, Tryz.f81, Tryz.func81, spec_l23Hidden.turned⟩,
  ⟨82, spec_l23Text, Tryz.f82, Tryz.func82, spec_l23Text.turned⟩,
  ⟨76, impl_ProgOk, Tryz.f76, Tryz.func76, impl_ProgOk.turned⟩,
  ⟨83, impl_hasHidden, Tryz.f83, Tryz.func83, impl_hasHidden.turned⟩,
  ⟨84, impl_nodeText, Tryz.f84, Tryz.func84, impl_nodeText.turned⟩,
  ⟨131, laws_szNode, Tryz.f131, Tryz.func131, laws_szNode.turned⟩,
  ⟨132, laws_toNode, Tryz.f132, Tryz.func132, laws_toNode.turned⟩,
  ⟨135, laws_eqNode, Tryz.f135, Tryz.func135, laws_eqNode.turned⟩,
  ⟨65, spec_l1In, Tryz.f65, Tryz.func65, spec_l1In.turned⟩,
  ⟨86, spec_l3Node, Tryz.f86, Tryz.func86, spec_l3Node.turned⟩,
  ⟨88, spec_l3In, Tryz.f88, Tryz.func88, spec_l3In.turned⟩,
  ⟨137, spec_Dec, Tryz.f137, Tryz.func137, spec_Dec.turned⟩,
  ⟨138, spec_l23Words, Tryz.f138, Tryz.func138, spec_l23Words.turned⟩,
  ⟨75, impl_inRange, Tryz.f75, Tryz.func75, impl_inRange.turned⟩,
  ⟨133, impl_nodeOk, Tryz.f133, Tryz.func133, impl_nodeOk.turned⟩,
  ⟨139, slices_ContainsFunc_impl_Node_impl_Node, Tryz.f139, Tryz.func139, slices_ContainsFunc_impl_Node_impl_Node.turned⟩,
  ⟨140, impl_hasHidden_1, Tryz.f140, Tryz.func140, impl_hasHidden_1.turned⟩,
  ⟨142, impl_Dec, Tryz.f142, Tryz.func142, impl_Dec.turned⟩,
  ⟨143, impl_boolText, Tryz.f143, Tryz.func143, impl_boolText.turned⟩,
  ⟨144, impl_words, Tryz.f144, Tryz.func144, impl_words.turned⟩,
  ⟨92, laws_szStringS, Tryz.f92, Tryz.func92, laws_szStringS.turned⟩,
  ⟨181, laws_szIntS, Tryz.f181, Tryz.func181, laws_szIntS.turned⟩,
  ⟨97, laws_toStringS, Tryz.f97, Tryz.func97, laws_toStringS.turned⟩,
  ⟨182, laws_toIntS, Tryz.f182, Tryz.func182, laws_toIntS.turned⟩,
  ⟨23, laws_eqStringS, Tryz.f23, Tryz.func23, laws_eqStringS.turned⟩,
  ⟨185, laws_eqIntS, Tryz.f185, Tryz.func185, laws_eqIntS.turned⟩,
  ⟨66, spec_l2Sym, Tryz.f66, Tryz.func66, spec_l2Sym.turned⟩,
  ⟨126, spec_IsName, Tryz.f126, Tryz.func126, spec_IsName.turned⟩,
  ⟨147, spec_l3Names, Tryz.f147, Tryz.func147, spec_l3Names.turned⟩,
  ⟨148, spec_l3Prim, Tryz.f148, Tryz.func148, spec_l3Prim.turned⟩,
  ⟨121, impl_symOk, Tryz.f121, Tryz.func121, impl_symOk.turned⟩,
  ⟨168, impl_IsName, Tryz.f168, Tryz.func168, impl_IsName.turned⟩,
  ⟨169, impl_namesOk, Tryz.f169, Tryz.func169, impl_namesOk.turned⟩,
  ⟨183, impl_primOk, Tryz.f183, Tryz.func183, impl_primOk.turned⟩,
  ⟨186, slices_IndexFunc_impl_Node_impl_Node, Tryz.f186, Tryz.func186, slices_IndexFunc_impl_Node_impl_Node.turned⟩,
  ⟨141, slices_Contains_string_string, Tryz.f141, Tryz.func141, slices_Contains_string_string.turned⟩,
  ⟨127, spec_l2Digit, Tryz.f127, Tryz.func127, spec_l2Digit.turned⟩,
  ⟨128, spec_l2Sign, Tryz.f128, Tryz.func128, spec_l2Sign.turned⟩,
  ⟨129, spec_ReadDec, Tryz.f129, Tryz.func129, spec_ReadDec.turned⟩,
  ⟨178, spec_l3Word, Tryz.f178, Tryz.func178, spec_l3Word.turned⟩,
  ⟨179, spec_Arity, Tryz.f179, Tryz.func179, spec_Arity.turned⟩,
  ⟨173, impl_isSymByte, Tryz.f173, Tryz.func173, impl_isSymByte.turned⟩,
  ⟨210, impl_isOneOf, Tryz.f210, Tryz.func210, impl_isOneOf.turned⟩,
  ⟨211, impl_Arity, Tryz.f211, Tryz.func211, impl_Arity.turned⟩,
  ⟨187, slices_Index_string_string, Tryz.f187, Tryz.func187, slices_Index_string_string.turned⟩,
  ⟨215, impl_isTyped, Tryz.f215, Tryz.func215, impl_isTyped.turned⟩,
  ⟨180, spec_l2In, Tryz.f180, Tryz.func180, spec_l2In.turned⟩]
noncomputable def ptab : List (PEntry Tryz.prog LaidX) := [prim_strings_Join, prim_strconv_Itoa, prim_impl_ReadDec, prim_strings_IndexByte, prim_strings_Contains]
noncomputable def T : FuncId → Option VFn := tabT tab
noncomputable def G : Sigs := tabG tab ptab
noncomputable def A : Fns := lim G T (tabP ptab)
theorem A_run {f : FuncId} {vf : VFn} {cs : List CV} {r : List CV × List CV} (hT : T f = some vf) (h : Run G A vf.body (params 0 cs) [] (QF vf.sig.own vf.sig.modes vf.res r)) : A f cs = some r := lim_run hT h
theorem A_runE {f : FuncId} {vf : VFn} {cs : List CV} {X : List CV → List CV → Prop} (hT : T f = some vf) (h : Run G A vf.body (params 0 cs) [] (QE vf.sig.own vf.sig.modes vf.res X)) : ∃ rs os, A f cs = some (rs, os) ∧ X rs os := lim_runE hT h
theorem A_prim {f : FuncId} {cs : List CV} {r : List CV × List CV} (hT : T f = none) (h : tabP ptab f cs = some r) : A f cs = some r := lim_prim hT h
theorem A_answers {W : World} (hX : LaidX W) {f : FuncId} {g : Sig} {cs res outs : List CV} (hg : G f = some g) (h : A f cs = some (res, outs)) : Answers Tryz.prog W f cs res outs := lim_answers (tabT_ok tab ptab) (tabP_ok hX tab ptab) hg h
theorem ip {α : Sort _} {c : Prop} [Decidable c] {a b : α} : (c → (if c then a else b) = a) ∧ (¬ c → (if c then a else b) = b) := ⟨fun h => if_pos h, fun h => if_neg h⟩
theorem wr {n : Int} : (-9223372036854775808 ≤ n → n ≤ 9223372036854775807 → IntKind.i64.wrap n = n) ∧ (0 ≤ n → n ≤ 255 → IntKind.u8.wrap n = n) := ⟨wrap_i64, wrap_u8⟩
variable {cs : List CV} {r : List CV × List CV}
theorem T_laws_FnExactPrint : T 5 = some laws_FnExactPrint := by kernel_rfl
@[simp] theorem G_5 : G 5 = some ⟨[.V], true⟩ := by kernel_rfl
theorem T_laws_szProg : T 19 = some laws_szProg := by kernel_rfl
@[simp] theorem G_19 : G 19 = some ⟨[.V, .V], true⟩ := by kernel_rfl
theorem T_laws_toProg : T 21 = some laws_toProg := by kernel_rfl
@[simp] theorem G_21 : G 21 = some ⟨[.V], true⟩ := by kernel_rfl
theorem T_laws_eqProg : T 24 = some laws_eqProg := by kernel_rfl
@[simp] theorem G_24 : G 24 = some ⟨[.V, .V], true⟩ := by kernel_rfl
theorem T_spec_Print : T 28 = some spec_Print := by kernel_rfl
@[simp] theorem G_28 : G 28 = some ⟨[.V], true⟩ := by kernel_rfl
theorem T_impl_Print : T 29 = some impl_Print := by kernel_rfl
@[simp] theorem G_29 : G 29 = some ⟨[.V], true⟩ := by kernel_rfl
theorem T_laws_szNodeS : T 72 = some laws_szNodeS := by kernel_rfl
@[simp] theorem G_72 : G 72 = some ⟨[.V, .V], true⟩ := by kernel_rfl
theorem T_laws_toNodeS : T 74 = some laws_toNodeS := by kernel_rfl
@[simp] theorem G_74 : G 74 = some ⟨[.V], true⟩ := by kernel_rfl
theorem T_laws_eqNodeS : T 78 = some laws_eqNodeS := by kernel_rfl
@[simp] theorem G_78 : G 78 = some ⟨[.V, .V], true⟩ := by kernel_rfl
theorem T_spec_ProgOk : T 32 = some spec_ProgOk := by kernel_rfl
@[simp] theorem G_32 : G 32 = some ⟨[.V], true⟩ := by kernel_rfl
theorem T_spec_l23Hidden : T 81 = some spec_l23Hidden := by kernel_rfl
@[simp] theorem G_81 : G 81 = some ⟨[.V], true⟩ := by kernel_rfl
theorem T_spec_l23Text : T 82 = some spec_l23Text := by kernel_rfl
@[simp] theorem G_82 : G 82 = some ⟨[.V, .V], true⟩ := by kernel_rfl
theorem T_impl_ProgOk : T 76 = some impl_ProgOk := by kernel_rfl
@[simp] theorem G_76 : G 76 = some ⟨[.V], true⟩ := by kernel_rfl
theorem T_impl_hasHidden : T 83 = some impl_hasHidden := by kernel_rfl
@[simp] theorem G_83 : G 83 = some ⟨[.M], false⟩ := by kernel_rfl
theorem T_impl_nodeText : T 84 = some impl_nodeText := by kernel_rfl
@[simp] theorem G_84 : G 84 = some ⟨[.V, .V], true⟩ := by kernel_rfl
theorem T_laws_szNode : T 131 = some laws_szNode := by kernel_rfl
@[simp] theorem G_131 : G 131 = some ⟨[.V, .V], true⟩ := by kernel_rfl
theorem T_laws_toNode : T 132 = some laws_toNode := by kernel_rfl
@[simp] theorem G_132 : G 132 = some ⟨[.V], true⟩ := by kernel_rfl
theorem T_laws_eqNode : T 135 = some laws_eqNode := by kernel_rfl
@[simp] theorem G_135 : G 135 = some ⟨[.V, .V], true⟩ := by kernel_rfl
theorem T_spec_l1In : T 65 = some spec_l1In := by kernel_rfl
@[simp] theorem G_65 : G 65 = some ⟨[.V, .V, .V], true⟩ := by kernel_rfl
theorem T_spec_l3Node : T 86 = some spec_l3Node := by kernel_rfl
@[simp] theorem G_86 : G 86 = some ⟨[.V], true⟩ := by kernel_rfl
theorem T_spec_l3In : T 88 = some spec_l3In := by kernel_rfl
@[simp] theorem G_88 : G 88 = some ⟨[.V, .V], true⟩ := by kernel_rfl
theorem T_spec_Dec : T 137 = some spec_Dec := by kernel_rfl
@[simp] theorem G_137 : G 137 = some ⟨[.V], true⟩ := by kernel_rfl
theorem T_spec_l23Words : T 138 = some spec_l23Words := by kernel_rfl
@[simp] theorem G_138 : G 138 = some ⟨[.V], true⟩ := by kernel_rfl
theorem T_impl_inRange : T 75 = some impl_inRange := by kernel_rfl
@[simp] theorem G_75 : G 75 = some ⟨[.V, .V, .V], true⟩ := by kernel_rfl
theorem T_impl_nodeOk : T 133 = some impl_nodeOk := by kernel_rfl
@[simp] theorem G_133 : G 133 = some ⟨[.V], true⟩ := by kernel_rfl
theorem T_slices_ContainsFunc_impl_Node_impl_Node : T 139 = some slices_ContainsFunc_impl_Node_impl_Node := by kernel_rfl
@[simp] theorem G_139 : G 139 = some ⟨[.V, .V], true⟩ := by kernel_rfl
theorem T_impl_hasHidden_1 : T 140 = some impl_hasHidden_1 := by kernel_rfl
@[simp] theorem G_140 : G 140 = some ⟨[.V], true⟩ := by kernel_rfl
theorem T_impl_Dec : T 142 = some impl_Dec := by kernel_rfl
@[simp] theorem G_142 : G 142 = some ⟨[.V], true⟩ := by kernel_rfl
theorem T_impl_boolText : T 143 = some impl_boolText := by kernel_rfl
@[simp] theorem G_143 : G 143 = some ⟨[.V], true⟩ := by kernel_rfl
theorem T_impl_words : T 144 = some impl_words := by kernel_rfl
@[simp] theorem G_144 : G 144 = some ⟨[.V], true⟩ := by kernel_rfl
theorem T_laws_szStringS : T 92 = some laws_szStringS := by kernel_rfl
@[simp] theorem G_92 : G 92 = some ⟨[.V, .V], true⟩ := by kernel_rfl
theorem T_laws_szIntS : T 181 = some laws_szIntS := by kernel_rfl
@[simp] theorem G_181 : G 181 = some ⟨[.V, .V], true⟩ := by kernel_rfl
theorem T_laws_toStringS : T 97 = some laws_toStringS := by kernel_rfl
@[simp] theorem G_97 : G 97 = some ⟨[.V], true⟩ := by kernel_rfl
theorem T_laws_toIntS : T 182 = some laws_toIntS := by kernel_rfl
@[simp] theorem G_182 : G 182 = some ⟨[.V], true⟩ := by kernel_rfl
theorem T_laws_eqStringS : T 23 = some laws_eqStringS := by kernel_rfl
@[simp] theorem G_23 : G 23 = some ⟨[.V, .V], true⟩ := by kernel_rfl
theorem T_laws_eqIntS : T 185 = some laws_eqIntS := by kernel_rfl
@[simp] theorem G_185 : G 185 = some ⟨[.V, .V], true⟩ := by kernel_rfl
theorem T_spec_l2Sym : T 66 = some spec_l2Sym := by kernel_rfl
@[simp] theorem G_66 : G 66 = some ⟨[.V], true⟩ := by kernel_rfl
theorem T_spec_IsName : T 126 = some spec_IsName := by kernel_rfl
@[simp] theorem G_126 : G 126 = some ⟨[.V], true⟩ := by kernel_rfl
theorem T_spec_l3Names : T 147 = some spec_l3Names := by kernel_rfl
@[simp] theorem G_147 : G 147 = some ⟨[.V, .V], true⟩ := by kernel_rfl
theorem T_spec_l3Prim : T 148 = some spec_l3Prim := by kernel_rfl
@[simp] theorem G_148 : G 148 = some ⟨[.V], true⟩ := by kernel_rfl
theorem T_impl_symOk : T 121 = some impl_symOk := by kernel_rfl
@[simp] theorem G_121 : G 121 = some ⟨[.V], true⟩ := by kernel_rfl
theorem T_impl_IsName : T 168 = some impl_IsName := by kernel_rfl
@[simp] theorem G_168 : G 168 = some ⟨[.V], true⟩ := by kernel_rfl
theorem T_impl_namesOk : T 169 = some impl_namesOk := by kernel_rfl
@[simp] theorem G_169 : G 169 = some ⟨[.V, .V], true⟩ := by kernel_rfl
theorem T_impl_primOk : T 183 = some impl_primOk := by kernel_rfl
@[simp] theorem G_183 : G 183 = some ⟨[.V], true⟩ := by kernel_rfl
theorem T_slices_IndexFunc_impl_Node_impl_Node : T 186 = some slices_IndexFunc_impl_Node_impl_Node := by kernel_rfl
@[simp] theorem G_186 : G 186 = some ⟨[.V, .V], true⟩ := by kernel_rfl
theorem T_slices_Contains_string_string : T 141 = some slices_Contains_string_string := by kernel_rfl
@[simp] theorem G_141 : G 141 = some ⟨[.V, .V], true⟩ := by kernel_rfl
theorem T_spec_l2Digit : T 127 = some spec_l2Digit := by kernel_rfl
@[simp] theorem G_127 : G 127 = some ⟨[.V], true⟩ := by kernel_rfl
theorem T_spec_l2Sign : T 128 = some spec_l2Sign := by kernel_rfl
@[simp] theorem G_128 : G 128 = some ⟨[.V], true⟩ := by kernel_rfl
theorem T_spec_ReadDec : T 129 = some spec_ReadDec := by kernel_rfl
@[simp] theorem G_129 : G 129 = some ⟨[.V], true⟩ := by kernel_rfl
theorem T_spec_l3Word : T 178 = some spec_l3Word := by kernel_rfl
@[simp] theorem G_178 : G 178 = some ⟨[.V], true⟩ := by kernel_rfl
theorem T_spec_Arity : T 179 = some spec_Arity := by kernel_rfl
@[simp] theorem G_179 : G 179 = some ⟨[.V], true⟩ := by kernel_rfl
theorem T_impl_isSymByte : T 173 = some impl_isSymByte := by kernel_rfl
@[simp] theorem G_173 : G 173 = some ⟨[.V], true⟩ := by kernel_rfl
theorem T_impl_isOneOf : T 210 = some impl_isOneOf := by kernel_rfl
@[simp] theorem G_210 : G 210 = some ⟨[.V, .V], true⟩ := by kernel_rfl
theorem T_impl_Arity : T 211 = some impl_Arity := by kernel_rfl
@[simp] theorem G_211 : G 211 = some ⟨[.V], true⟩ := by kernel_rfl
theorem T_slices_Index_string_string : T 187 = some slices_Index_string_string := by kernel_rfl
@[simp] theorem G_187 : G 187 = some ⟨[.V, .V], true⟩ := by kernel_rfl
theorem T_impl_isTyped : T 215 = some impl_isTyped := by kernel_rfl
@[simp] theorem G_215 : G 215 = some ⟨[.V], true⟩ := by kernel_rfl
theorem T_spec_l2In : T 180 = some spec_l2In := by kernel_rfl
@[simp] theorem G_180 : G 180 = some ⟨[.V, .V], true⟩ := by kernel_rfl
theorem run_laws_FnExactPrint (h : Run G A laws_FnExactPrint.b (params 0 cs) [] (QF true [.V] [.tmp 2] r)) : A 5 cs = some r := A_run T_laws_FnExactPrint h
theorem run_laws_szProg (h : Run G A laws_szProg.b (params 0 cs) [] (QF true [.V, .V] [.tmp 4] r)) : A 19 cs = some r := A_run T_laws_szProg h
theorem run_laws_toProg (h : Run G A laws_toProg.b (params 0 cs) [] (QF true [.V] [.cell 2 2 true] r)) : A 21 cs = some r := A_run T_laws_toProg h
theorem run_laws_eqProg (h : Run G A laws_eqProg.b (params 0 cs) [] (QF true [.V, .V] [.tmp 4] r)) : A 24 cs = some r := A_run T_laws_eqProg h
theorem run_spec_Print (h : Run G A spec_Print.b (params 0 cs) [] (QF true [.V] [.tmp 2, .tmp 3] r)) : A 28 cs = some r := A_run T_spec_Print h
theorem run_impl_Print (h : Run G A impl_Print.b (params 0 cs) [] (QF true [.V] [.tmp 2, .tmp 3] r)) : A 29 cs = some r := A_run T_impl_Print h
theorem run_laws_szNodeS (h : Run G A laws_szNodeS.b (params 0 cs) [] (QF true [.V, .V] [.tmp 4] r)) : A 72 cs = some r := A_run T_laws_szNodeS h
theorem run_laws_toNodeS (h : Run G A laws_toNodeS.b (params 0 cs) [] (QF true [.V] [.tmp 2] r)) : A 74 cs = some r := A_run T_laws_toNodeS h
theorem run_laws_eqNodeS (h : Run G A laws_eqNodeS.b (params 0 cs) [] (QF true [.V, .V] [.tmp 4] r)) : A 78 cs = some r := A_run T_laws_eqNodeS h
theorem run_spec_ProgOk (h : Run G A spec_ProgOk.b (params 0 cs) [] (QF true [.V] [.tmp 2] r)) : A 32 cs = some r := A_run T_spec_ProgOk h
theorem run_spec_l23Hidden (h : Run G A spec_l23Hidden.b (params 0 cs) [] (QF true [.V] [.tmp 2] r)) : A 81 cs = some r := A_run T_spec_l23Hidden h
theorem run_spec_l23Text (h : Run G A spec_l23Text.b (params 0 cs) [] (QF true [.V, .V] [.tmp 4] r)) : A 82 cs = some r := A_run T_spec_l23Text h
theorem run_impl_ProgOk (h : Run G A impl_ProgOk.b (params 0 cs) [] (QF true [.V] [.tmp 2] r)) : A 76 cs = some r := A_run T_impl_ProgOk h
theorem run_impl_hasHidden (h : Run G A impl_hasHidden.b (params 0 cs) [] (QF false [.M] [.tmp 2] r)) : A 83 cs = some r := A_run T_impl_hasHidden h
theorem run_impl_nodeText (h : Run G A impl_nodeText.b (params 0 cs) [] (QF true [.V, .V] [.tmp 4] r)) : A 84 cs = some r := A_run T_impl_nodeText h
theorem run_laws_szNode (h : Run G A laws_szNode.b (params 0 cs) [] (QF true [.V, .V] [.tmp 4] r)) : A 131 cs = some r := A_run T_laws_szNode h
theorem run_laws_toNode (h : Run G A laws_toNode.b (params 0 cs) [] (QF true [.V] [.cell 2 5 true] r)) : A 132 cs = some r := A_run T_laws_toNode h
theorem run_laws_eqNode (h : Run G A laws_eqNode.b (params 0 cs) [] (QF true [.V, .V] [.tmp 4] r)) : A 135 cs = some r := A_run T_laws_eqNode h
theorem run_spec_l1In (h : Run G A spec_l1In.b (params 0 cs) [] (QF true [.V, .V, .V] [.tmp 6] r)) : A 65 cs = some r := A_run T_spec_l1In h
theorem run_spec_l3Node (h : Run G A spec_l3Node.b (params 0 cs) [] (QF true [.V] [.tmp 2] r)) : A 86 cs = some r := A_run T_spec_l3Node h
theorem run_spec_l3In (h : Run G A spec_l3In.b (params 0 cs) [] (QF true [.V, .V] [.tmp 4] r)) : A 88 cs = some r := A_run T_spec_l3In h
theorem run_spec_Dec (h : Run G A spec_Dec.b (params 0 cs) [] (QF true [.V] [.tmp 2] r)) : A 137 cs = some r := A_run T_spec_Dec h
theorem run_spec_l23Words (h : Run G A spec_l23Words.b (params 0 cs) [] (QF true [.V] [.tmp 2] r)) : A 138 cs = some r := A_run T_spec_l23Words h
theorem run_impl_inRange (h : Run G A impl_inRange.b (params 0 cs) [] (QF true [.V, .V, .V] [.tmp 6] r)) : A 75 cs = some r := A_run T_impl_inRange h
theorem run_impl_nodeOk (h : Run G A impl_nodeOk.b (params 0 cs) [] (QF true [.V] [.tmp 2] r)) : A 133 cs = some r := A_run T_impl_nodeOk h
theorem run_slices_ContainsFunc_impl_Node_impl_Node (h : Run G A slices_ContainsFunc_impl_Node_impl_Node.b (params 0 cs) [] (QF true [.V, .V] [.tmp 4] r)) : A 139 cs = some r := A_run T_slices_ContainsFunc_impl_Node_impl_Node h
theorem run_impl_hasHidden_1 (h : Run G A impl_hasHidden_1.b (params 0 cs) [] (QF true [.V] [.tmp 2] r)) : A 140 cs = some r := A_run T_impl_hasHidden_1 h
theorem run_impl_Dec (h : Run G A impl_Dec.b (params 0 cs) [] (QF true [.V] [.tmp 2] r)) : A 142 cs = some r := A_run T_impl_Dec h
theorem run_impl_boolText (h : Run G A impl_boolText.b (params 0 cs) [] (QF true [.V] [.tmp 2] r)) : A 143 cs = some r := A_run T_impl_boolText h
theorem run_impl_words (h : Run G A impl_words.b (params 0 cs) [] (QF true [.V] [.tmp 2] r)) : A 144 cs = some r := A_run T_impl_words h
theorem run_laws_szStringS (h : Run G A laws_szStringS.b (params 0 cs) [] (QF true [.V, .V] [.tmp 4] r)) : A 92 cs = some r := A_run T_laws_szStringS h
theorem run_laws_szIntS (h : Run G A laws_szIntS.b (params 0 cs) [] (QF true [.V, .V] [.tmp 4] r)) : A 181 cs = some r := A_run T_laws_szIntS h
theorem run_laws_toStringS (h : Run G A laws_toStringS.b (params 0 cs) [] (QF true [.V] [.tmp 2] r)) : A 97 cs = some r := A_run T_laws_toStringS h
theorem run_laws_toIntS (h : Run G A laws_toIntS.b (params 0 cs) [] (QF true [.V] [.tmp 2] r)) : A 182 cs = some r := A_run T_laws_toIntS h
theorem run_laws_eqStringS (h : Run G A laws_eqStringS.b (params 0 cs) [] (QF true [.V, .V] [.tmp 4] r)) : A 23 cs = some r := A_run T_laws_eqStringS h
theorem run_laws_eqIntS (h : Run G A laws_eqIntS.b (params 0 cs) [] (QF true [.V, .V] [.tmp 4] r)) : A 185 cs = some r := A_run T_laws_eqIntS h
theorem run_spec_l2Sym (h : Run G A spec_l2Sym.b (params 0 cs) [] (QF true [.V] [.tmp 2] r)) : A 66 cs = some r := A_run T_spec_l2Sym h
theorem run_spec_IsName (h : Run G A spec_IsName.b (params 0 cs) [] (QF true [.V] [.tmp 2] r)) : A 126 cs = some r := A_run T_spec_IsName h
theorem run_spec_l3Names (h : Run G A spec_l3Names.b (params 0 cs) [] (QF true [.V, .V] [.tmp 4] r)) : A 147 cs = some r := A_run T_spec_l3Names h
theorem run_spec_l3Prim (h : Run G A spec_l3Prim.b (params 0 cs) [] (QF true [.V] [.tmp 2] r)) : A 148 cs = some r := A_run T_spec_l3Prim h
theorem run_impl_symOk (h : Run G A impl_symOk.b (params 0 cs) [] (QF true [.V] [.tmp 2] r)) : A 121 cs = some r := A_run T_impl_symOk h
theorem run_impl_IsName (h : Run G A impl_IsName.b (params 0 cs) [] (QF true [.V] [.tmp 2] r)) : A 168 cs = some r := A_run T_impl_IsName h
theorem run_impl_namesOk (h : Run G A impl_namesOk.b (params 0 cs) [] (QF true [.V, .V] [.tmp 4] r)) : A 169 cs = some r := A_run T_impl_namesOk h
theorem run_impl_primOk (h : Run G A impl_primOk.b (params 0 cs) [] (QF true [.V] [.tmp 2] r)) : A 183 cs = some r := A_run T_impl_primOk h
theorem run_slices_IndexFunc_impl_Node_impl_Node (h : Run G A slices_IndexFunc_impl_Node_impl_Node.b (params 0 cs) [] (QF true [.V, .V] [.tmp 4] r)) : A 186 cs = some r := A_run T_slices_IndexFunc_impl_Node_impl_Node h
theorem run_slices_Contains_string_string (h : Run G A slices_Contains_string_string.b (params 0 cs) [] (QF true [.V, .V] [.tmp 4] r)) : A 141 cs = some r := A_run T_slices_Contains_string_string h
theorem run_spec_l2Digit (h : Run G A spec_l2Digit.b (params 0 cs) [] (QF true [.V] [.tmp 2] r)) : A 127 cs = some r := A_run T_spec_l2Digit h
theorem run_spec_l2Sign (h : Run G A spec_l2Sign.b (params 0 cs) [] (QF true [.V] [.tmp 2] r)) : A 128 cs = some r := A_run T_spec_l2Sign h
theorem run_spec_ReadDec (h : Run G A spec_ReadDec.b (params 0 cs) [] (QF true [.V] [.tmp 2, .tmp 3] r)) : A 129 cs = some r := A_run T_spec_ReadDec h
theorem run_spec_l3Word (h : Run G A spec_l3Word.b (params 0 cs) [] (QF true [.V] [.tmp 2] r)) : A 178 cs = some r := A_run T_spec_l3Word h
theorem run_spec_Arity (h : Run G A spec_Arity.b (params 0 cs) [] (QF true [.V] [.tmp 2] r)) : A 179 cs = some r := A_run T_spec_Arity h
theorem run_impl_isSymByte (h : Run G A impl_isSymByte.b (params 0 cs) [] (QF true [.V] [.tmp 2] r)) : A 173 cs = some r := A_run T_impl_isSymByte h
theorem run_impl_isOneOf (h : Run G A impl_isOneOf.b (params 0 cs) [] (QF true [.V, .V] [.tmp 4] r)) : A 210 cs = some r := A_run T_impl_isOneOf h
theorem run_impl_Arity (h : Run G A impl_Arity.b (params 0 cs) [] (QF true [.V] [.tmp 2] r)) : A 211 cs = some r := A_run T_impl_Arity h
theorem run_slices_Index_string_string (h : Run G A slices_Index_string_string.b (params 0 cs) [] (QF true [.V, .V] [.tmp 4] r)) : A 187 cs = some r := A_run T_slices_Index_string_string h
theorem run_impl_isTyped (h : Run G A impl_isTyped.b (params 0 cs) [] (QF true [.V] [.tmp 2] r)) : A 215 cs = some r := A_run T_impl_isTyped h
theorem run_spec_l2In (h : Run G A spec_l2In.b (params 0 cs) [] (QF true [.V, .V] [.tmp 4] r)) : A 180 cs = some r := A_run T_spec_l2In h
theorem T_strings_Join : T 145 = none := by kernel_rfl
@[simp] theorem G_145 : G 145 = some ⟨[.V, .V], true⟩ := by kernel_rfl
theorem P_strings_Join (h : prim_strings_Join.run cs = some r) : A 145 cs = some r := A_prim T_strings_Join (by rw [← h]; rfl)
theorem T_strconv_Itoa : T 188 = none := by kernel_rfl
@[simp] theorem G_188 : G 188 = some ⟨[.V], true⟩ := by kernel_rfl
theorem P_strconv_Itoa (h : prim_strconv_Itoa.run cs = some r) : A 188 cs = some r := A_prim T_strconv_Itoa (by rw [← h]; rfl)
theorem T_impl_ReadDec : T 174 = none := by kernel_rfl
@[simp] theorem G_174 : G 174 = some ⟨[.V], true⟩ := by kernel_rfl
theorem P_impl_ReadDec (h : prim_impl_ReadDec.run cs = some r) : A 174 cs = some r := A_prim T_impl_ReadDec (by rw [← h]; rfl)
theorem T_strings_IndexByte : T 212 = none := by kernel_rfl
@[simp] theorem G_212 : G 212 = some ⟨[.V, .V], true⟩ := by kernel_rfl
theorem P_strings_IndexByte (h : prim_strings_IndexByte.run cs = some r) : A 212 cs = some r := A_prim T_strings_IndexByte (by rw [← h]; rfl)
theorem T_strings_Contains : T 233 = none := by kernel_rfl
@[simp] theorem G_233 : G 233 = some ⟨[.V, .V], true⟩ := by kernel_rfl
theorem P_strings_Contains (h : prim_strings_Contains.run cs = some r) : A 233 cs = some r := A_prim T_strings_Contains (by rw [← h]; rfl)
end Go.Proofs.YticecjjfbjnaaaaGreatDoor.PR
