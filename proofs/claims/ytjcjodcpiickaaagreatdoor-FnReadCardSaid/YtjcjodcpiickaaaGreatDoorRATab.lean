/- The table of the functions. -/
import Derived.Test.YtjcjodcpiickaaaGreatDoorRAFn0
import Derived.Test.YtjcjodcpiickaaaGreatDoorEngM7
import Derived.Test.YtjcjodcpiickaaaGreatDoorEngPBld
import Derived.Test.YtjcjodcpiickaaaGreatDoorEngPIndexByte
import Derived.Test.YtjcjodcpiickaaaGreatDoorEngPItoa
import Derived.Test.YtjcjodcpiickaaaGreatDoorEngPList
import Derived.Test.YtjcjodcpiickaaaGreatDoorEngPReadDec
namespace Go.Proofs.YtjcjodcpiickaaaGreatDoor.RA
open Go Go.VS
set_option maxRecDepth 100000
set_option linter.unusedVariables false
set_option linter.unusedSimpArgs false
noncomputable def tab : List (Entry Tryz.prog) := [⟨3, laws_FnRead, Tryz.f3, Tryz.func3, laws_FnRead.turned⟩,
  ⟨10, laws_big, Tryz.f10, Tryz.func10, laws_big.turned⟩,
  ⟨11, spec_DrawRead, Tryz.f11, Tryz.func11, spec_DrawRead.turned⟩,
  ⟨12, impl_Read, Tryz.f12, Tryz.func12, impl_Read.turned⟩,
  ⟨13, spec_Read, Tryz.f13, Tryz.func13, spec_Read.turned⟩,
  ⟨14, impl_Show, Tryz.f14, Tryz.func14, impl_Show.turned⟩,
  ⟨15, spec_DrawDataOk, Tryz.f15, Tryz.func15, spec_DrawDataOk.turned⟩,
  ⟨16, impl_DataOk, Tryz.f16, Tryz.func16, impl_DataOk.turned⟩,
  ⟨17, laws_sameData, Tryz.f17, Tryz.func17, laws_sameData.turned⟩,
  ⟨18, spec_DataOk, Tryz.f18, Tryz.func18, spec_DataOk.turned⟩,
  ⟨59, spec_l1New, Tryz.f59, Tryz.func59, spec_l1New.turned⟩,
  ⟨60, spec_l2Text, Tryz.f60, Tryz.func60, spec_l2Text.turned⟩,
  ⟨61, spec_l1Size, Tryz.f61, Tryz.func61, spec_l1Size.turned⟩,
  ⟨62, spec_l1Once, Tryz.f62, Tryz.func62, spec_l1Once.turned⟩,
  ⟨63, spec_l1Spoil, Tryz.f63, Tryz.func63, spec_l1Spoil.turned⟩,
  ⟨64, impl_reader_isOver, Tryz.f64, Tryz.func64, impl_reader_isOver.turned⟩,
  ⟨65, impl_reader_following, Tryz.f65, Tryz.func65, impl_reader_following.turned⟩,
  ⟨66, spec_l2Skip, Tryz.f66, Tryz.func66, spec_l2Skip.turned⟩,
  ⟨67, spec_l2Datum, Tryz.f67, Tryz.func67, spec_l2Datum.turned⟩,
  ⟨68, impl_Data_isWhole, Tryz.f68, Tryz.func68, impl_Data_isWhole.turned⟩,
  ⟨69, impl_Data_show, Tryz.f69, Tryz.func69, impl_Data_show.turned⟩,
  ⟨72, spec_l2Data, Tryz.f72, Tryz.func72, spec_l2Data.turned⟩,
  ⟨73, slices_Equal_impl_Datum_impl_Datum, Tryz.f73, Tryz.func73, slices_Equal_impl_Datum_impl_Datum.turned⟩,
  ⟨74, slices_Equal_int_int, Tryz.f74, Tryz.func74, slices_Equal_int_int.turned⟩,
  ⟨75, laws_sameInts, Tryz.f75, Tryz.func75, laws_sameInts.turned⟩,
  ⟨76, spec_Show, Tryz.f76, Tryz.func76, spec_Show.turned⟩,
  ⟨77, spec_l2Same, Tryz.f77, Tryz.func77, spec_l2Same.turned⟩,
  ⟨88, spec_l1Below, Tryz.f88, Tryz.func88, spec_l1Below.turned⟩,
  ⟨127, spec_l1Pick, Tryz.f127, Tryz.func127, spec_l1Pick.turned⟩,
  ⟨145, spec_l2Form, Tryz.f145, Tryz.func145, spec_l2Form.turned⟩,
  ⟨146, spec_l1Text, Tryz.f146, Tryz.func146, spec_l1Text.turned⟩,
  ⟨147, spec_l1Byte, Tryz.f147, Tryz.func147, spec_l1Byte.turned⟩,
  ⟨148, impl_reader_skip, Tryz.f148, Tryz.func148, impl_reader_skip.turned⟩,
  ⟨149, impl_reader_read, Tryz.f149, Tryz.func149, impl_reader_read.turned⟩,
  ⟨150, impl_reader_datum, Tryz.f150, Tryz.func150, impl_reader_datum.turned⟩,
  ⟨151, spec_l2Blank, Tryz.f151, Tryz.func151, spec_l2Blank.turned⟩,
  ⟨152, spec_l2Token, Tryz.f152, Tryz.func152, spec_l2Token.turned⟩,
  ⟨153, spec_l2Fail, Tryz.f153, Tryz.func153, spec_l2Fail.turned⟩,
  ⟨154, spec_l2Put, Tryz.f154, Tryz.func154, spec_l2Put.turned⟩,
  ⟨155, spec_l2List, Tryz.f155, Tryz.func155, spec_l2List.turned⟩,
  ⟨156, spec_l2Atom, Tryz.f156, Tryz.func156, spec_l2Atom.turned⟩,
  ⟨99, impl_inRange, Tryz.f99, Tryz.func99, impl_inRange.turned⟩,
  ⟨158, impl_Dec, Tryz.f158, Tryz.func158, impl_Dec.turned⟩,
  ⟨159, impl_boolText, Tryz.f159, Tryz.func159, impl_boolText.turned⟩,
  ⟨161, spec_l2Tree, Tryz.f161, Tryz.func161, spec_l2Tree.turned⟩,
  ⟨162, spec_l2Show, Tryz.f162, Tryz.func162, spec_l2Show.turned⟩,
  ⟨212, impl_isRunByte, Tryz.f212, Tryz.func212, impl_isRunByte.turned⟩,
  ⟨213, impl_reader_inner, Tryz.f213, Tryz.func213, impl_reader_inner.turned⟩,
  ⟨214, impl_reader_put, Tryz.f214, Tryz.func214, impl_reader_put.turned⟩,
  ⟨216, impl_atom, Tryz.f216, Tryz.func216, impl_atom.turned⟩,
  ⟨173, spec_l2Sign, Tryz.f173, Tryz.func173, spec_l2Sign.turned⟩,
  ⟨217, spec_l2In, Tryz.f217, Tryz.func217, spec_l2In.turned⟩,
  ⟨85, spec_l1In, Tryz.f85, Tryz.func85, spec_l1In.turned⟩,
  ⟨86, spec_l2Sym, Tryz.f86, Tryz.func86, spec_l2Sym.turned⟩,
  ⟨174, spec_ReadDec, Tryz.f174, Tryz.func174, spec_ReadDec.turned⟩,
  ⟨220, spec_Dec, Tryz.f220, Tryz.func220, spec_Dec.turned⟩,
  ⟨221, impl_isSymByte, Tryz.f221, Tryz.func221, impl_isSymByte.turned⟩,
  ⟨167, impl_symOk, Tryz.f167, Tryz.func167, impl_symOk.turned⟩,
  ⟨172, spec_l2Digit, Tryz.f172, Tryz.func172, spec_l2Digit.turned⟩]
noncomputable def ptab : List (PEntry Tryz.prog LaidX) := [prim_strings_Builder_WriteByte, prim_strings_Builder_String, prim_strings_Builder_WriteString, prim_strings_IndexByte, prim_impl_reader_list, prim_strconv_Itoa, prim_impl_ReadDec]
noncomputable def T : FuncId → Option VFn := tabT tab
noncomputable def G : Sigs := tabG tab ptab
noncomputable def A : Fns := lim G T (tabP ptab)
theorem A_run {f : FuncId} {vf : VFn} {cs : List CV} {r : List CV × List CV} (hT : T f = some vf) (h : Run G A vf.body (params 0 cs) [] (QF vf.sig.own vf.sig.modes vf.res r)) : A f cs = some r := lim_run hT h
theorem A_runE {f : FuncId} {vf : VFn} {cs : List CV} {X : List CV → List CV → Prop} (hT : T f = some vf) (h : Run G A vf.body (params 0 cs) [] (QE vf.sig.own vf.sig.modes vf.res X)) : ∃ rs os, A f cs = some (rs, os) ∧ X rs os := lim_runE hT h
theorem A_prim {f : FuncId} {cs : List CV} {r : List CV × List CV} (hT : T f = none) (h : tabP ptab f cs = some r) : A f cs = some r := lim_prim hT h
theorem A_answers {W : World} (hX : LaidX W) {f : FuncId} {g : Sig} {cs res outs : List CV} (hg : G f = some g) (h : A f cs = some (res, outs)) : Answers Tryz.prog W f cs res outs := lim_answers (tabT_ok tab ptab) (tabP_ok hX tab ptab) hg h
theorem ip {α : Sort _} {c : Prop} [Decidable c] {a b : α} : (c → (if c then a else b) = a) ∧ (¬ c → (if c then a else b) = b) := ⟨fun h => if_pos h, fun h => if_neg h⟩
theorem wr {n : Int} : (-9223372036854775808 ≤ n → n ≤ 9223372036854775807 → IntKind.i64.wrap n = n) ∧ (0 ≤ n → n ≤ 255 → IntKind.u8.wrap n = n) := ⟨wrap_i64, wrap_u8⟩
variable {cs : List CV} {r : List CV × List CV}
theorem T_laws_FnRead : T 3 = some laws_FnRead := by kernel_rfl
@[simp] theorem G_3 : G 3 = some ⟨[.V], true⟩ := by kernel_rfl
theorem T_laws_big : T 10 = some laws_big := by kernel_rfl
@[simp] theorem G_10 : G 10 = some ⟨[.V], true⟩ := by kernel_rfl
theorem T_spec_DrawRead : T 11 = some spec_DrawRead := by kernel_rfl
@[simp] theorem G_11 : G 11 = some ⟨[.V], true⟩ := by kernel_rfl
theorem T_impl_Read : T 12 = some impl_Read := by kernel_rfl
@[simp] theorem G_12 : G 12 = some ⟨[.V], true⟩ := by kernel_rfl
theorem T_spec_Read : T 13 = some spec_Read := by kernel_rfl
@[simp] theorem G_13 : G 13 = some ⟨[.V], true⟩ := by kernel_rfl
theorem T_impl_Show : T 14 = some impl_Show := by kernel_rfl
@[simp] theorem G_14 : G 14 = some ⟨[.V], true⟩ := by kernel_rfl
theorem T_spec_DrawDataOk : T 15 = some spec_DrawDataOk := by kernel_rfl
@[simp] theorem G_15 : G 15 = some ⟨[.V], true⟩ := by kernel_rfl
theorem T_impl_DataOk : T 16 = some impl_DataOk := by kernel_rfl
@[simp] theorem G_16 : G 16 = some ⟨[.V], true⟩ := by kernel_rfl
theorem T_laws_sameData : T 17 = some laws_sameData := by kernel_rfl
@[simp] theorem G_17 : G 17 = some ⟨[.V, .V], true⟩ := by kernel_rfl
theorem T_spec_DataOk : T 18 = some spec_DataOk := by kernel_rfl
@[simp] theorem G_18 : G 18 = some ⟨[.V], true⟩ := by kernel_rfl
theorem T_spec_l1New : T 59 = some spec_l1New := by kernel_rfl
@[simp] theorem G_59 : G 59 = some ⟨[.V], false⟩ := by kernel_rfl
theorem T_spec_l2Text : T 60 = some spec_l2Text := by kernel_rfl
@[simp] theorem G_60 : G 60 = some ⟨[.M, .V], false⟩ := by kernel_rfl
theorem T_spec_l1Size : T 61 = some spec_l1Size := by kernel_rfl
@[simp] theorem G_61 : G 61 = some ⟨[.V, .V], true⟩ := by kernel_rfl
theorem T_spec_l1Once : T 62 = some spec_l1Once := by kernel_rfl
@[simp] theorem G_62 : G 62 = some ⟨[.M, .V], false⟩ := by kernel_rfl
theorem T_spec_l1Spoil : T 63 = some spec_l1Spoil := by kernel_rfl
@[simp] theorem G_63 : G 63 = some ⟨[.M, .V], false⟩ := by kernel_rfl
theorem T_impl_reader_isOver : T 64 = some impl_reader_isOver := by kernel_rfl
@[simp] theorem G_64 : G 64 = some ⟨[.M], false⟩ := by kernel_rfl
theorem T_impl_reader_following : T 65 = some impl_reader_following := by kernel_rfl
@[simp] theorem G_65 : G 65 = some ⟨[.M, .V], false⟩ := by kernel_rfl
theorem T_spec_l2Skip : T 66 = some spec_l2Skip := by kernel_rfl
@[simp] theorem G_66 : G 66 = some ⟨[.O], true⟩ := by kernel_rfl
theorem T_spec_l2Datum : T 67 = some spec_l2Datum := by kernel_rfl
@[simp] theorem G_67 : G 67 = some ⟨[.O, .V], true⟩ := by kernel_rfl
theorem T_impl_Data_isWhole : T 68 = some impl_Data_isWhole := by kernel_rfl
@[simp] theorem G_68 : G 68 = some ⟨[.M], false⟩ := by kernel_rfl
theorem T_impl_Data_show : T 69 = some impl_Data_show := by kernel_rfl
@[simp] theorem G_69 : G 69 = some ⟨[.M, .M, .V], false⟩ := by kernel_rfl
theorem T_spec_l2Data : T 72 = some spec_l2Data := by kernel_rfl
@[simp] theorem G_72 : G 72 = some ⟨[.M, .V], false⟩ := by kernel_rfl
theorem T_slices_Equal_impl_Datum_impl_Datum : T 73 = some slices_Equal_impl_Datum_impl_Datum := by kernel_rfl
@[simp] theorem G_73 : G 73 = some ⟨[.V, .V], true⟩ := by kernel_rfl
theorem T_slices_Equal_int_int : T 74 = some slices_Equal_int_int := by kernel_rfl
@[simp] theorem G_74 : G 74 = some ⟨[.V, .V], true⟩ := by kernel_rfl
theorem T_laws_sameInts : T 75 = some laws_sameInts := by kernel_rfl
@[simp] theorem G_75 : G 75 = some ⟨[.V, .V], true⟩ := by kernel_rfl
theorem T_spec_Show : T 76 = some spec_Show := by kernel_rfl
@[simp] theorem G_76 : G 76 = some ⟨[.V], true⟩ := by kernel_rfl
theorem T_spec_l2Same : T 77 = some spec_l2Same := by kernel_rfl
@[simp] theorem G_77 : G 77 = some ⟨[.V, .V], true⟩ := by kernel_rfl
theorem T_spec_l1Below : T 88 = some spec_l1Below := by kernel_rfl
@[simp] theorem G_88 : G 88 = some ⟨[.M, .V], false⟩ := by kernel_rfl
theorem T_spec_l1Pick : T 127 = some spec_l1Pick := by kernel_rfl
@[simp] theorem G_127 : G 127 = some ⟨[.M, .V], false⟩ := by kernel_rfl
theorem T_spec_l2Form : T 145 = some spec_l2Form := by kernel_rfl
@[simp] theorem G_145 : G 145 = some ⟨[.M, .V], false⟩ := by kernel_rfl
theorem T_spec_l1Text : T 146 = some spec_l1Text := by kernel_rfl
@[simp] theorem G_146 : G 146 = some ⟨[.M, .V], false⟩ := by kernel_rfl
theorem T_spec_l1Byte : T 147 = some spec_l1Byte := by kernel_rfl
@[simp] theorem G_147 : G 147 = some ⟨[.M], false⟩ := by kernel_rfl
theorem T_impl_reader_skip : T 148 = some impl_reader_skip := by kernel_rfl
@[simp] theorem G_148 : G 148 = some ⟨[.M], false⟩ := by kernel_rfl
theorem T_impl_reader_read : T 149 = some impl_reader_read := by kernel_rfl
@[simp] theorem G_149 : G 149 = some ⟨[.M], false⟩ := by kernel_rfl
theorem T_impl_reader_datum : T 150 = some impl_reader_datum := by kernel_rfl
@[simp] theorem G_150 : G 150 = some ⟨[.M, .V], false⟩ := by kernel_rfl
theorem T_spec_l2Blank : T 151 = some spec_l2Blank := by kernel_rfl
@[simp] theorem G_151 : G 151 = some ⟨[.V], true⟩ := by kernel_rfl
theorem T_spec_l2Token : T 152 = some spec_l2Token := by kernel_rfl
@[simp] theorem G_152 : G 152 = some ⟨[.V, .V], true⟩ := by kernel_rfl
theorem T_spec_l2Fail : T 153 = some spec_l2Fail := by kernel_rfl
@[simp] theorem G_153 : G 153 = some ⟨[.O, .V], true⟩ := by kernel_rfl
theorem T_spec_l2Put : T 154 = some spec_l2Put := by kernel_rfl
@[simp] theorem G_154 : G 154 = some ⟨[.O, .V], true⟩ := by kernel_rfl
theorem T_spec_l2List : T 155 = some spec_l2List := by kernel_rfl
@[simp] theorem G_155 : G 155 = some ⟨[.O, .V], true⟩ := by kernel_rfl
theorem T_spec_l2Atom : T 156 = some spec_l2Atom := by kernel_rfl
@[simp] theorem G_156 : G 156 = some ⟨[.O, .V, .V], true⟩ := by kernel_rfl
theorem T_impl_inRange : T 99 = some impl_inRange := by kernel_rfl
@[simp] theorem G_99 : G 99 = some ⟨[.V, .V, .V], true⟩ := by kernel_rfl
theorem T_impl_Dec : T 158 = some impl_Dec := by kernel_rfl
@[simp] theorem G_158 : G 158 = some ⟨[.V], true⟩ := by kernel_rfl
theorem T_impl_boolText : T 159 = some impl_boolText := by kernel_rfl
@[simp] theorem G_159 : G 159 = some ⟨[.V], true⟩ := by kernel_rfl
theorem T_spec_l2Tree : T 161 = some spec_l2Tree := by kernel_rfl
@[simp] theorem G_161 : G 161 = some ⟨[.V], true⟩ := by kernel_rfl
theorem T_spec_l2Show : T 162 = some spec_l2Show := by kernel_rfl
@[simp] theorem G_162 : G 162 = some ⟨[.V, .V], true⟩ := by kernel_rfl
theorem T_impl_isRunByte : T 212 = some impl_isRunByte := by kernel_rfl
@[simp] theorem G_212 : G 212 = some ⟨[.V], true⟩ := by kernel_rfl
theorem T_impl_reader_inner : T 213 = some impl_reader_inner := by kernel_rfl
@[simp] theorem G_213 : G 213 = some ⟨[.M, .V], false⟩ := by kernel_rfl
theorem T_impl_reader_put : T 214 = some impl_reader_put := by kernel_rfl
@[simp] theorem G_214 : G 214 = some ⟨[.M, .V], false⟩ := by kernel_rfl
theorem T_impl_atom : T 216 = some impl_atom := by kernel_rfl
@[simp] theorem G_216 : G 216 = some ⟨[.V], true⟩ := by kernel_rfl
theorem T_spec_l2Sign : T 173 = some spec_l2Sign := by kernel_rfl
@[simp] theorem G_173 : G 173 = some ⟨[.V], true⟩ := by kernel_rfl
theorem T_spec_l2In : T 217 = some spec_l2In := by kernel_rfl
@[simp] theorem G_217 : G 217 = some ⟨[.V, .V], true⟩ := by kernel_rfl
theorem T_spec_l1In : T 85 = some spec_l1In := by kernel_rfl
@[simp] theorem G_85 : G 85 = some ⟨[.V, .V, .V], true⟩ := by kernel_rfl
theorem T_spec_l2Sym : T 86 = some spec_l2Sym := by kernel_rfl
@[simp] theorem G_86 : G 86 = some ⟨[.V], true⟩ := by kernel_rfl
theorem T_spec_ReadDec : T 174 = some spec_ReadDec := by kernel_rfl
@[simp] theorem G_174 : G 174 = some ⟨[.V], true⟩ := by kernel_rfl
theorem T_spec_Dec : T 220 = some spec_Dec := by kernel_rfl
@[simp] theorem G_220 : G 220 = some ⟨[.V], true⟩ := by kernel_rfl
theorem T_impl_isSymByte : T 221 = some impl_isSymByte := by kernel_rfl
@[simp] theorem G_221 : G 221 = some ⟨[.V], true⟩ := by kernel_rfl
theorem T_impl_symOk : T 167 = some impl_symOk := by kernel_rfl
@[simp] theorem G_167 : G 167 = some ⟨[.V], true⟩ := by kernel_rfl
theorem T_spec_l2Digit : T 172 = some spec_l2Digit := by kernel_rfl
@[simp] theorem G_172 : G 172 = some ⟨[.V], true⟩ := by kernel_rfl
theorem run_laws_FnRead (h : Run G A laws_FnRead.b (params 0 cs) [] (QF true [.V] [.tmp 2] r)) : A 3 cs = some r := A_run T_laws_FnRead h
theorem run_laws_big (h : Run G A laws_big.b (params 0 cs) [] (QF true [.V] [.tmp 2] r)) : A 10 cs = some r := A_run T_laws_big h
theorem run_spec_DrawRead (h : Run G A spec_DrawRead.b (params 0 cs) [] (QF true [.V] [.tmp 2] r)) : A 11 cs = some r := A_run T_spec_DrawRead h
theorem runE_spec_DrawRead {cs : List CV} {X : List CV → List CV → Prop} (h : Run G A spec_DrawRead.b (params 0 cs) [] (QE true [.V] [.tmp 2] X)) : ∃ rs os, A 11 cs = some (rs, os) ∧ X rs os := A_runE T_spec_DrawRead h
theorem run_impl_Read (h : Run G A impl_Read.b (params 0 cs) [] (QF true [.V] [.cell 2 2 true, .tmp 3] r)) : A 12 cs = some r := A_run T_impl_Read h
theorem run_spec_Read (h : Run G A spec_Read.b (params 0 cs) [] (QF true [.V] [.cell 2 2 true, .tmp 3] r)) : A 13 cs = some r := A_run T_spec_Read h
theorem run_impl_Show (h : Run G A impl_Show.b (params 0 cs) [] (QF true [.V] [.tmp 2] r)) : A 14 cs = some r := A_run T_impl_Show h
theorem run_spec_DrawDataOk (h : Run G A spec_DrawDataOk.b (params 0 cs) [] (QF true [.V] [.cell 2 2 true] r)) : A 15 cs = some r := A_run T_spec_DrawDataOk h
theorem runE_spec_DrawDataOk {cs : List CV} {X : List CV → List CV → Prop} (h : Run G A spec_DrawDataOk.b (params 0 cs) [] (QE true [.V] [.cell 2 2 true] X)) : ∃ rs os, A 15 cs = some (rs, os) ∧ X rs os := A_runE T_spec_DrawDataOk h
theorem run_impl_DataOk (h : Run G A impl_DataOk.b (params 0 cs) [] (QF true [.V] [.tmp 2] r)) : A 16 cs = some r := A_run T_impl_DataOk h
theorem run_laws_sameData (h : Run G A laws_sameData.b (params 0 cs) [] (QF true [.V, .V] [.tmp 4] r)) : A 17 cs = some r := A_run T_laws_sameData h
theorem run_spec_DataOk (h : Run G A spec_DataOk.b (params 0 cs) [] (QF true [.V] [.tmp 2] r)) : A 18 cs = some r := A_run T_spec_DataOk h
theorem run_spec_l1New (h : Run G A spec_l1New.b (params 0 cs) [] (QF false [.V] [.tmp 2] r)) : A 59 cs = some r := A_run T_spec_l1New h
theorem runE_spec_l1New {cs : List CV} {X : List CV → List CV → Prop} (h : Run G A spec_l1New.b (params 0 cs) [] (QE false [.V] [.tmp 2] X)) : ∃ rs os, A 59 cs = some (rs, os) ∧ X rs os := A_runE T_spec_l1New h
theorem run_spec_l2Text (h : Run G A spec_l2Text.b (params 0 cs) [] (QF false [.M, .V] [.tmp 4] r)) : A 60 cs = some r := A_run T_spec_l2Text h
theorem runE_spec_l2Text {cs : List CV} {X : List CV → List CV → Prop} (h : Run G A spec_l2Text.b (params 0 cs) [] (QE false [.M, .V] [.tmp 4] X)) : ∃ rs os, A 60 cs = some (rs, os) ∧ X rs os := A_runE T_spec_l2Text h
theorem run_spec_l1Size (h : Run G A spec_l1Size.b (params 0 cs) [] (QF true [.V, .V] [.tmp 4] r)) : A 61 cs = some r := A_run T_spec_l1Size h
theorem runE_spec_l1Size {cs : List CV} {X : List CV → List CV → Prop} (h : Run G A spec_l1Size.b (params 0 cs) [] (QE true [.V, .V] [.tmp 4] X)) : ∃ rs os, A 61 cs = some (rs, os) ∧ X rs os := A_runE T_spec_l1Size h
theorem run_spec_l1Once (h : Run G A spec_l1Once.b (params 0 cs) [] (QF false [.M, .V] [.tmp 4] r)) : A 62 cs = some r := A_run T_spec_l1Once h
theorem runE_spec_l1Once {cs : List CV} {X : List CV → List CV → Prop} (h : Run G A spec_l1Once.b (params 0 cs) [] (QE false [.M, .V] [.tmp 4] X)) : ∃ rs os, A 62 cs = some (rs, os) ∧ X rs os := A_runE T_spec_l1Once h
theorem run_spec_l1Spoil (h : Run G A spec_l1Spoil.b (params 0 cs) [] (QF false [.M, .V] [.tmp 4] r)) : A 63 cs = some r := A_run T_spec_l1Spoil h
theorem runE_spec_l1Spoil {cs : List CV} {X : List CV → List CV → Prop} (h : Run G A spec_l1Spoil.b (params 0 cs) [] (QE false [.M, .V] [.tmp 4] X)) : ∃ rs os, A 63 cs = some (rs, os) ∧ X rs os := A_runE T_spec_l1Spoil h
theorem run_impl_reader_isOver (h : Run G A impl_reader_isOver.b (params 0 cs) [] (QF false [.M] [.tmp 2] r)) : A 64 cs = some r := A_run T_impl_reader_isOver h
theorem run_impl_reader_following (h : Run G A impl_reader_following.b (params 0 cs) [] (QF false [.M, .V] [.tmp 4] r)) : A 65 cs = some r := A_run T_impl_reader_following h
theorem runE_impl_reader_following {cs : List CV} {X : List CV → List CV → Prop} (h : Run G A impl_reader_following.b (params 0 cs) [] (QE false [.M, .V] [.tmp 4] X)) : ∃ rs os, A 65 cs = some (rs, os) ∧ X rs os := A_runE T_impl_reader_following h
theorem run_spec_l2Skip (h : Run G A spec_l2Skip.b (params 0 cs) [] (QF true [.O] [.cell 2 6 true] r)) : A 66 cs = some r := A_run T_spec_l2Skip h
theorem run_spec_l2Datum (h : Run G A spec_l2Datum.b (params 0 cs) [] (QF true [.O, .V] [.cell 4 6 true] r)) : A 67 cs = some r := A_run T_spec_l2Datum h
theorem run_impl_Data_isWhole (h : Run G A impl_Data_isWhole.b (params 0 cs) [] (QF false [.M] [.tmp 2] r)) : A 68 cs = some r := A_run T_impl_Data_isWhole h
theorem run_impl_Data_show (h : Run G A impl_Data_show.b (params 0 cs) [] (QF false [.M, .M, .V] [] r)) : A 69 cs = some r := A_run T_impl_Data_show h
theorem run_spec_l2Data (h : Run G A spec_l2Data.b (params 0 cs) [] (QF false [.M, .V] [.cell 4 2 true] r)) : A 72 cs = some r := A_run T_spec_l2Data h
theorem runE_spec_l2Data {cs : List CV} {X : List CV → List CV → Prop} (h : Run G A spec_l2Data.b (params 0 cs) [] (QE false [.M, .V] [.cell 4 2 true] X)) : ∃ rs os, A 72 cs = some (rs, os) ∧ X rs os := A_runE T_spec_l2Data h
theorem run_slices_Equal_impl_Datum_impl_Datum (h : Run G A slices_Equal_impl_Datum_impl_Datum.b (params 0 cs) [] (QF true [.V, .V] [.tmp 4] r)) : A 73 cs = some r := A_run T_slices_Equal_impl_Datum_impl_Datum h
theorem run_slices_Equal_int_int (h : Run G A slices_Equal_int_int.b (params 0 cs) [] (QF true [.V, .V] [.tmp 4] r)) : A 74 cs = some r := A_run T_slices_Equal_int_int h
theorem run_laws_sameInts (h : Run G A laws_sameInts.b (params 0 cs) [] (QF true [.V, .V] [.tmp 4] r)) : A 75 cs = some r := A_run T_laws_sameInts h
theorem run_spec_Show (h : Run G A spec_Show.b (params 0 cs) [] (QF true [.V] [.tmp 2] r)) : A 76 cs = some r := A_run T_spec_Show h
theorem run_spec_l2Same (h : Run G A spec_l2Same.b (params 0 cs) [] (QF true [.V, .V] [.tmp 4] r)) : A 77 cs = some r := A_run T_spec_l2Same h
theorem run_spec_l1Below (h : Run G A spec_l1Below.b (params 0 cs) [] (QF false [.M, .V] [.tmp 4] r)) : A 88 cs = some r := A_run T_spec_l1Below h
theorem runE_spec_l1Below {cs : List CV} {X : List CV → List CV → Prop} (h : Run G A spec_l1Below.b (params 0 cs) [] (QE false [.M, .V] [.tmp 4] X)) : ∃ rs os, A 88 cs = some (rs, os) ∧ X rs os := A_runE T_spec_l1Below h
theorem run_spec_l1Pick (h : Run G A spec_l1Pick.b (params 0 cs) [] (QF false [.M, .V] [.tmp 4] r)) : A 127 cs = some r := A_run T_spec_l1Pick h
theorem runE_spec_l1Pick {cs : List CV} {X : List CV → List CV → Prop} (h : Run G A spec_l1Pick.b (params 0 cs) [] (QE false [.M, .V] [.tmp 4] X)) : ∃ rs os, A 127 cs = some (rs, os) ∧ X rs os := A_runE T_spec_l1Pick h
theorem run_spec_l2Form (h : Run G A spec_l2Form.b (params 0 cs) [] (QF false [.M, .V] [.tmp 4] r)) : A 145 cs = some r := A_run T_spec_l2Form h
theorem runE_spec_l2Form {cs : List CV} {X : List CV → List CV → Prop} (h : Run G A spec_l2Form.b (params 0 cs) [] (QE false [.M, .V] [.tmp 4] X)) : ∃ rs os, A 145 cs = some (rs, os) ∧ X rs os := A_runE T_spec_l2Form h
theorem run_spec_l1Text (h : Run G A spec_l1Text.b (params 0 cs) [] (QF false [.M, .V] [.tmp 4] r)) : A 146 cs = some r := A_run T_spec_l1Text h
theorem runE_spec_l1Text {cs : List CV} {X : List CV → List CV → Prop} (h : Run G A spec_l1Text.b (params 0 cs) [] (QE false [.M, .V] [.tmp 4] X)) : ∃ rs os, A 146 cs = some (rs, os) ∧ X rs os := A_runE T_spec_l1Text h
theorem run_spec_l1Byte (h : Run G A spec_l1Byte.b (params 0 cs) [] (QF false [.M] [.tmp 2] r)) : A 147 cs = some r := A_run T_spec_l1Byte h
theorem runE_spec_l1Byte {cs : List CV} {X : List CV → List CV → Prop} (h : Run G A spec_l1Byte.b (params 0 cs) [] (QE false [.M] [.tmp 2] X)) : ∃ rs os, A 147 cs = some (rs, os) ∧ X rs os := A_runE T_spec_l1Byte h
theorem run_impl_reader_skip (h : Run G A impl_reader_skip.b (params 0 cs) [] (QF false [.M] [] r)) : A 148 cs = some r := A_run T_impl_reader_skip h
theorem run_impl_reader_read (h : Run G A impl_reader_read.b (params 0 cs) [] (QF false [.M] [] r)) : A 149 cs = some r := A_run T_impl_reader_read h
theorem run_impl_reader_datum (h : Run G A impl_reader_datum.b (params 0 cs) [] (QF false [.M, .V] [.tmp 4] r)) : A 150 cs = some r := A_run T_impl_reader_datum h
theorem runE_impl_reader_datum {cs : List CV} {X : List CV → List CV → Prop} (h : Run G A impl_reader_datum.b (params 0 cs) [] (QE false [.M, .V] [.tmp 4] X)) : ∃ rs os, A 150 cs = some (rs, os) ∧ X rs os := A_runE T_impl_reader_datum h
theorem run_spec_l2Blank (h : Run G A spec_l2Blank.b (params 0 cs) [] (QF true [.V] [.tmp 2] r)) : A 151 cs = some r := A_run T_spec_l2Blank h
theorem run_spec_l2Token (h : Run G A spec_l2Token.b (params 0 cs) [] (QF true [.V, .V] [.tmp 4] r)) : A 152 cs = some r := A_run T_spec_l2Token h
theorem run_spec_l2Fail (h : Run G A spec_l2Fail.b (params 0 cs) [] (QF true [.O, .V] [.cell 4 6 true] r)) : A 153 cs = some r := A_run T_spec_l2Fail h
theorem run_spec_l2Put (h : Run G A spec_l2Put.b (params 0 cs) [] (QF true [.O, .V] [.cell 4 6 true] r)) : A 154 cs = some r := A_run T_spec_l2Put h
theorem run_spec_l2List (h : Run G A spec_l2List.b (params 0 cs) [] (QF true [.O, .V] [.cell 4 6 true] r)) : A 155 cs = some r := A_run T_spec_l2List h
theorem run_spec_l2Atom (h : Run G A spec_l2Atom.b (params 0 cs) [] (QF true [.O, .V, .V] [.cell 6 6 true] r)) : A 156 cs = some r := A_run T_spec_l2Atom h
theorem run_impl_inRange (h : Run G A impl_inRange.b (params 0 cs) [] (QF true [.V, .V, .V] [.tmp 6] r)) : A 99 cs = some r := A_run T_impl_inRange h
theorem run_impl_Dec (h : Run G A impl_Dec.b (params 0 cs) [] (QF true [.V] [.tmp 2] r)) : A 158 cs = some r := A_run T_impl_Dec h
theorem run_impl_boolText (h : Run G A impl_boolText.b (params 0 cs) [] (QF true [.V] [.tmp 2] r)) : A 159 cs = some r := A_run T_impl_boolText h
theorem run_spec_l2Tree (h : Run G A spec_l2Tree.b (params 0 cs) [] (QF true [.V] [.tmp 2] r)) : A 161 cs = some r := A_run T_spec_l2Tree h
theorem run_spec_l2Show (h : Run G A spec_l2Show.b (params 0 cs) [] (QF true [.V, .V] [.tmp 4] r)) : A 162 cs = some r := A_run T_spec_l2Show h
theorem run_impl_isRunByte (h : Run G A impl_isRunByte.b (params 0 cs) [] (QF true [.V] [.tmp 2] r)) : A 212 cs = some r := A_run T_impl_isRunByte h
theorem run_impl_reader_inner (h : Run G A impl_reader_inner.b (params 0 cs) [] (QF false [.M, .V] [.tmp 4] r)) : A 213 cs = some r := A_run T_impl_reader_inner h
theorem runE_impl_reader_inner {cs : List CV} {X : List CV → List CV → Prop} (h : Run G A impl_reader_inner.b (params 0 cs) [] (QE false [.M, .V] [.tmp 4] X)) : ∃ rs os, A 213 cs = some (rs, os) ∧ X rs os := A_runE T_impl_reader_inner h
theorem run_impl_reader_put (h : Run G A impl_reader_put.b (params 0 cs) [] (QF false [.M, .V] [.tmp 4] r)) : A 214 cs = some r := A_run T_impl_reader_put h
theorem run_impl_atom (h : Run G A impl_atom.b (params 0 cs) [] (QF true [.V] [.cell 2 5 true, .tmp 3] r)) : A 216 cs = some r := A_run T_impl_atom h
theorem run_spec_l2Sign (h : Run G A spec_l2Sign.b (params 0 cs) [] (QF true [.V] [.tmp 2] r)) : A 173 cs = some r := A_run T_spec_l2Sign h
theorem run_spec_l2In (h : Run G A spec_l2In.b (params 0 cs) [] (QF true [.V, .V] [.tmp 4] r)) : A 217 cs = some r := A_run T_spec_l2In h
theorem run_spec_l1In (h : Run G A spec_l1In.b (params 0 cs) [] (QF true [.V, .V, .V] [.tmp 6] r)) : A 85 cs = some r := A_run T_spec_l1In h
theorem run_spec_l2Sym (h : Run G A spec_l2Sym.b (params 0 cs) [] (QF true [.V] [.tmp 2] r)) : A 86 cs = some r := A_run T_spec_l2Sym h
theorem run_spec_ReadDec (h : Run G A spec_ReadDec.b (params 0 cs) [] (QF true [.V] [.tmp 2, .tmp 3] r)) : A 174 cs = some r := A_run T_spec_ReadDec h
theorem run_spec_Dec (h : Run G A spec_Dec.b (params 0 cs) [] (QF true [.V] [.tmp 2] r)) : A 220 cs = some r := A_run T_spec_Dec h
theorem run_impl_isSymByte (h : Run G A impl_isSymByte.b (params 0 cs) [] (QF true [.V] [.tmp 2] r)) : A 221 cs = some r := A_run T_impl_isSymByte h
theorem run_impl_symOk (h : Run G A impl_symOk.b (params 0 cs) [] (QF true [.V] [.tmp 2] r)) : A 167 cs = some r := A_run T_impl_symOk h
theorem run_spec_l2Digit (h : Run G A spec_l2Digit.b (params 0 cs) [] (QF true [.V] [.tmp 2] r)) : A 172 cs = some r := A_run T_spec_l2Digit h
theorem T_strings_Builder_WriteByte : T 70 = none := by kernel_rfl
@[simp] theorem G_70 : G 70 = some ⟨[.M, .V], true⟩ := by kernel_rfl
theorem P_strings_Builder_WriteByte (h : prim_strings_Builder_WriteByte.run cs = some r) : A 70 cs = some r := A_prim T_strings_Builder_WriteByte (by rw [← h]; rfl)
theorem T_strings_Builder_String : T 71 = none := by kernel_rfl
@[simp] theorem G_71 : G 71 = some ⟨[.M], true⟩ := by kernel_rfl
theorem P_strings_Builder_String (h : prim_strings_Builder_String.run cs = some r) : A 71 cs = some r := A_prim T_strings_Builder_String (by rw [← h]; rfl)
theorem T_strings_Builder_WriteString : T 157 = none := by kernel_rfl
@[simp] theorem G_157 : G 157 = some ⟨[.M, .V], true⟩ := by kernel_rfl
theorem P_strings_Builder_WriteString (h : prim_strings_Builder_WriteString.run cs = some r) : A 157 cs = some r := A_prim T_strings_Builder_WriteString (by rw [← h]; rfl)
theorem T_strings_IndexByte : T 211 = none := by kernel_rfl
@[simp] theorem G_211 : G 211 = some ⟨[.V, .V], true⟩ := by kernel_rfl
theorem P_strings_IndexByte (h : prim_strings_IndexByte.run cs = some r) : A 211 cs = some r := A_prim T_strings_IndexByte (by rw [← h]; rfl)
theorem T_impl_reader_list : T 215 = none := by kernel_rfl
@[simp] theorem G_215 : G 215 = some ⟨[.M, .V, .V], false⟩ := by kernel_rfl
theorem P_impl_reader_list (h : prim_impl_reader_list.run cs = some r) : A 215 cs = some r := A_prim T_impl_reader_list (by rw [← h]; rfl)
theorem T_strconv_Itoa : T 218 = none := by kernel_rfl
@[simp] theorem G_218 : G 218 = some ⟨[.V], true⟩ := by kernel_rfl
theorem P_strconv_Itoa (h : prim_strconv_Itoa.run cs = some r) : A 218 cs = some r := A_prim T_strconv_Itoa (by rw [← h]; rfl)
theorem T_impl_ReadDec : T 222 = none := by kernel_rfl
@[simp] theorem G_222 : G 222 = some ⟨[.V], true⟩ := by kernel_rfl
theorem P_impl_ReadDec (h : prim_impl_ReadDec.run cs = some r) : A 222 cs = some r := A_prim T_impl_ReadDec (by rw [← h]; rfl)
end Go.Proofs.YtjcjodcpiickaaaGreatDoor.RA
