/- The table of the functions. -/
import Derived.Test.YtjcjodcpiickaaaDoorSHFn0
import Derived.Test.YtjcjodcpiickaaaDoorEngM7
import Derived.Test.YtjcjodcpiickaaaDoorEngPBldV
import Derived.Test.YtjcjodcpiickaaaDoorEngPItoaV
namespace Go.Proofs.YtjcjodcpiickaaaDoor.SH
open Go Go.VS
set_option maxRecDepth 100000
set_option linter.unusedVariables false
set_option linter.unusedSimpArgs false
noncomputable def tab : List (Entry Tryd.prog) := [⟨3, laws_FnExactShow, Tryd.f3, Tryd.func3, laws_FnExactShow.turned⟩,
  ⟨5, laws_szData, Tryd.f5, Tryd.func5, laws_szData.turned⟩,
  ⟨6, spec_Show, Tryd.f6, Tryd.func6, spec_Show.turned⟩,
  ⟨7, laws_toData, Tryd.f7, Tryd.func7, laws_toData.turned⟩,
  ⟨8, impl_Show, Tryd.f8, Tryd.func8, impl_Show.turned⟩,
  ⟨9, laws_eqData, Tryd.f9, Tryd.func9, laws_eqData.turned⟩,
  ⟨14, laws_szDatumS, Tryd.f14, Tryd.func14, laws_szDatumS.turned⟩,
  ⟨15, laws_szIntS, Tryd.f15, Tryd.func15, laws_szIntS.turned⟩,
  ⟨16, spec_l2Tree, Tryd.f16, Tryd.func16, spec_l2Tree.turned⟩,
  ⟨17, spec_l2Show, Tryd.f17, Tryd.func17, spec_l2Show.turned⟩,
  ⟨18, laws_toDatumS, Tryd.f18, Tryd.func18, laws_toDatumS.turned⟩,
  ⟨19, laws_toIntS, Tryd.f19, Tryd.func19, laws_toIntS.turned⟩,
  ⟨20, impl_Data_isWhole, Tryd.f20, Tryd.func20, impl_Data_isWhole.turned⟩,
  ⟨21, impl_Data_show, Tryd.f21, Tryd.func21, impl_Data_show.turned⟩,
  ⟨24, laws_eqDatumS, Tryd.f24, Tryd.func24, laws_eqDatumS.turned⟩,
  ⟨25, laws_eqIntS, Tryd.f25, Tryd.func25, laws_eqIntS.turned⟩,
  ⟨34, laws_szDatum, Tryd.f34, Tryd.func34, laws_szDatum.turned⟩,
  ⟨35, spec_Dec, Tryd.f35, Tryd.func35, spec_Dec.turned⟩,
  ⟨36, laws_toDatum, Tryd.f36, Tryd.func36, laws_toDatum.turned⟩,
  ⟨37, impl_inRange, Tryd.f37, Tryd.func37, impl_inRange.turned⟩,
  ⟨39, impl_Dec, Tryd.f39, Tryd.func39, impl_Dec.turned⟩,
  ⟨40, impl_boolText, Tryd.f40, Tryd.func40, impl_boolText.turned⟩,
  ⟨42, laws_eqDatum, Tryd.f42, Tryd.func42, laws_eqDatum.turned⟩]
noncomputable def ptab : List (PEntry Tryd.prog LaidX) := [prim_strings_Builder_WriteByte, prim_strings_Builder_String, prim_strings_Builder_WriteString, prim_strconv_Itoa]
noncomputable def T : FuncId → Option VFn := tabT tab
noncomputable def G : Sigs := tabG tab ptab
noncomputable def A : Fns := lim G T (tabP ptab)
theorem A_run {f : FuncId} {vf : VFn} {cs : List CV} {r : List CV × List CV} (hT : T f = some vf) (h : Run G A vf.body (params 0 cs) [] (QF vf.sig.own vf.sig.modes vf.res r)) : A f cs = some r := lim_run hT h
theorem A_runE {f : FuncId} {vf : VFn} {cs : List CV} {X : List CV → List CV → Prop} (hT : T f = some vf) (h : Run G A vf.body (params 0 cs) [] (QE vf.sig.own vf.sig.modes vf.res X)) : ∃ rs os, A f cs = some (rs, os) ∧ X rs os := lim_runE hT h
theorem A_prim {f : FuncId} {cs : List CV} {r : List CV × List CV} (hT : T f = none) (h : tabP ptab f cs = some r) : A f cs = some r := lim_prim hT h
theorem A_answers {W : World} (hX : LaidX W) {f : FuncId} {g : Sig} {cs res outs : List CV} (hg : G f = some g) (h : A f cs = some (res, outs)) : Answers Tryd.prog W f cs res outs := lim_answers (tabT_ok tab ptab) (tabP_ok hX tab ptab) hg h
theorem ip {α : Sort _} {c : Prop} [Decidable c] {a b : α} : (c → (if c then a else b) = a) ∧ (¬ c → (if c then a else b) = b) := ⟨fun h => if_pos h, fun h => if_neg h⟩
theorem wr {n : Int} : (-9223372036854775808 ≤ n → n ≤ 9223372036854775807 → IntKind.i64.wrap n = n) ∧ (0 ≤ n → n ≤ 255 → IntKind.u8.wrap n = n) := ⟨wrap_i64, wrap_u8⟩
variable {cs : List CV} {r : List CV × List CV}
theorem T_laws_FnExactShow : T 3 = some laws_FnExactShow := by kernel_rfl
@[simp] theorem G_3 : G 3 = some ⟨[.V], true⟩ := by kernel_rfl
theorem T_laws_szData : T 5 = some laws_szData := by kernel_rfl
@[simp] theorem G_5 : G 5 = some ⟨[.V, .V], true⟩ := by kernel_rfl
theorem T_spec_Show : T 6 = some spec_Show := by kernel_rfl
@[simp] theorem G_6 : G 6 = some ⟨[.V], true⟩ := by kernel_rfl
theorem T_laws_toData : T 7 = some laws_toData := by kernel_rfl
@[simp] theorem G_7 : G 7 = some ⟨[.V], true⟩ := by kernel_rfl
theorem T_impl_Show : T 8 = some impl_Show := by kernel_rfl
@[simp] theorem G_8 : G 8 = some ⟨[.V], true⟩ := by kernel_rfl
theorem T_laws_eqData : T 9 = some laws_eqData := by kernel_rfl
@[simp] theorem G_9 : G 9 = some ⟨[.V, .V], true⟩ := by kernel_rfl
theorem T_laws_szDatumS : T 14 = some laws_szDatumS := by kernel_rfl
@[simp] theorem G_14 : G 14 = some ⟨[.V, .V], true⟩ := by kernel_rfl
theorem T_laws_szIntS : T 15 = some laws_szIntS := by kernel_rfl
@[simp] theorem G_15 : G 15 = some ⟨[.V, .V], true⟩ := by kernel_rfl
theorem T_spec_l2Tree : T 16 = some spec_l2Tree := by kernel_rfl
@[simp] theorem G_16 : G 16 = some ⟨[.V], true⟩ := by kernel_rfl
theorem T_spec_l2Show : T 17 = some spec_l2Show := by kernel_rfl
@[simp] theorem G_17 : G 17 = some ⟨[.V, .V], true⟩ := by kernel_rfl
theorem T_laws_toDatumS : T 18 = some laws_toDatumS := by kernel_rfl
@[simp] theorem G_18 : G 18 = some ⟨[.V], true⟩ := by kernel_rfl
theorem T_laws_toIntS : T 19 = some laws_toIntS := by kernel_rfl
@[simp] theorem G_19 : G 19 = some ⟨[.V], true⟩ := by kernel_rfl
theorem T_impl_Data_isWhole : T 20 = some impl_Data_isWhole := by kernel_rfl
@[simp] theorem G_20 : G 20 = some ⟨[.M], false⟩ := by kernel_rfl
theorem T_impl_Data_show : T 21 = some impl_Data_show := by kernel_rfl
@[simp] theorem G_21 : G 21 = some ⟨[.M, .M, .V], false⟩ := by kernel_rfl
theorem T_laws_eqDatumS : T 24 = some laws_eqDatumS := by kernel_rfl
@[simp] theorem G_24 : G 24 = some ⟨[.V, .V], true⟩ := by kernel_rfl
theorem T_laws_eqIntS : T 25 = some laws_eqIntS := by kernel_rfl
@[simp] theorem G_25 : G 25 = some ⟨[.V, .V], true⟩ := by kernel_rfl
theorem T_laws_szDatum : T 34 = some laws_szDatum := by kernel_rfl
@[simp] theorem G_34 : G 34 = some ⟨[.V, .V], true⟩ := by kernel_rfl
theorem T_spec_Dec : T 35 = some spec_Dec := by kernel_rfl
@[simp] theorem G_35 : G 35 = some ⟨[.V], true⟩ := by kernel_rfl
theorem T_laws_toDatum : T 36 = some laws_toDatum := by kernel_rfl
@[simp] theorem G_36 : G 36 = some ⟨[.V], true⟩ := by kernel_rfl
theorem T_impl_inRange : T 37 = some impl_inRange := by kernel_rfl
@[simp] theorem G_37 : G 37 = some ⟨[.V, .V, .V], true⟩ := by kernel_rfl
theorem T_impl_Dec : T 39 = some impl_Dec := by kernel_rfl
@[simp] theorem G_39 : G 39 = some ⟨[.V], true⟩ := by kernel_rfl
theorem T_impl_boolText : T 40 = some impl_boolText := by kernel_rfl
@[simp] theorem G_40 : G 40 = some ⟨[.V], true⟩ := by kernel_rfl
theorem T_laws_eqDatum : T 42 = some laws_eqDatum := by kernel_rfl
@[simp] theorem G_42 : G 42 = some ⟨[.V, .V], true⟩ := by kernel_rfl
theorem run_laws_FnExactShow (h : Run G A laws_FnExactShow.b (params 0 cs) [] (QF true [.V] [.tmp 2] r)) : A 3 cs = some r := A_run T_laws_FnExactShow h
theorem run_laws_szData (h : Run G A laws_szData.b (params 0 cs) [] (QF true [.V, .V] [.tmp 4] r)) : A 5 cs = some r := A_run T_laws_szData h
theorem run_spec_Show (h : Run G A spec_Show.b (params 0 cs) [] (QF true [.V] [.tmp 2] r)) : A 6 cs = some r := A_run T_spec_Show h
theorem run_laws_toData (h : Run G A laws_toData.b (params 0 cs) [] (QF true [.V] [.cell 2 2 true] r)) : A 7 cs = some r := A_run T_laws_toData h
theorem run_impl_Show (h : Run G A impl_Show.b (params 0 cs) [] (QF true [.V] [.tmp 2] r)) : A 8 cs = some r := A_run T_impl_Show h
theorem run_laws_eqData (h : Run G A laws_eqData.b (params 0 cs) [] (QF true [.V, .V] [.tmp 4] r)) : A 9 cs = some r := A_run T_laws_eqData h
theorem run_laws_szDatumS (h : Run G A laws_szDatumS.b (params 0 cs) [] (QF true [.V, .V] [.tmp 4] r)) : A 14 cs = some r := A_run T_laws_szDatumS h
theorem run_laws_szIntS (h : Run G A laws_szIntS.b (params 0 cs) [] (QF true [.V, .V] [.tmp 4] r)) : A 15 cs = some r := A_run T_laws_szIntS h
theorem run_spec_l2Tree (h : Run G A spec_l2Tree.b (params 0 cs) [] (QF true [.V] [.tmp 2] r)) : A 16 cs = some r := A_run T_spec_l2Tree h
theorem run_spec_l2Show (h : Run G A spec_l2Show.b (params 0 cs) [] (QF true [.V, .V] [.tmp 4] r)) : A 17 cs = some r := A_run T_spec_l2Show h
theorem run_laws_toDatumS (h : Run G A laws_toDatumS.b (params 0 cs) [] (QF true [.V] [.tmp 2] r)) : A 18 cs = some r := A_run T_laws_toDatumS h
theorem run_laws_toIntS (h : Run G A laws_toIntS.b (params 0 cs) [] (QF true [.V] [.tmp 2] r)) : A 19 cs = some r := A_run T_laws_toIntS h
theorem run_impl_Data_isWhole (h : Run G A impl_Data_isWhole.b (params 0 cs) [] (QF false [.M] [.tmp 2] r)) : A 20 cs = some r := A_run T_impl_Data_isWhole h
theorem run_impl_Data_show (h : Run G A impl_Data_show.b (params 0 cs) [] (QF false [.M, .M, .V] [] r)) : A 21 cs = some r := A_run T_impl_Data_show h
theorem run_laws_eqDatumS (h : Run G A laws_eqDatumS.b (params 0 cs) [] (QF true [.V, .V] [.tmp 4] r)) : A 24 cs = some r := A_run T_laws_eqDatumS h
theorem run_laws_eqIntS (h : Run G A laws_eqIntS.b (params 0 cs) [] (QF true [.V, .V] [.tmp 4] r)) : A 25 cs = some r := A_run T_laws_eqIntS h
theorem run_laws_szDatum (h : Run G A laws_szDatum.b (params 0 cs) [] (QF true [.V, .V] [.tmp 4] r)) : A 34 cs = some r := A_run T_laws_szDatum h
theorem run_spec_Dec (h : Run G A spec_Dec.b (params 0 cs) [] (QF true [.V] [.tmp 2] r)) : A 35 cs = some r := A_run T_spec_Dec h
theorem run_laws_toDatum (h : Run G A laws_toDatum.b (params 0 cs) [] (QF true [.V] [.cell 2 5 true] r)) : A 36 cs = some r := A_run T_laws_toDatum h
theorem run_impl_inRange (h : Run G A impl_inRange.b (params 0 cs) [] (QF true [.V, .V, .V] [.tmp 6] r)) : A 37 cs = some r := A_run T_impl_inRange h
theorem run_impl_Dec (h : Run G A impl_Dec.b (params 0 cs) [] (QF true [.V] [.tmp 2] r)) : A 39 cs = some r := A_run T_impl_Dec h
theorem run_impl_boolText (h : Run G A impl_boolText.b (params 0 cs) [] (QF true [.V] [.tmp 2] r)) : A 40 cs = some r := A_run T_impl_boolText h
theorem run_laws_eqDatum (h : Run G A laws_eqDatum.b (params 0 cs) [] (QF true [.V, .V] [.tmp 4] r)) : A 42 cs = some r := A_run T_laws_eqDatum h
theorem T_strings_Builder_WriteByte : T 22 = none := by kernel_rfl
@[simp] theorem G_22 : G 22 = some ⟨[.M, .V], true⟩ := by kernel_rfl
theorem P_strings_Builder_WriteByte (h : prim_strings_Builder_WriteByte.run cs = some r) : A 22 cs = some r := A_prim T_strings_Builder_WriteByte (by rw [← h]; rfl)
theorem T_strings_Builder_String : T 23 = none := by kernel_rfl
@[simp] theorem G_23 : G 23 = some ⟨[.M], true⟩ := by kernel_rfl
theorem P_strings_Builder_String (h : prim_strings_Builder_String.run cs = some r) : A 23 cs = some r := A_prim T_strings_Builder_String (by rw [← h]; rfl)
theorem T_strings_Builder_WriteString : T 38 = none := by kernel_rfl
@[simp] theorem G_38 : G 38 = some ⟨[.M, .V], true⟩ := by kernel_rfl
theorem P_strings_Builder_WriteString (h : prim_strings_Builder_WriteString.run cs = some r) : A 38 cs = some r := A_prim T_strings_Builder_WriteString (by rw [← h]; rfl)
theorem T_strconv_Itoa : T 53 = none := by kernel_rfl
@[simp] theorem G_53 : G 53 = some ⟨[.V], true⟩ := by kernel_rfl
theorem P_strconv_Itoa (h : prim_strconv_Itoa.run cs = some r) : A 53 cs = some r := A_prim T_strconv_Itoa (by rw [← h]; rfl)
end Go.Proofs.YtjcjodcpiickaaaDoor.SH
