/- The table of the functions. -/
import Derived.Test.YtjjfodoafefohaaDoorALFn0
import Derived.Test.YtjjfodoafefohaaDoorEngM7
import Derived.Test.YtjjfodoafefohaaDoorEngPContains
import Derived.Test.YtjjfodoafefohaaDoorEngPIndexByte
import Derived.Test.YtjjfodoafefohaaDoorEngPReadDec
namespace Go.Proofs.YtjjfodoafefohaaDoor.AL
open Go Go.VS
set_option maxRecDepth 100000
set_option linter.unusedVariables false
set_option linter.unusedSimpArgs false
noncomputable def tab : List (Entry Tryd.prog) := [⟨3, laws_FnExactAsList, Tryd.f3, Tryd.func3, laws_FnExactAsList.turned⟩,
  ⟨5, laws_szCellS, Tryd.f5, Tryd.func5, laws_szCellS.turned⟩,
  ⟨6, laws_szValue, Tryd.f6, Tryd.func6, laws_szValue.turned⟩,
  ⟨7, spec_AsList, Tryd.f7, Tryd.func7, spec_AsList.turned⟩,
  ⟨8, laws_toCellS, Tryd.f8, Tryd.func8, laws_toCellS.turned⟩,
  ⟨9, laws_toValue, Tryd.f9, Tryd.func9, laws_toValue.turned⟩,
  ⟨10, impl_AsList, Tryd.f10, Tryd.func10, impl_AsList.turned⟩,
  ⟨11, laws_eqValueS, Tryd.f11, Tryd.func11, laws_eqValueS.turned⟩,
  ⟨12, laws_eqCellS, Tryd.f12, Tryd.func12, laws_eqCellS.turned⟩,
  ⟨13, laws_markCellS, Tryd.f13, Tryd.func13, laws_markCellS.turned⟩,
  ⟨14, laws_markValueS, Tryd.f14, Tryd.func14, laws_markValueS.turned⟩,
  ⟨15, laws_heldValueS, Tryd.f15, Tryd.func15, laws_heldValueS.turned⟩,
  ⟨18, laws_szCell, Tryd.f18, Tryd.func18, laws_szCell.turned⟩,
  ⟨19, spec_HeapOk, Tryd.f19, Tryd.func19, spec_HeapOk.turned⟩,
  ⟨20, spec_ValueOk, Tryd.f20, Tryd.func20, spec_ValueOk.turned⟩,
  ⟨21, spec_l14List, Tryd.f21, Tryd.func21, spec_l14List.turned⟩,
  ⟨22, laws_toCell, Tryd.f22, Tryd.func22, laws_toCell.turned⟩,
  ⟨23, impl_HeapOk, Tryd.f23, Tryd.func23, impl_HeapOk.turned⟩,
  ⟨24, impl_ValueOk, Tryd.f24, Tryd.func24, impl_ValueOk.turned⟩,
  ⟨25, impl_asList, Tryd.f25, Tryd.func25, impl_asList.turned⟩,
  ⟨26, laws_eqValue, Tryd.f26, Tryd.func26, laws_eqValue.turned⟩,
  ⟨27, laws_eqCell, Tryd.f27, Tryd.func27, laws_eqCell.turned⟩,
  ⟨28, laws_markText, Tryd.f28, Tryd.func28, laws_markText.turned⟩,
  ⟨29, laws_markStringS, Tryd.f29, Tryd.func29, laws_markStringS.turned⟩,
  ⟨32, laws_szStringS, Tryd.f32, Tryd.func32, laws_szStringS.turned⟩,
  ⟨33, laws_szValueS, Tryd.f33, Tryd.func33, laws_szValueS.turned⟩,
  ⟨34, spec_l6CellOk, Tryd.f34, Tryd.func34, spec_l6CellOk.turned⟩,
  ⟨35, spec_l1In, Tryd.f35, Tryd.func35, spec_l1In.turned⟩,
  ⟨36, spec_l2Sym, Tryd.f36, Tryd.func36, spec_l2Sym.turned⟩,
  ⟨37, spec_l6Cell, Tryd.f37, Tryd.func37, spec_l6Cell.turned⟩,
  ⟨38, laws_toStringS, Tryd.f38, Tryd.func38, laws_toStringS.turned⟩,
  ⟨39, laws_toValueS, Tryd.f39, Tryd.func39, laws_toValueS.turned⟩,
  ⟨40, impl_cellOk, Tryd.f40, Tryd.func40, impl_cellOk.turned⟩,
  ⟨41, impl_valuesOk, Tryd.f41, Tryd.func41, impl_valuesOk.turned⟩,
  ⟨42, impl_areBelow, Tryd.f42, Tryd.func42, impl_areBelow.turned⟩,
  ⟨43, impl_inRange, Tryd.f43, Tryd.func43, impl_inRange.turned⟩,
  ⟨44, impl_symOk, Tryd.f44, Tryd.func44, impl_symOk.turned⟩,
  ⟨45, impl_cellKind, Tryd.f45, Tryd.func45, impl_cellKind.turned⟩,
  ⟨46, laws_eqStringS, Tryd.f46, Tryd.func46, laws_eqStringS.turned⟩,
  ⟨49, spec_l6Points, Tryd.f49, Tryd.func49, spec_l6Points.turned⟩,
  ⟨50, spec_IsName, Tryd.f50, Tryd.func50, spec_IsName.turned⟩,
  ⟨51, spec_l2Digit, Tryd.f51, Tryd.func51, spec_l2Digit.turned⟩,
  ⟨52, spec_l2Sign, Tryd.f52, Tryd.func52, spec_l2Sign.turned⟩,
  ⟨53, spec_ReadDec, Tryd.f53, Tryd.func53, spec_ReadDec.turned⟩,
  ⟨54, impl_allNames, Tryd.f54, Tryd.func54, impl_allNames.turned⟩,
  ⟨55, impl_isSymByte, Tryd.f55, Tryd.func55, impl_isSymByte.turned⟩,
  ⟨63, spec_l3Word, Tryd.f63, Tryd.func63, spec_l3Word.turned⟩,
  ⟨64, spec_Arity, Tryd.f64, Tryd.func64, spec_Arity.turned⟩,
  ⟨65, spec_l2In, Tryd.f65, Tryd.func65, spec_l2In.turned⟩,
  ⟨57, spec_Dec, Tryd.f57, Tryd.func57, spec_Dec.turned⟩,
  ⟨66, impl_IsName, Tryd.f66, Tryd.func66, impl_IsName.turned⟩,
  ⟨71, spec_l3In, Tryd.f71, Tryd.func71, spec_l3In.turned⟩,
  ⟨72, impl_isOneOf, Tryd.f72, Tryd.func72, impl_isOneOf.turned⟩,
  ⟨73, impl_Arity, Tryd.f73, Tryd.func73, impl_Arity.turned⟩]
noncomputable def ptab : List (PEntry Tryd.prog LaidX) := [prim_impl_ReadDec, prim_strings_IndexByte, prim_strings_Contains]
noncomputable def T : FuncId → Option VFn := tabT tab
noncomputable def G : Sigs := tabG tab ptab
noncomputable def A : Fns := lim G T (tabP ptab)
theorem A_run {f : FuncId} {vf : VFn} {cs : List CV} {r : List CV × List CV} (hT : T f = some vf) (h : Run G A vf.body (params 0 cs) [] (QF vf.sig.own vf.sig.modes vf.res r)) : A f cs = some r := lim_run hT h
theorem A_runE {f : FuncId} {vf : VFn} {cs : List CV} {X : List CV → List CV → Prop} (hT : T f = some vf) (h : Run G A vf.body (params 0 cs) [] (QE vf.sig.own vf.sig.modes vf.res X)) : ∃ rs os, A f cs = some (rs, os) ∧ X rs os := lim_runE hT h
theorem A_prim {f : FuncId} {cs : List CV} {r : List CV × List CV} (hT : T f = none) (h : tabP ptab f cs = some r) : A f cs = some r := lim_prim hT h
theorem A_answers {W : World} (hX : LaidX W) {f : FuncId} {g : Sig} {cs res outs : List CV} (hg : G f = some g) (h : A f cs = some (res, outs)) : Answers Tryd.prog W f cs res outs := lim_answers (tabT_ok tab ptab) (tabP_ok hX tab ptab) hg h
theorem T_laws_FnExactAsList : T 3 = some laws_FnExactAsList := by kernel_rfl
@[simp] theorem G_3 : G 3 = some ⟨[.V, .V], true⟩ := by kernel_rfl
theorem T_laws_szCellS : T 5 = some laws_szCellS := by kernel_rfl
@[simp] theorem G_5 : G 5 = some ⟨[.V, .V], true⟩ := by kernel_rfl
theorem T_laws_szValue : T 6 = some laws_szValue := by kernel_rfl
@[simp] theorem G_6 : G 6 = some ⟨[.V, .V], true⟩ := by kernel_rfl
theorem T_spec_AsList : T 7 = some spec_AsList := by kernel_rfl
@[simp] theorem G_7 : G 7 = some ⟨[.V, .V], true⟩ := by kernel_rfl
theorem T_laws_toCellS : T 8 = some laws_toCellS := by kernel_rfl
@[simp] theorem G_8 : G 8 = some ⟨[.V], true⟩ := by kernel_rfl
theorem T_laws_toValue : T 9 = some laws_toValue := by kernel_rfl
@[simp] theorem G_9 : G 9 = some ⟨[.V], true⟩ := by kernel_rfl
theorem T_impl_AsList : T 10 = some impl_AsList := by kernel_rfl
@[simp] theorem G_10 : G 10 = some ⟨[.V, .V], true⟩ := by kernel_rfl
theorem T_laws_eqValueS : T 11 = some laws_eqValueS := by kernel_rfl
@[simp] theorem G_11 : G 11 = some ⟨[.V, .V], true⟩ := by kernel_rfl
theorem T_laws_eqCellS : T 12 = some laws_eqCellS := by kernel_rfl
@[simp] theorem G_12 : G 12 = some ⟨[.V, .V], true⟩ := by kernel_rfl
theorem T_laws_markCellS : T 13 = some laws_markCellS := by kernel_rfl
@[simp] theorem G_13 : G 13 = some ⟨[.M, .V], true⟩ := by kernel_rfl
theorem T_laws_markValueS : T 14 = some laws_markValueS := by kernel_rfl
@[simp] theorem G_14 : G 14 = some ⟨[.M, .V], true⟩ := by kernel_rfl
theorem T_laws_heldValueS : T 15 = some laws_heldValueS := by kernel_rfl
@[simp] theorem G_15 : G 15 = some ⟨[.V, .V], true⟩ := by kernel_rfl
theorem T_laws_szCell : T 18 = some laws_szCell := by kernel_rfl
@[simp] theorem G_18 : G 18 = some ⟨[.V, .V], true⟩ := by kernel_rfl
theorem T_spec_HeapOk : T 19 = some spec_HeapOk := by kernel_rfl
@[simp] theorem G_19 : G 19 = some ⟨[.V], true⟩ := by kernel_rfl
theorem T_spec_ValueOk : T 20 = some spec_ValueOk := by kernel_rfl
@[simp] theorem G_20 : G 20 = some ⟨[.V, .V], true⟩ := by kernel_rfl
theorem T_spec_l14List : T 21 = some spec_l14List := by kernel_rfl
@[simp] theorem G_21 : G 21 = some ⟨[.V, .V], true⟩ := by kernel_rfl
theorem T_laws_toCell : T 22 = some laws_toCell := by kernel_rfl
@[simp] theorem G_22 : G 22 = some ⟨[.V], true⟩ := by kernel_rfl
theorem T_impl_HeapOk : T 23 = some impl_HeapOk := by kernel_rfl
@[simp] theorem G_23 : G 23 = some ⟨[.V], true⟩ := by kernel_rfl
theorem T_impl_ValueOk : T 24 = some impl_ValueOk := by kernel_rfl
@[simp] theorem G_24 : G 24 = some ⟨[.V, .V], true⟩ := by kernel_rfl
theorem T_impl_asList : T 25 = some impl_asList := by kernel_rfl
@[simp] theorem G_25 : G 25 = some ⟨[.V, .V], true⟩ := by kernel_rfl
theorem T_laws_eqValue : T 26 = some laws_eqValue := by kernel_rfl
@[simp] theorem G_26 : G 26 = some ⟨[.V, .V], true⟩ := by kernel_rfl
theorem T_laws_eqCell : T 27 = some laws_eqCell := by kernel_rfl
@[simp] theorem G_27 : G 27 = some ⟨[.V, .V], true⟩ := by kernel_rfl
theorem T_laws_markText : T 28 = some laws_markText := by kernel_rfl
@[simp] theorem G_28 : G 28 = some ⟨[.V], true⟩ := by kernel_rfl
theorem T_laws_markStringS : T 29 = some laws_markStringS := by kernel_rfl
@[simp] theorem G_29 : G 29 = some ⟨[.M, .V], true⟩ := by kernel_rfl
theorem T_laws_szStringS : T 32 = some laws_szStringS := by kernel_rfl
@[simp] theorem G_32 : G 32 = some ⟨[.V, .V], true⟩ := by kernel_rfl
theorem T_laws_szValueS : T 33 = some laws_szValueS := by kernel_rfl
@[simp] theorem G_33 : G 33 = some ⟨[.V, .V], true⟩ := by kernel_rfl
theorem T_spec_l6CellOk : T 34 = some spec_l6CellOk := by kernel_rfl
@[simp] theorem G_34 : G 34 = some ⟨[.V, .V], true⟩ := by kernel_rfl
theorem T_spec_l1In : T 35 = some spec_l1In := by kernel_rfl
@[simp] theorem G_35 : G 35 = some ⟨[.V, .V, .V], true⟩ := by kernel_rfl
theorem T_spec_l2Sym : T 36 = some spec_l2Sym := by kernel_rfl
@[simp] theorem G_36 : G 36 = some ⟨[.V], true⟩ := by kernel_rfl
theorem T_spec_l6Cell : T 37 = some spec_l6Cell := by kernel_rfl
@[simp] theorem G_37 : G 37 = some ⟨[.V, .V, .V], true⟩ := by kernel_rfl
theorem T_laws_toStringS : T 38 = some laws_toStringS := by kernel_rfl
@[simp] theorem G_38 : G 38 = some ⟨[.V], true⟩ := by kernel_rfl
theorem T_laws_toValueS : T 39 = some laws_toValueS := by kernel_rfl
@[simp] theorem G_39 : G 39 = some ⟨[.V], true⟩ := by kernel_rfl
theorem T_impl_cellOk : T 40 = some impl_cellOk := by kernel_rfl
@[simp] theorem G_40 : G 40 = some ⟨[.V], true⟩ := by kernel_rfl
theorem T_impl_valuesOk : T 41 = some impl_valuesOk := by kernel_rfl
@[simp] theorem G_41 : G 41 = some ⟨[.V, .V], true⟩ := by kernel_rfl
theorem T_impl_areBelow : T 42 = some impl_areBelow := by kernel_rfl
@[simp] theorem G_42 : G 42 = some ⟨[.V, .V], true⟩ := by kernel_rfl
theorem T_impl_inRange : T 43 = some impl_inRange := by kernel_rfl
@[simp] theorem G_43 : G 43 = some ⟨[.V, .V, .V], true⟩ := by kernel_rfl
theorem T_impl_symOk : T 44 = some impl_symOk := by kernel_rfl
@[simp] theorem G_44 : G 44 = some ⟨[.V], true⟩ := by kernel_rfl
theorem T_impl_cellKind : T 45 = some impl_cellKind := by kernel_rfl
@[simp] theorem G_45 : G 45 = some ⟨[.V], true⟩ := by kernel_rfl
theorem T_laws_eqStringS : T 46 = some laws_eqStringS := by kernel_rfl
@[simp] theorem G_46 : G 46 = some ⟨[.V, .V], true⟩ := by kernel_rfl
theorem T_spec_l6Points : T 49 = some spec_l6Points := by kernel_rfl
@[simp] theorem G_49 : G 49 = some ⟨[.V], true⟩ := by kernel_rfl
theorem T_spec_IsName : T 50 = some spec_IsName := by kernel_rfl
@[simp] theorem G_50 : G 50 = some ⟨[.V], true⟩ := by kernel_rfl
theorem T_spec_l2Digit : T 51 = some spec_l2Digit := by kernel_rfl
@[simp] theorem G_51 : G 51 = some ⟨[.V], true⟩ := by kernel_rfl
theorem T_spec_l2Sign : T 52 = some spec_l2Sign := by kernel_rfl
@[simp] theorem G_52 : G 52 = some ⟨[.V], true⟩ := by kernel_rfl
theorem T_spec_ReadDec : T 53 = some spec_ReadDec := by kernel_rfl
@[simp] theorem G_53 : G 53 = some ⟨[.V], true⟩ := by kernel_rfl
theorem T_impl_allNames : T 54 = some impl_allNames := by kernel_rfl
@[simp] theorem G_54 : G 54 = some ⟨[.V], true⟩ := by kernel_rfl
theorem T_impl_isSymByte : T 55 = some impl_isSymByte := by kernel_rfl
@[simp] theorem G_55 : G 55 = some ⟨[.V], true⟩ := by kernel_rfl
theorem T_spec_l3Word : T 63 = some spec_l3Word := by kernel_rfl
@[simp] theorem G_63 : G 63 = some ⟨[.V], true⟩ := by kernel_rfl
theorem T_spec_Arity : T 64 = some spec_Arity := by kernel_rfl
@[simp] theorem G_64 : G 64 = some ⟨[.V], true⟩ := by kernel_rfl
theorem T_spec_l2In : T 65 = some spec_l2In := by kernel_rfl
@[simp] theorem G_65 : G 65 = some ⟨[.V, .V], true⟩ := by kernel_rfl
theorem T_spec_Dec : T 57 = some spec_Dec := by kernel_rfl
@[simp] theorem G_57 : G 57 = some ⟨[.V], true⟩ := by kernel_rfl
theorem T_impl_IsName : T 66 = some impl_IsName := by kernel_rfl
@[simp] theorem G_66 : G 66 = some ⟨[.V], true⟩ := by kernel_rfl
theorem T_spec_l3In : T 71 = some spec_l3In := by kernel_rfl
@[simp] theorem G_71 : G 71 = some ⟨[.V, .V], true⟩ := by kernel_rfl
theorem T_impl_isOneOf : T 72 = some impl_isOneOf := by kernel_rfl
@[simp] theorem G_72 : G 72 = some ⟨[.V, .V], true⟩ := by kernel_rfl
theorem T_impl_Arity : T 73 = some impl_Arity := by kernel_rfl
@[simp] theorem G_73 : G 73 = some ⟨[.V], true⟩ := by kernel_rfl
theorem run_laws_FnExactAsList {cs : List CV} {r : List CV × List CV} (h : Run G A laws_FnExactAsList.b (params 0 cs) [] (QF true [.V, .V] [.tmp 4] r)) : A 3 cs = some r := A_run T_laws_FnExactAsList h
theorem run_laws_szCellS {cs : List CV} {r : List CV × List CV} (h : Run G A laws_szCellS.b (params 0 cs) [] (QF true [.V, .V] [.tmp 4] r)) : A 5 cs = some r := A_run T_laws_szCellS h
theorem run_laws_szValue {cs : List CV} {r : List CV × List CV} (h : Run G A laws_szValue.b (params 0 cs) [] (QF true [.V, .V] [.tmp 4] r)) : A 6 cs = some r := A_run T_laws_szValue h
theorem run_spec_AsList {cs : List CV} {r : List CV × List CV} (h : Run G A spec_AsList.b (params 0 cs) [] (QF true [.V, .V] [.tmp 4, .tmp 5] r)) : A 7 cs = some r := A_run T_spec_AsList h
theorem run_laws_toCellS {cs : List CV} {r : List CV × List CV} (h : Run G A laws_toCellS.b (params 0 cs) [] (QF true [.V] [.tmp 2] r)) : A 8 cs = some r := A_run T_laws_toCellS h
theorem run_laws_toValue {cs : List CV} {r : List CV × List CV} (h : Run G A laws_toValue.b (params 0 cs) [] (QF true [.V] [.cell 2 3 true] r)) : A 9 cs = some r := A_run T_laws_toValue h
theorem run_impl_AsList {cs : List CV} {r : List CV × List CV} (h : Run G A impl_AsList.b (params 0 cs) [] (QF true [.V, .V] [.tmp 4, .tmp 5] r)) : A 10 cs = some r := A_run T_impl_AsList h
theorem run_laws_eqValueS {cs : List CV} {r : List CV × List CV} (h : Run G A laws_eqValueS.b (params 0 cs) [] (QF true [.V, .V] [.tmp 4] r)) : A 11 cs = some r := A_run T_laws_eqValueS h
theorem run_laws_eqCellS {cs : List CV} {r : List CV × List CV} (h : Run G A laws_eqCellS.b (params 0 cs) [] (QF true [.V, .V] [.tmp 4] r)) : A 12 cs = some r := A_run T_laws_eqCellS h
theorem run_laws_markCellS {cs : List CV} {r : List CV × List CV} (h : Run G A laws_markCellS.b (params 0 cs) [] (QF true [.M, .V] [.tmp 4] r)) : A 13 cs = some r := A_run T_laws_markCellS h
theorem run_laws_markValueS {cs : List CV} {r : List CV × List CV} (h : Run G A laws_markValueS.b (params 0 cs) [] (QF true [.M, .V] [.tmp 4] r)) : A 14 cs = some r := A_run T_laws_markValueS h
theorem run_laws_heldValueS {cs : List CV} {r : List CV × List CV} (h : Run G A laws_heldValueS.b (params 0 cs) [] (QF true [.V, .V] [.tmp 4] r)) : A 15 cs = some r := A_run T_laws_heldValueS h
theorem run_laws_szCell {cs : List CV} {r : List CV × List CV} (h : Run G A laws_szCell.b (params 0 cs) [] (QF true [.V, .V] [.tmp 4] r)) : A 18 cs = some r := A_run T_laws_szCell h
theorem run_spec_HeapOk {cs : List CV} {r : List CV × List CV} (h : Run G A spec_HeapOk.b (params 0 cs) [] (QF true [.V] [.tmp 2] r)) : A 19 cs = some r := A_run T_spec_HeapOk h
theorem run_spec_ValueOk {cs : List CV} {r : List CV × List CV} (h : Run G A spec_ValueOk.b (params 0 cs) [] (QF true [.V, .V] [.tmp 4] r)) : A 20 cs = some r := A_run T_spec_ValueOk h
theorem run_spec_l14List {cs : List CV} {r : List CV × List CV} (h : Run G A spec_l14List.b (params 0 cs) [] (QF true [.V, .V] [.tmp 4, .tmp 5] r)) : A 21 cs = some r := A_run T_spec_l14List h
theorem run_laws_toCell {cs : List CV} {r : List CV × List CV} (h : Run G A laws_toCell.b (params 0 cs) [] (QF true [.V] [.cell 2 6 true] r)) : A 22 cs = some r := A_run T_laws_toCell h
theorem run_impl_HeapOk {cs : List CV} {r : List CV × List CV} (h : Run G A impl_HeapOk.b (params 0 cs) [] (QF true [.V] [.tmp 2] r)) : A 23 cs = some r := A_run T_impl_HeapOk h
theorem run_impl_ValueOk {cs : List CV} {r : List CV × List CV} (h : Run G A impl_ValueOk.b (params 0 cs) [] (QF true [.V, .V] [.tmp 4] r)) : A 24 cs = some r := A_run T_impl_ValueOk h
theorem run_impl_asList {cs : List CV} {r : List CV × List CV} (h : Run G A impl_asList.b (params 0 cs) [] (QF true [.V, .V] [.tmp 4, .tmp 5] r)) : A 25 cs = some r := A_run T_impl_asList h
theorem run_laws_eqValue {cs : List CV} {r : List CV × List CV} (h : Run G A laws_eqValue.b (params 0 cs) [] (QF true [.V, .V] [.tmp 4] r)) : A 26 cs = some r := A_run T_laws_eqValue h
theorem run_laws_eqCell {cs : List CV} {r : List CV × List CV} (h : Run G A laws_eqCell.b (params 0 cs) [] (QF true [.V, .V] [.tmp 4] r)) : A 27 cs = some r := A_run T_laws_eqCell h
theorem run_laws_markText {cs : List CV} {r : List CV × List CV} (h : Run G A laws_markText.b (params 0 cs) [] (QF true [.V] [.tmp 2] r)) : A 28 cs = some r := A_run T_laws_markText h
theorem runE_laws_markText {cs : List CV} {X : List CV → List CV → Prop} (h : Run G A laws_markText.b (params 0 cs) [] (QE true [.V] [.tmp 2] X)) : ∃ rs os, A 28 cs = some (rs, os) ∧ X rs os := A_runE T_laws_markText h
theorem run_laws_markStringS {cs : List CV} {r : List CV × List CV} (h : Run G A laws_markStringS.b (params 0 cs) [] (QF true [.M, .V] [.tmp 4] r)) : A 29 cs = some r := A_run T_laws_markStringS h
theorem run_laws_szStringS {cs : List CV} {r : List CV × List CV} (h : Run G A laws_szStringS.b (params 0 cs) [] (QF true [.V, .V] [.tmp 4] r)) : A 32 cs = some r := A_run T_laws_szStringS h
theorem run_laws_szValueS {cs : List CV} {r : List CV × List CV} (h : Run G A laws_szValueS.b (params 0 cs) [] (QF true [.V, .V] [.tmp 4] r)) : A 33 cs = some r := A_run T_laws_szValueS h
theorem run_spec_l6CellOk {cs : List CV} {r : List CV × List CV} (h : Run G A spec_l6CellOk.b (params 0 cs) [] (QF true [.V, .V] [.tmp 4] r)) : A 34 cs = some r := A_run T_spec_l6CellOk h
theorem run_spec_l1In {cs : List CV} {r : List CV × List CV} (h : Run G A spec_l1In.b (params 0 cs) [] (QF true [.V, .V, .V] [.tmp 6] r)) : A 35 cs = some r := A_run T_spec_l1In h
theorem run_spec_l2Sym {cs : List CV} {r : List CV × List CV} (h : Run G A spec_l2Sym.b (params 0 cs) [] (QF true [.V] [.tmp 2] r)) : A 36 cs = some r := A_run T_spec_l2Sym h
theorem run_spec_l6Cell {cs : List CV} {r : List CV × List CV} (h : Run G A spec_l6Cell.b (params 0 cs) [] (QF true [.V, .V, .V] [.tmp 6] r)) : A 37 cs = some r := A_run T_spec_l6Cell h
theorem run_laws_toStringS {cs : List CV} {r : List CV × List CV} (h : Run G A laws_toStringS.b (params 0 cs) [] (QF true [.V] [.tmp 2] r)) : A 38 cs = some r := A_run T_laws_toStringS h
theorem run_laws_toValueS {cs : List CV} {r : List CV × List CV} (h : Run G A laws_toValueS.b (params 0 cs) [] (QF true [.V] [.tmp 2] r)) : A 39 cs = some r := A_run T_laws_toValueS h
theorem run_impl_cellOk {cs : List CV} {r : List CV × List CV} (h : Run G A impl_cellOk.b (params 0 cs) [] (QF true [.V] [.tmp 2] r)) : A 40 cs = some r := A_run T_impl_cellOk h
theorem run_impl_valuesOk {cs : List CV} {r : List CV × List CV} (h : Run G A impl_valuesOk.b (params 0 cs) [] (QF true [.V, .V] [.tmp 4] r)) : A 41 cs = some r := A_run T_impl_valuesOk h
theorem run_impl_areBelow {cs : List CV} {r : List CV × List CV} (h : Run G A impl_areBelow.b (params 0 cs) [] (QF true [.V, .V] [.tmp 4] r)) : A 42 cs = some r := A_run T_impl_areBelow h
theorem run_impl_inRange {cs : List CV} {r : List CV × List CV} (h : Run G A impl_inRange.b (params 0 cs) [] (QF true [.V, .V, .V] [.tmp 6] r)) : A 43 cs = some r := A_run T_impl_inRange h
theorem run_impl_symOk {cs : List CV} {r : List CV × List CV} (h : Run G A impl_symOk.b (params 0 cs) [] (QF true [.V] [.tmp 2] r)) : A 44 cs = some r := A_run T_impl_symOk h
theorem run_impl_cellKind {cs : List CV} {r : List CV × List CV} (h : Run G A impl_cellKind.b (params 0 cs) [] (QF true [.V] [.tmp 2] r)) : A 45 cs = some r := A_run T_impl_cellKind h
theorem run_laws_eqStringS {cs : List CV} {r : List CV × List CV} (h : Run G A laws_eqStringS.b (params 0 cs) [] (QF true [.V, .V] [.tmp 4] r)) : A 46 cs = some r := A_run T_laws_eqStringS h
theorem run_spec_l6Points {cs : List CV} {r : List CV × List CV} (h : Run G A spec_l6Points.b (params 0 cs) [] (QF true [.V] [.tmp 2] r)) : A 49 cs = some r := A_run T_spec_l6Points h
theorem run_spec_IsName {cs : List CV} {r : List CV × List CV} (h : Run G A spec_IsName.b (params 0 cs) [] (QF true [.V] [.tmp 2] r)) : A 50 cs = some r := A_run T_spec_IsName h
theorem run_spec_l2Digit {cs : List CV} {r : List CV × List CV} (h : Run G A spec_l2Digit.b (params 0 cs) [] (QF true [.V] [.tmp 2] r)) : A 51 cs = some r := A_run T_spec_l2Digit h
theorem run_spec_l2Sign {cs : List CV} {r : List CV × List CV} (h : Run G A spec_l2Sign.b (params 0 cs) [] (QF true [.V] [.tmp 2] r)) : A 52 cs = some r := A_run T_spec_l2Sign h
theorem run_spec_ReadDec {cs : List CV} {r : List CV × List CV} (h : Run G A spec_ReadDec.b (params 0 cs) [] (QF true [.V] [.tmp 2, .tmp 3] r)) : A 53 cs = some r := A_run T_spec_ReadDec h
theorem run_impl_allNames {cs : List CV} {r : List CV × List CV} (h : Run G A impl_allNames.b (params 0 cs) [] (QF true [.V] [.tmp 2] r)) : A 54 cs = some r := A_run T_impl_allNames h
theorem run_impl_isSymByte {cs : List CV} {r : List CV × List CV} (h : Run G A impl_isSymByte.b (params 0 cs) [] (QF true [.V] [.tmp 2] r)) : A 55 cs = some r := A_run T_impl_isSymByte h
theorem run_spec_l3Word {cs : List CV} {r : List CV × List CV} (h : Run G A spec_l3Word.b (params 0 cs) [] (QF true [.V] [.tmp 2] r)) : A 63 cs = some r := A_run T_spec_l3Word h
theorem run_spec_Arity {cs : List CV} {r : List CV × List CV} (h : Run G A spec_Arity.b (params 0 cs) [] (QF true [.V] [.tmp 2] r)) : A 64 cs = some r := A_run T_spec_Arity h
theorem run_spec_l2In {cs : List CV} {r : List CV × List CV} (h : Run G A spec_l2In.b (params 0 cs) [] (QF true [.V, .V] [.tmp 4] r)) : A 65 cs = some r := A_run T_spec_l2In h
theorem run_spec_Dec {cs : List CV} {r : List CV × List CV} (h : Run G A spec_Dec.b (params 0 cs) [] (QF true [.V] [.tmp 2] r)) : A 57 cs = some r := A_run T_spec_Dec h
theorem run_impl_IsName {cs : List CV} {r : List CV × List CV} (h : Run G A impl_IsName.b (params 0 cs) [] (QF true [.V] [.tmp 2] r)) : A 66 cs = some r := A_run T_impl_IsName h
theorem run_spec_l3In {cs : List CV} {r : List CV × List CV} (h : Run G A spec_l3In.b (params 0 cs) [] (QF true [.V, .V] [.tmp 4] r)) : A 71 cs = some r := A_run T_spec_l3In h
theorem run_impl_isOneOf {cs : List CV} {r : List CV × List CV} (h : Run G A impl_isOneOf.b (params 0 cs) [] (QF true [.V, .V] [.tmp 4] r)) : A 72 cs = some r := A_run T_impl_isOneOf h
theorem run_impl_Arity {cs : List CV} {r : List CV × List CV} (h : Run G A impl_Arity.b (params 0 cs) [] (QF true [.V] [.tmp 2] r)) : A 73 cs = some r := A_run T_impl_Arity h
theorem T_impl_ReadDec : T 56 = none := by kernel_rfl
@[simp] theorem G_56 : G 56 = some ⟨[.V], true⟩ := by kernel_rfl
theorem P_impl_ReadDec {cs : List CV} {r : List CV × List CV} (h : prim_impl_ReadDec.run cs = some r) : A 56 cs = some r := A_prim T_impl_ReadDec (by rw [← h]; rfl)
theorem T_strings_IndexByte : T 67 = none := by kernel_rfl
@[simp] theorem G_67 : G 67 = some ⟨[.V, .V], true⟩ := by kernel_rfl
theorem P_strings_IndexByte {cs : List CV} {r : List CV × List CV} (h : prim_strings_IndexByte.run cs = some r) : A 67 cs = some r := A_prim T_strings_IndexByte (by rw [← h]; rfl)
theorem T_strings_Contains : T 79 = none := by kernel_rfl
@[simp] theorem G_79 : G 79 = some ⟨[.V, .V], true⟩ := by kernel_rfl
theorem P_strings_Contains {cs : List CV} {r : List CV × List CV} (h : prim_strings_Contains.run cs = some r) : A 79 cs = some r := A_prim T_strings_Contains (by rw [← h]; rfl)
end Go.Proofs.YtjjfodoafefohaaDoor.AL
