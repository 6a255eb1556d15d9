/- The table of the functions. -/
import Derived.Test.YtdoelepflcaijaaDoorHPFn0
import Derived.Test.YtdoelepflcaijaaDoorEngM7
import Derived.Test.YtdoelepflcaijaaDoorEngPContains
import Derived.Test.YtdoelepflcaijaaDoorEngPIndexByte
import Derived.Test.YtdoelepflcaijaaDoorEngPReadDec
namespace Go.Proofs.YtdoelepflcaijaaDoor.HP
open Go Go.VS
set_option maxRecDepth 100000
set_option linter.unusedVariables false
set_option linter.unusedSimpArgs false
noncomputable def tab : List (Entry Tryd.prog) := [⟨6, laws_FnExactHeapOk, Tryd.f6, Tryd.func6, laws_FnExactHeapOk.turned⟩,
  ⟨29, laws_szCellS, Tryd.f29, Tryd.func29, laws_szCellS.turned⟩,
  ⟨30, spec_HeapOk, Tryd.f30, Tryd.func30, spec_HeapOk.turned⟩,
  ⟨31, laws_toCellS, Tryd.f31, Tryd.func31, laws_toCellS.turned⟩,
  ⟨32, impl_HeapOk, Tryd.f32, Tryd.func32, impl_HeapOk.turned⟩,
  ⟨33, laws_eqCellS, Tryd.f33, Tryd.func33, laws_eqCellS.turned⟩,
  ⟨70, laws_szCell, Tryd.f70, Tryd.func70, laws_szCell.turned⟩,
  ⟨71, spec_l6CellOk, Tryd.f71, Tryd.func71, spec_l6CellOk.turned⟩,
  ⟨72, laws_toCell, Tryd.f72, Tryd.func72, laws_toCell.turned⟩,
  ⟨73, impl_cellOk, Tryd.f73, Tryd.func73, impl_cellOk.turned⟩,
  ⟨74, impl_valuesOk, Tryd.f74, Tryd.func74, impl_valuesOk.turned⟩,
  ⟨75, impl_areBelow, Tryd.f75, Tryd.func75, impl_areBelow.turned⟩,
  ⟨76, laws_eqCell, Tryd.f76, Tryd.func76, laws_eqCell.turned⟩,
  ⟨108, laws_szStringS, Tryd.f108, Tryd.func108, laws_szStringS.turned⟩,
  ⟨109, laws_szValueS, Tryd.f109, Tryd.func109, laws_szValueS.turned⟩,
  ⟨97, spec_l1In, Tryd.f97, Tryd.func97, spec_l1In.turned⟩,
  ⟨110, spec_ValueOk, Tryd.f110, Tryd.func110, spec_ValueOk.turned⟩,
  ⟨111, spec_l6Points, Tryd.f111, Tryd.func111, spec_l6Points.turned⟩,
  ⟨112, spec_IsName, Tryd.f112, Tryd.func112, spec_IsName.turned⟩,
  ⟨113, laws_toStringS, Tryd.f113, Tryd.func113, laws_toStringS.turned⟩,
  ⟨114, laws_toValueS, Tryd.f114, Tryd.func114, laws_toValueS.turned⟩,
  ⟨54, impl_inRange, Tryd.f54, Tryd.func54, impl_inRange.turned⟩,
  ⟨115, impl_allNames, Tryd.f115, Tryd.func115, impl_allNames.turned⟩,
  ⟨116, impl_ValueOk, Tryd.f116, Tryd.func116, impl_ValueOk.turned⟩,
  ⟨117, impl_cellKind, Tryd.f117, Tryd.func117, impl_cellKind.turned⟩,
  ⟨118, laws_eqStringS, Tryd.f118, Tryd.func118, laws_eqStringS.turned⟩,
  ⟨119, laws_eqValueS, Tryd.f119, Tryd.func119, laws_eqValueS.turned⟩,
  ⟨143, laws_szValue, Tryd.f143, Tryd.func143, laws_szValue.turned⟩,
  ⟨137, spec_l2Sym, Tryd.f137, Tryd.func137, spec_l2Sym.turned⟩,
  ⟨144, spec_l6Cell, Tryd.f144, Tryd.func144, spec_l6Cell.turned⟩,
  ⟨145, spec_l3Word, Tryd.f145, Tryd.func145, spec_l3Word.turned⟩,
  ⟨146, spec_Arity, Tryd.f146, Tryd.func146, spec_Arity.turned⟩,
  ⟨147, laws_toValue, Tryd.f147, Tryd.func147, laws_toValue.turned⟩,
  ⟨148, impl_IsName, Tryd.f148, Tryd.func148, impl_IsName.turned⟩,
  ⟨149, impl_symOk, Tryd.f149, Tryd.func149, impl_symOk.turned⟩,
  ⟨150, laws_eqValue, Tryd.f150, Tryd.func150, laws_eqValue.turned⟩,
  ⟨135, spec_l2Sign, Tryd.f135, Tryd.func135, spec_l2Sign.turned⟩,
  ⟨136, spec_ReadDec, Tryd.f136, Tryd.func136, spec_ReadDec.turned⟩,
  ⟨162, spec_l2Digit, Tryd.f162, Tryd.func162, spec_l2Digit.turned⟩,
  ⟨165, spec_l3In, Tryd.f165, Tryd.func165, spec_l3In.turned⟩,
  ⟨166, impl_isOneOf, Tryd.f166, Tryd.func166, impl_isOneOf.turned⟩,
  ⟨167, impl_Arity, Tryd.f167, Tryd.func167, impl_Arity.turned⟩,
  ⟨163, impl_isSymByte, Tryd.f163, Tryd.func163, impl_isSymByte.turned⟩,
  ⟨134, spec_l2In, Tryd.f134, Tryd.func134, spec_l2In.turned⟩,
  ⟨83, spec_Dec, Tryd.f83, Tryd.func83, spec_Dec.turned⟩]
noncomputable def ptab : List (PEntry Tryd.prog LaidX) := [prim_impl_ReadDec, prim_strings_Contains, prim_strings_IndexByte]
noncomputable def T : FuncId → Option VFn := tabT tab
noncomputable def G : Sigs := tabG tab ptab
noncomputable def A : Fns := lim G T (tabP ptab)
theorem A_run {f : FuncId} {vf : VFn} {cs : List CV} {r : List CV × List CV} (hT : T f = some vf) (h : Run G A vf.body (params 0 cs) [] (QF vf.sig.own vf.sig.modes vf.res r)) : A f cs = some r := lim_run hT h
theorem A_runE {f : FuncId} {vf : VFn} {cs : List CV} {X : List CV → List CV → Prop} (hT : T f = some vf) (h : Run G A vf.body (params 0 cs) [] (QE vf.sig.own vf.sig.modes vf.res X)) : ∃ rs os, A f cs = some (rs, os) ∧ X rs os := lim_runE hT h
theorem A_prim {f : FuncId} {cs : List CV} {r : List CV × List CV} (hT : T f = none) (h : tabP ptab f cs = some r) : A f cs = some r := lim_prim hT h
theorem A_answers {W : World} (hX : LaidX W) {f : FuncId} {g : Sig} {cs res outs : List CV} (hg : G f = some g) (h : A f cs = some (res, outs)) : Answers Tryd.prog W f cs res outs := lim_answers (tabT_ok tab ptab) (tabP_ok hX tab ptab) hg h
theorem T_laws_FnExactHeapOk : T 6 = some laws_FnExactHeapOk := by kernel_rfl
@[simp] theorem G_6 : G 6 = some ⟨[.V], true⟩ := by kernel_rfl
theorem T_laws_szCellS : T 29 = some laws_szCellS := by kernel_rfl
@[simp] theorem G_29 : G 29 = some ⟨[.V, .V], true⟩ := by kernel_rfl
theorem T_spec_HeapOk : T 30 = some spec_HeapOk := by kernel_rfl
@[simp] theorem G_30 : G 30 = some ⟨[.V], true⟩ := by kernel_rfl
theorem T_laws_toCellS : T 31 = some laws_toCellS := by kernel_rfl
@[simp] theorem G_31 : G 31 = some ⟨[.V], true⟩ := by kernel_rfl
theorem T_impl_HeapOk : T 32 = some impl_HeapOk := by kernel_rfl
@[simp] theorem G_32 : G 32 = some ⟨[.V], true⟩ := by kernel_rfl
theorem T_laws_eqCellS : T 33 = some laws_eqCellS := by kernel_rfl
@[simp] theorem G_33 : G 33 = some ⟨[.V, .V], true⟩ := by kernel_rfl
theorem T_laws_szCell : T 70 = some laws_szCell := by kernel_rfl
@[simp] theorem G_70 : G 70 = some ⟨[.V, .V], true⟩ := by kernel_rfl
theorem T_spec_l6CellOk : T 71 = some spec_l6CellOk := by kernel_rfl
@[simp] theorem G_71 : G 71 = some ⟨[.V, .V], true⟩ := by kernel_rfl
theorem T_laws_toCell : T 72 = some laws_toCell := by kernel_rfl
@[simp] theorem G_72 : G 72 = some ⟨[.V], true⟩ := by kernel_rfl
theorem T_impl_cellOk : T 73 = some impl_cellOk := by kernel_rfl
@[simp] theorem G_73 : G 73 = some ⟨[.V], true⟩ := by kernel_rfl
theorem T_impl_valuesOk : T 74 = some impl_valuesOk := by kernel_rfl
@[simp] theorem G_74 : G 74 = some ⟨[.V, .V], true⟩ := by kernel_rfl
theorem T_impl_areBelow : T 75 = some impl_areBelow := by kernel_rfl
@[simp] theorem G_75 : G 75 = some ⟨[.V, .V], true⟩ := by kernel_rfl
theorem T_laws_eqCell : T 76 = some laws_eqCell := by kernel_rfl
@[simp] theorem G_76 : G 76 = some ⟨[.V, .V], true⟩ := by kernel_rfl
theorem T_laws_szStringS : T 108 = some laws_szStringS := by kernel_rfl
@[simp] theorem G_108 : G 108 = some ⟨[.V, .V], true⟩ := by kernel_rfl
theorem T_laws_szValueS : T 109 = some laws_szValueS := by kernel_rfl
@[simp] theorem G_109 : G 109 = some ⟨[.V, .V], true⟩ := by kernel_rfl
theorem T_spec_l1In : T 97 = some spec_l1In := by kernel_rfl
@[simp] theorem G_97 : G 97 = some ⟨[.V, .V, .V], true⟩ := by kernel_rfl
theorem T_spec_ValueOk : T 110 = some spec_ValueOk := by kernel_rfl
@[simp] theorem G_110 : G 110 = some ⟨[.V, .V], true⟩ := by kernel_rfl
theorem T_spec_l6Points : T 111 = some spec_l6Points := by kernel_rfl
@[simp] theorem G_111 : G 111 = some ⟨[.V], true⟩ := by kernel_rfl
theorem T_spec_IsName : T 112 = some spec_IsName := by kernel_rfl
@[simp] theorem G_112 : G 112 = some ⟨[.V], true⟩ := by kernel_rfl
theorem T_laws_toStringS : T 113 = some laws_toStringS := by kernel_rfl
@[simp] theorem G_113 : G 113 = some ⟨[.V], true⟩ := by kernel_rfl
theorem T_laws_toValueS : T 114 = some laws_toValueS := by kernel_rfl
@[simp] theorem G_114 : G 114 = some ⟨[.V], true⟩ := by kernel_rfl
theorem T_impl_inRange : T 54 = some impl_inRange := by kernel_rfl
@[simp] theorem G_54 : G 54 = some ⟨[.V, .V, .V], true⟩ := by kernel_rfl
theorem T_impl_allNames : T 115 = some impl_allNames := by kernel_rfl
@[simp] theorem G_115 : G 115 = some ⟨[.V], true⟩ := by kernel_rfl
theorem T_impl_ValueOk : T 116 = some impl_ValueOk := by kernel_rfl
@[simp] theorem G_116 : G 116 = some ⟨[.V, .V], true⟩ := by kernel_rfl
theorem T_impl_cellKind : T 117 = some impl_cellKind := by kernel_rfl
@[simp] theorem G_117 : G 117 = some ⟨[.V], true⟩ := by kernel_rfl
theorem T_laws_eqStringS : T 118 = some laws_eqStringS := by kernel_rfl
@[simp] theorem G_118 : G 118 = some ⟨[.V, .V], true⟩ := by kernel_rfl
theorem T_laws_eqValueS : T 119 = some laws_eqValueS := by kernel_rfl
@[simp] theorem G_119 : G 119 = some ⟨[.V, .V], true⟩ := by kernel_rfl
theorem T_laws_szValue : T 143 = some laws_szValue := by kernel_rfl
@[simp] theorem G_143 : G 143 = some ⟨[.V, .V], true⟩ := by kernel_rfl
theorem T_spec_l2Sym : T 137 = some spec_l2Sym := by kernel_rfl
@[simp] theorem G_137 : G 137 = some ⟨[.V], true⟩ := by kernel_rfl
theorem T_spec_l6Cell : T 144 = some spec_l6Cell := by kernel_rfl
@[simp] theorem G_144 : G 144 = some ⟨[.V, .V, .V], true⟩ := by kernel_rfl
theorem T_spec_l3Word : T 145 = some spec_l3Word := by kernel_rfl
@[simp] theorem G_145 : G 145 = some ⟨[.V], true⟩ := by kernel_rfl
theorem T_spec_Arity : T 146 = some spec_Arity := by kernel_rfl
@[simp] theorem G_146 : G 146 = some ⟨[.V], true⟩ := by kernel_rfl
theorem T_laws_toValue : T 147 = some laws_toValue := by kernel_rfl
@[simp] theorem G_147 : G 147 = some ⟨[.V], true⟩ := by kernel_rfl
theorem T_impl_IsName : T 148 = some impl_IsName := by kernel_rfl
@[simp] theorem G_148 : G 148 = some ⟨[.V], true⟩ := by kernel_rfl
theorem T_impl_symOk : T 149 = some impl_symOk := by kernel_rfl
@[simp] theorem G_149 : G 149 = some ⟨[.V], true⟩ := by kernel_rfl
theorem T_laws_eqValue : T 150 = some laws_eqValue := by kernel_rfl
@[simp] theorem G_150 : G 150 = some ⟨[.V, .V], true⟩ := by kernel_rfl
theorem T_spec_l2Sign : T 135 = some spec_l2Sign := by kernel_rfl
@[simp] theorem G_135 : G 135 = some ⟨[.V], true⟩ := by kernel_rfl
theorem T_spec_ReadDec : T 136 = some spec_ReadDec := by kernel_rfl
@[simp] theorem G_136 : G 136 = some ⟨[.V], true⟩ := by kernel_rfl
theorem T_spec_l2Digit : T 162 = some spec_l2Digit := by kernel_rfl
@[simp] theorem G_162 : G 162 = some ⟨[.V], true⟩ := by kernel_rfl
theorem T_spec_l3In : T 165 = some spec_l3In := by kernel_rfl
@[simp] theorem G_165 : G 165 = some ⟨[.V, .V], true⟩ := by kernel_rfl
theorem T_impl_isOneOf : T 166 = some impl_isOneOf := by kernel_rfl
@[simp] theorem G_166 : G 166 = some ⟨[.V, .V], true⟩ := by kernel_rfl
theorem T_impl_Arity : T 167 = some impl_Arity := by kernel_rfl
@[simp] theorem G_167 : G 167 = some ⟨[.V], true⟩ := by kernel_rfl
theorem T_impl_isSymByte : T 163 = some impl_isSymByte := by kernel_rfl
@[simp] theorem G_163 : G 163 = some ⟨[.V], true⟩ := by kernel_rfl
theorem T_spec_l2In : T 134 = some spec_l2In := by kernel_rfl
@[simp] theorem G_134 : G 134 = some ⟨[.V, .V], true⟩ := by kernel_rfl
theorem T_spec_Dec : T 83 = some spec_Dec := by kernel_rfl
@[simp] theorem G_83 : G 83 = some ⟨[.V], true⟩ := by kernel_rfl
theorem run_laws_FnExactHeapOk {cs : List CV} {r : List CV × List CV} (h : Run G A laws_FnExactHeapOk.b (params 0 cs) [] (QF true [.V] [.tmp 2] r)) : A 6 cs = some r := A_run T_laws_FnExactHeapOk h
theorem runE_laws_FnExactHeapOk {cs : List CV} {X : List CV → List CV → Prop} (h : Run G A laws_FnExactHeapOk.b (params 0 cs) [] (QE true [.V] [.tmp 2] X)) : ∃ rs os, A 6 cs = some (rs, os) ∧ X rs os := A_runE T_laws_FnExactHeapOk h
theorem run_laws_szCellS {cs : List CV} {r : List CV × List CV} (h : Run G A laws_szCellS.b (params 0 cs) [] (QF true [.V, .V] [.tmp 4] r)) : A 29 cs = some r := A_run T_laws_szCellS h
theorem runE_laws_szCellS {cs : List CV} {X : List CV → List CV → Prop} (h : Run G A laws_szCellS.b (params 0 cs) [] (QE true [.V, .V] [.tmp 4] X)) : ∃ rs os, A 29 cs = some (rs, os) ∧ X rs os := A_runE T_laws_szCellS h
theorem run_spec_HeapOk {cs : List CV} {r : List CV × List CV} (h : Run G A spec_HeapOk.b (params 0 cs) [] (QF true [.V] [.tmp 2] r)) : A 30 cs = some r := A_run T_spec_HeapOk h
theorem runE_spec_HeapOk {cs : List CV} {X : List CV → List CV → Prop} (h : Run G A spec_HeapOk.b (params 0 cs) [] (QE true [.V] [.tmp 2] X)) : ∃ rs os, A 30 cs = some (rs, os) ∧ X rs os := A_runE T_spec_HeapOk h
theorem run_laws_toCellS {cs : List CV} {r : List CV × List CV} (h : Run G A laws_toCellS.b (params 0 cs) [] (QF true [.V] [.tmp 2] r)) : A 31 cs = some r := A_run T_laws_toCellS h
theorem runE_laws_toCellS {cs : List CV} {X : List CV → List CV → Prop} (h : Run G A laws_toCellS.b (params 0 cs) [] (QE true [.V] [.tmp 2] X)) : ∃ rs os, A 31 cs = some (rs, os) ∧ X rs os := A_runE T_laws_toCellS h
theorem run_impl_HeapOk {cs : List CV} {r : List CV × List CV} (h : Run G A impl_HeapOk.b (params 0 cs) [] (QF true [.V] [.tmp 2] r)) : A 32 cs = some r := A_run T_impl_HeapOk h
theorem runE_impl_HeapOk {cs : List CV} {X : List CV → List CV → Prop} (h : Run G A impl_HeapOk.b (params 0 cs) [] (QE true [.V] [.tmp 2] X)) : ∃ rs os, A 32 cs = some (rs, os) ∧ X rs os := A_runE T_impl_HeapOk h
theorem run_laws_eqCellS {cs : List CV} {r : List CV × List CV} (h : Run G A laws_eqCellS.b (params 0 cs) [] (QF true [.V, .V] [.tmp 4] r)) : A 33 cs = some r := A_run T_laws_eqCellS h
theorem runE_laws_eqCellS {cs : List CV} {X : List CV → List CV → Prop} (h : Run G A laws_eqCellS.b (params 0 cs) [] (QE true [.V, .V] [.tmp 4] X)) : ∃ rs os, A 33 cs = some (rs, os) ∧ X rs os := A_runE T_laws_eqCellS h
theorem run_laws_szCell {cs : List CV} {r : List CV × List CV} (h : Run G A laws_szCell.b (params 0 cs) [] (QF true [.V, .V] [.tmp 4] r)) : A 70 cs = some r := A_run T_laws_szCell h
theorem runE_laws_szCell {cs : List CV} {X : List CV → List CV → Prop} (h : Run G A laws_szCell.b (params 0 cs) [] (QE true [.V, .V] [.tmp 4] X)) : ∃ rs os, A 70 cs = some (rs, os) ∧ X rs os := A_runE T_laws_szCell h
theorem run_spec_l6CellOk {cs : List CV} {r : List CV × List CV} (h : Run G A spec_l6CellOk.b (params 0 cs) [] (QF true [.V, .V] [.tmp 4] r)) : A 71 cs = some r := A_run T_spec_l6CellOk h
theorem runE_spec_l6CellOk {cs : List CV} {X : List CV → List CV → Prop} (h : Run G A spec_l6CellOk.b (params 0 cs) [] (QE true [.V, .V] [.tmp 4] X)) : ∃ rs os, A 71 cs = some (rs, os) ∧ X rs os := A_runE T_spec_l6CellOk h
theorem run_laws_toCell {cs : List CV} {r : List CV × List CV} (h : Run G A laws_toCell.b (params 0 cs) [] (QF true [.V] [.cell 2 6 true] r)) : A 72 cs = some r := A_run T_laws_toCell h
theorem runE_laws_toCell {cs : List CV} {X : List CV → List CV → Prop} (h : Run G A laws_toCell.b (params 0 cs) [] (QE true [.V] [.cell 2 6 true] X)) : ∃ rs os, A 72 cs = some (rs, os) ∧ X rs os := A_runE T_laws_toCell h
theorem run_impl_cellOk {cs : List CV} {r : List CV × List CV} (h : Run G A impl_cellOk.b (params 0 cs) [] (QF true [.V] [.tmp 2] r)) : A 73 cs = some r := A_run T_impl_cellOk h
theorem runE_impl_cellOk {cs : List CV} {X : List CV → List CV → Prop} (h : Run G A impl_cellOk.b (params 0 cs) [] (QE true [.V] [.tmp 2] X)) : ∃ rs os, A 73 cs = some (rs, os) ∧ X rs os := A_runE T_impl_cellOk h
theorem run_impl_valuesOk {cs : List CV} {r : List CV × List CV} (h : Run G A impl_valuesOk.b (params 0 cs) [] (QF true [.V, .V] [.tmp 4] r)) : A 74 cs = some r := A_run T_impl_valuesOk h
theorem runE_impl_valuesOk {cs : List CV} {X : List CV → List CV → Prop} (h : Run G A impl_valuesOk.b (params 0 cs) [] (QE true [.V, .V] [.tmp 4] X)) : ∃ rs os, A 74 cs = some (rs, os) ∧ X rs os := A_runE T_impl_valuesOk h
theorem run_impl_areBelow {cs : List CV} {r : List CV × List CV} (h : Run G A impl_areBelow.b (params 0 cs) [] (QF true [.V, .V] [.tmp 4] r)) : A 75 cs = some r := A_run T_impl_areBelow h
theorem runE_impl_areBelow {cs : List CV} {X : List CV → List CV → Prop} (h : Run G A impl_areBelow.b (params 0 cs) [] (QE true [.V, .V] [.tmp 4] X)) : ∃ rs os, A 75 cs = some (rs, os) ∧ X rs os := A_runE T_impl_areBelow h
theorem run_laws_eqCell {cs : List CV} {r : List CV × List CV} (h : Run G A laws_eqCell.b (params 0 cs) [] (QF true [.V, .V] [.tmp 4] r)) : A 76 cs = some r := A_run T_laws_eqCell h
theorem runE_laws_eqCell {cs : List CV} {X : List CV → List CV → Prop} (h : Run G A laws_eqCell.b (params 0 cs) [] (QE true [.V, .V] [.tmp 4] X)) : ∃ rs os, A 76 cs = some (rs, os) ∧ X rs os := A_runE T_laws_eqCell h
theorem run_laws_szStringS {cs : List CV} {r : List CV × List CV} (h : Run G A laws_szStringS.b (params 0 cs) [] (QF true [.V, .V] [.tmp 4] r)) : A 108 cs = some r := A_run T_laws_szStringS h
theorem runE_laws_szStringS {cs : List CV} {X : List CV → List CV → Prop} (h : Run G A laws_szStringS.b (params 0 cs) [] (QE true [.V, .V] [.tmp 4] X)) : ∃ rs os, A 108 cs = some (rs, os) ∧ X rs os := A_runE T_laws_szStringS h
theorem run_laws_szValueS {cs : List CV} {r : List CV × List CV} (h : Run G A laws_szValueS.b (params 0 cs) [] (QF true [.V, .V] [.tmp 4] r)) : A 109 cs = some r := A_run T_laws_szValueS h
theorem runE_laws_szValueS {cs : List CV} {X : List CV → List CV → Prop} (h : Run G A laws_szValueS.b (params 0 cs) [] (QE true [.V, .V] [.tmp 4] X)) : ∃ rs os, A 109 cs = some (rs, os) ∧ X rs os := A_runE T_laws_szValueS h
theorem run_spec_l1In {cs : List CV} {r : List CV × List CV} (h : Run G A spec_l1In.b (params 0 cs) [] (QF true [.V, .V, .V] [.tmp 6] r)) : A 97 cs = some r := A_run T_spec_l1In h
theorem runE_spec_l1In {cs : List CV} {X : List CV → List CV → Prop} (h : Run G A spec_l1In.b (params 0 cs) [] (QE true [.V, .V, .V] [.tmp 6] X)) : ∃ rs os, A 97 cs = some (rs, os) ∧ X rs os := A_runE T_spec_l1In h
theorem run_spec_ValueOk {cs : List CV} {r : List CV × List CV} (h : Run G A spec_ValueOk.b (params 0 cs) [] (QF true [.V, .V] [.tmp 4] r)) : A 110 cs = some r := A_run T_spec_ValueOk h
theorem runE_spec_ValueOk {cs : List CV} {X : List CV → List CV → Prop} (h : Run G A spec_ValueOk.b (params 0 cs) [] (QE true [.V, .V] [.tmp 4] X)) : ∃ rs os, A 110 cs = some (rs, os) ∧ X rs os := A_runE T_spec_ValueOk h
theorem run_spec_l6Points {cs : List CV} {r : List CV × List CV} (h : Run G A spec_l6Points.b (params 0 cs) [] (QF true [.V] [.tmp 2] r)) : A 111 cs = some r := A_run T_spec_l6Points h
theorem runE_spec_l6Points {cs : List CV} {X : List CV → List CV → Prop} (h : Run G A spec_l6Points.b (params 0 cs) [] (QE true [.V] [.tmp 2] X)) : ∃ rs os, A 111 cs = some (rs, os) ∧ X rs os := A_runE T_spec_l6Points h
theorem run_spec_IsName {cs : List CV} {r : List CV × List CV} (h : Run G A spec_IsName.b (params 0 cs) [] (QF true [.V] [.tmp 2] r)) : A 112 cs = some r := A_run T_spec_IsName h
theorem runE_spec_IsName {cs : List CV} {X : List CV → List CV → Prop} (h : Run G A spec_IsName.b (params 0 cs) [] (QE true [.V] [.tmp 2] X)) : ∃ rs os, A 112 cs = some (rs, os) ∧ X rs os := A_runE T_spec_IsName h
theorem run_laws_toStringS {cs : List CV} {r : List CV × List CV} (h : Run G A laws_toStringS.b (params 0 cs) [] (QF true [.V] [.tmp 2] r)) : A 113 cs = some r := A_run T_laws_toStringS h
theorem runE_laws_toStringS {cs : List CV} {X : List CV → List CV → Prop} (h : Run G A laws_toStringS.b (params 0 cs) [] (QE true [.V] [.tmp 2] X)) : ∃ rs os, A 113 cs = some (rs, os) ∧ X rs os := A_runE T_laws_toStringS h
theorem run_laws_toValueS {cs : List CV} {r : List CV × List CV} (h : Run G A laws_toValueS.b (params 0 cs) [] (QF true [.V] [.tmp 2] r)) : A 114 cs = some r := A_run T_laws_toValueS h
theorem runE_laws_toValueS {cs : List CV} {X : List CV → List CV → Prop} (h : Run G A laws_toValueS.b (params 0 cs) [] (QE true [.V] [.tmp 2] X)) : ∃ rs os, A 114 cs = some (rs, os) ∧ X rs os := A_runE T_laws_toValueS h
theorem run_impl_inRange {cs : List CV} {r : List CV × List CV} (h : Run G A impl_inRange.b (params 0 cs) [] (QF true [.V, .V, .V] [.tmp 6] r)) : A 54 cs = some r := A_run T_impl_inRange h
theorem runE_impl_inRange {cs : List CV} {X : List CV → List CV → Prop} (h : Run G A impl_inRange.b (params 0 cs) [] (QE true [.V, .V, .V] [.tmp 6] X)) : ∃ rs os, A 54 cs = some (rs, os) ∧ X rs os := A_runE T_impl_inRange h
theorem run_impl_allNames {cs : List CV} {r : List CV × List CV} (h : Run G A impl_allNames.b (params 0 cs) [] (QF true [.V] [.tmp 2] r)) : A 115 cs = some r := A_run T_impl_allNames h
theorem runE_impl_allNames {cs : List CV} {X : List CV → List CV → Prop} (h : Run G A impl_allNames.b (params 0 cs) [] (QE true [.V] [.tmp 2] X)) : ∃ rs os, A 115 cs = some (rs, os) ∧ X rs os := A_runE T_impl_allNames h
theorem run_impl_ValueOk {cs : List CV} {r : List CV × List CV} (h : Run G A impl_ValueOk.b (params 0 cs) [] (QF true [.V, .V] [.tmp 4] r)) : A 116 cs = some r := A_run T_impl_ValueOk h
theorem runE_impl_ValueOk {cs : List CV} {X : List CV → List CV → Prop} (h : Run G A impl_ValueOk.b (params 0 cs) [] (QE true [.V, .V] [.tmp 4] X)) : ∃ rs os, A 116 cs = some (rs, os) ∧ X rs os := A_runE T_impl_ValueOk h
theorem run_impl_cellKind {cs : List CV} {r : List CV × List CV} (h : Run G A impl_cellKind.b (params 0 cs) [] (QF true [.V] [.tmp 2] r)) : A 117 cs = some r := A_run T_impl_cellKind h
theorem runE_impl_cellKind {cs : List CV} {X : List CV → List CV → Prop} (h : Run G A impl_cellKind.b (params 0 cs) [] (QE true [.V] [.tmp 2] X)) : ∃ rs os, A 117 cs = some (rs, os) ∧ X rs os := A_runE T_impl_cellKind h
theorem run_laws_eqStringS {cs : List CV} {r : List CV × List CV} (h : Run G A laws_eqStringS.b (params 0 cs) [] (QF true [.V, .V] [.tmp 4] r)) : A 118 cs = some r := A_run T_laws_eqStringS h
theorem runE_laws_eqStringS {cs : List CV} {X : List CV → List CV → Prop} (h : Run G A laws_eqStringS.b (params 0 cs) [] (QE true [.V, .V] [.tmp 4] X)) : ∃ rs os, A 118 cs = some (rs, os) ∧ X rs os := A_runE T_laws_eqStringS h
theorem run_laws_eqValueS {cs : List CV} {r : List CV × List CV} (h : Run G A laws_eqValueS.b (params 0 cs) [] (QF true [.V, .V] [.tmp 4] r)) : A 119 cs = some r := A_run T_laws_eqValueS h
theorem runE_laws_eqValueS {cs : List CV} {X : List CV → List CV → Prop} (h : Run G A laws_eqValueS.b (params 0 cs) [] (QE true [.V, .V] [.tmp 4] X)) : ∃ rs os, A 119 cs = some (rs, os) ∧ X rs os := A_runE T_laws_eqValueS h
theorem run_laws_szValue {cs : List CV} {r : List CV × List CV} (h : Run G A laws_szValue.b (params 0 cs) [] (QF true [.V, .V] [.tmp 4] r)) : A 143 cs = some r := A_run T_laws_szValue h
theorem runE_laws_szValue {cs : List CV} {X : List CV → List CV → Prop} (h : Run G A laws_szValue.b (params 0 cs) [] (QE true [.V, .V] [.tmp 4] X)) : ∃ rs os, A 143 cs = some (rs, os) ∧ X rs os := A_runE T_laws_szValue h
theorem run_spec_l2Sym {cs : List CV} {r : List CV × List CV} (h : Run G A spec_l2Sym.b (params 0 cs) [] (QF true [.V] [.tmp 2] r)) : A 137 cs = some r := A_run T_spec_l2Sym h
theorem runE_spec_l2Sym {cs : List CV} {X : List CV → List CV → Prop} (h : Run G A spec_l2Sym.b (params 0 cs) [] (QE true [.V] [.tmp 2] X)) : ∃ rs os, A 137 cs = some (rs, os) ∧ X rs os := A_runE T_spec_l2Sym h
theorem run_spec_l6Cell {cs : List CV} {r : List CV × List CV} (h : Run G A spec_l6Cell.b (params 0 cs) [] (QF true [.V, .V, .V] [.tmp 6] r)) : A 144 cs = some r := A_run T_spec_l6Cell h
theorem runE_spec_l6Cell {cs : List CV} {X : List CV → List CV → Prop} (h : Run G A spec_l6Cell.b (params 0 cs) [] (QE true [.V, .V, .V] [.tmp 6] X)) : ∃ rs os, A 144 cs = some (rs, os) ∧ X rs os := A_runE T_spec_l6Cell h
theorem run_spec_l3Word {cs : List CV} {r : List CV × List CV} (h : Run G A spec_l3Word.b (params 0 cs) [] (QF true [.V] [.tmp 2] r)) : A 145 cs = some r := A_run T_spec_l3Word h
theorem runE_spec_l3Word {cs : List CV} {X : List CV → List CV → Prop} (h : Run G A spec_l3Word.b (params 0 cs) [] (QE true [.V] [.tmp 2] X)) : ∃ rs os, A 145 cs = some (rs, os) ∧ X rs os := A_runE T_spec_l3Word h
theorem run_spec_Arity {cs : List CV} {r : List CV × List CV} (h : Run G A spec_Arity.b (params 0 cs) [] (QF true [.V] [.tmp 2] r)) : A 146 cs = some r := A_run T_spec_Arity h
theorem runE_spec_Arity {cs : List CV} {X : List CV → List CV → Prop} (h : Run G A spec_Arity.b (params 0 cs) [] (QE true [.V] [.tmp 2] X)) : ∃ rs os, A 146 cs = some (rs, os) ∧ X rs os := A_runE T_spec_Arity h
theorem run_laws_toValue {cs : List CV} {r : List CV × List CV} (h : Run G A laws_toValue.b (params 0 cs) [] (QF true [.V] [.cell 2 3 true] r)) : A 147 cs = some r := A_run T_laws_toValue h
theorem runE_laws_toValue {cs : List CV} {X : List CV → List CV → Prop} (h : Run G A laws_toValue.b (params 0 cs) [] (QE true [.V] [.cell 2 3 true] X)) : ∃ rs os, A 147 cs = some (rs, os) ∧ X rs os := A_runE T_laws_toValue h
theorem run_impl_IsName {cs : List CV} {r : List CV × List CV} (h : Run G A impl_IsName.b (params 0 cs) [] (QF true [.V] [.tmp 2] r)) : A 148 cs = some r := A_run T_impl_IsName h
theorem runE_impl_IsName {cs : List CV} {X : List CV → List CV → Prop} (h : Run G A impl_IsName.b (params 0 cs) [] (QE true [.V] [.tmp 2] X)) : ∃ rs os, A 148 cs = some (rs, os) ∧ X rs os := A_runE T_impl_IsName h
theorem run_impl_symOk {cs : List CV} {r : List CV × List CV} (h : Run G A impl_symOk.b (params 0 cs) [] (QF true [.V] [.tmp 2] r)) : A 149 cs = some r := A_run T_impl_symOk h
theorem runE_impl_symOk {cs : List CV} {X : List CV → List CV → Prop} (h : Run G A impl_symOk.b (params 0 cs) [] (QE true [.V] [.tmp 2] X)) : ∃ rs os, A 149 cs = some (rs, os) ∧ X rs os := A_runE T_impl_symOk h
theorem run_laws_eqValue {cs : List CV} {r : List CV × List CV} (h : Run G A laws_eqValue.b (params 0 cs) [] (QF true [.V, .V] [.tmp 4] r)) : A 150 cs = some r := A_run T_laws_eqValue h
theorem runE_laws_eqValue {cs : List CV} {X : List CV → List CV → Prop} (h : Run G A laws_eqValue.b (params 0 cs) [] (QE true [.V, .V] [.tmp 4] X)) : ∃ rs os, A 150 cs = some (rs, os) ∧ X rs os := A_runE T_laws_eqValue h
theorem run_spec_l2Sign {cs : List CV} {r : List CV × List CV} (h : Run G A spec_l2Sign.b (params 0 cs) [] (QF true [.V] [.tmp 2] r)) : A 135 cs = some r := A_run T_spec_l2Sign h
theorem runE_spec_l2Sign {cs : List CV} {X : List CV → List CV → Prop} (h : Run G A spec_l2Sign.b (params 0 cs) [] (QE true [.V] [.tmp 2] X)) : ∃ rs os, A 135 cs = some (rs, os) ∧ X rs os := A_runE T_spec_l2Sign h
theorem run_spec_ReadDec {cs : List CV} {r : List CV × List CV} (h : Run G A spec_ReadDec.b (params 0 cs) [] (QF true [.V] [.tmp 2, .tmp 3] r)) : A 136 cs = some r := A_run T_spec_ReadDec h
theorem runE_spec_ReadDec {cs : List CV} {X : List CV → List CV → Prop} (h : Run G A spec_ReadDec.b (params 0 cs) [] (QE true [.V] [.tmp 2, .tmp 3] X)) : ∃ rs os, A 136 cs = some (rs, os) ∧ X rs os := A_runE T_spec_ReadDec h
theorem run_spec_l2Digit {cs : List CV} {r : List CV × List CV} (h : Run G A spec_l2Digit.b (params 0 cs) [] (QF true [.V] [.tmp 2] r)) : A 162 cs = some r := A_run T_spec_l2Digit h
theorem runE_spec_l2Digit {cs : List CV} {X : List CV → List CV → Prop} (h : Run G A spec_l2Digit.b (params 0 cs) [] (QE true [.V] [.tmp 2] X)) : ∃ rs os, A 162 cs = some (rs, os) ∧ X rs os := A_runE T_spec_l2Digit h
theorem run_spec_l3In {cs : List CV} {r : List CV × List CV} (h : Run G A spec_l3In.b (params 0 cs) [] (QF true [.V, .V] [.tmp 4] r)) : A 165 cs = some r := A_run T_spec_l3In h
theorem runE_spec_l3In {cs : List CV} {X : List CV → List CV → Prop} (h : Run G A spec_l3In.b (params 0 cs) [] (QE true [.V, .V] [.tmp 4] X)) : ∃ rs os, A 165 cs = some (rs, os) ∧ X rs os := A_runE T_spec_l3In h
theorem run_impl_isOneOf {cs : List CV} {r : List CV × List CV} (h : Run G A impl_isOneOf.b (params 0 cs) [] (QF true [.V, .V] [.tmp 4] r)) : A 166 cs = some r := A_run T_impl_isOneOf h
theorem runE_impl_isOneOf {cs : List CV} {X : List CV → List CV → Prop} (h : Run G A impl_isOneOf.b (params 0 cs) [] (QE true [.V, .V] [.tmp 4] X)) : ∃ rs os, A 166 cs = some (rs, os) ∧ X rs os := A_runE T_impl_isOneOf h
theorem run_impl_Arity {cs : List CV} {r : List CV × List CV} (h : Run G A impl_Arity.b (params 0 cs) [] (QF true [.V] [.tmp 2] r)) : A 167 cs = some r := A_run T_impl_Arity h
theorem runE_impl_Arity {cs : List CV} {X : List CV → List CV → Prop} (h : Run G A impl_Arity.b (params 0 cs) [] (QE true [.V] [.tmp 2] X)) : ∃ rs os, A 167 cs = some (rs, os) ∧ X rs os := A_runE T_impl_Arity h
theorem run_impl_isSymByte {cs : List CV} {r : List CV × List CV} (h : Run G A impl_isSymByte.b (params 0 cs) [] (QF true [.V] [.tmp 2] r)) : A 163 cs = some r := A_run T_impl_isSymByte h
theorem runE_impl_isSymByte {cs : List CV} {X : List CV → List CV → Prop} (h : Run G A impl_isSymByte.b (params 0 cs) [] (QE true [.V] [.tmp 2] X)) : ∃ rs os, A 163 cs = some (rs, os) ∧ X rs os := A_runE T_impl_isSymByte h
theorem run_spec_l2In {cs : List CV} {r : List CV × List CV} (h : Run G A spec_l2In.b (params 0 cs) [] (QF true [.V, .V] [.tmp 4] r)) : A 134 cs = some r := A_run T_spec_l2In h
theorem runE_spec_l2In {cs : List CV} {X : List CV → List CV → Prop} (h : Run G A spec_l2In.b (params 0 cs) [] (QE true [.V, .V] [.tmp 4] X)) : ∃ rs os, A 134 cs = some (rs, os) ∧ X rs os := A_runE T_spec_l2In h
theorem run_spec_Dec {cs : List CV} {r : List CV × List CV} (h : Run G A spec_Dec.b (params 0 cs) [] (QF true [.V] [.tmp 2] r)) : A 83 cs = some r := A_run T_spec_Dec h
theorem runE_spec_Dec {cs : List CV} {X : List CV → List CV → Prop} (h : Run G A spec_Dec.b (params 0 cs) [] (QE true [.V] [.tmp 2] X)) : ∃ rs os, A 83 cs = some (rs, os) ∧ X rs os := A_runE T_spec_Dec h
theorem T_impl_ReadDec : T 20 = none := by kernel_rfl
@[simp] theorem G_20 : G 20 = some ⟨[.V], true⟩ := by kernel_rfl
theorem P_impl_ReadDec {cs : List CV} {r : List CV × List CV} (h : prim_impl_ReadDec.run cs = some r) : A 20 cs = some r := A_prim T_impl_ReadDec (by rw [← h]; rfl)
theorem T_strings_Contains : T 178 = none := by kernel_rfl
@[simp] theorem G_178 : G 178 = some ⟨[.V, .V], true⟩ := by kernel_rfl
theorem P_strings_Contains {cs : List CV} {r : List CV × List CV} (h : prim_strings_Contains.run cs = some r) : A 178 cs = some r := A_prim T_strings_Contains (by rw [← h]; rfl)
theorem T_strings_IndexByte : T 58 = none := by kernel_rfl
@[simp] theorem G_58 : G 58 = some ⟨[.V, .V], true⟩ := by kernel_rfl
theorem P_strings_IndexByte {cs : List CV} {r : List CV × List CV} (h : prim_strings_IndexByte.run cs = some r) : A 58 cs = some r := A_prim T_strings_IndexByte (by rw [← h]; rfl)
end Go.Proofs.YtdoelepflcaijaaDoor.HP
