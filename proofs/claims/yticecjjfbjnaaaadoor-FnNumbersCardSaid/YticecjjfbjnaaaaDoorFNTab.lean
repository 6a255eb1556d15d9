/- The table of the functions. -/
import Derived.Test.YticecjjfbjnaaaaDoorFNFn0
import Derived.Test.YticecjjfbjnaaaaDoorEngM7
import Derived.Test.YticecjjfbjnaaaaDoorEngPHex
import Derived.Test.YticecjjfbjnaaaaDoorEngPIndexByte
import Derived.Test.YticecjjfbjnaaaaDoorEngPItoa
import Derived.Test.YticecjjfbjnaaaaDoorEngPReadDec
namespace Go.Proofs.YticecjjfbjnaaaaDoor.FN
open Go Go.VS
set_option maxRecDepth 100000
set_option linter.unusedVariables false
set_option linter.unusedSimpArgs false
noncomputable def tab : List (Entry Tryd.prog) := [⟨3, laws_FnNumbers, Tryd.f3, Tryd.func3, laws_FnNumbers.turned⟩,
  ⟨4, laws_big, Tryd.f4, Tryd.func4, laws_big.turned⟩,
  ⟨5, spec_DrawVar, Tryd.f5, Tryd.func5, spec_DrawVar.turned⟩,
  ⟨6, spec_DrawHex, Tryd.f6, Tryd.func6, spec_DrawHex.turned⟩,
  ⟨7, impl_Var, Tryd.f7, Tryd.func7, impl_Var.turned⟩,
  ⟨8, impl_ReadVar, Tryd.f8, Tryd.func8, impl_ReadVar.turned⟩,
  ⟨9, impl_Fixed, Tryd.f9, Tryd.func9, impl_Fixed.turned⟩,
  ⟨10, impl_ReadFixed, Tryd.f10, Tryd.func10, impl_ReadFixed.turned⟩,
  ⟨12, impl_Dec, Tryd.f12, Tryd.func12, impl_Dec.turned⟩,
  ⟨13, impl_Unhex, Tryd.f13, Tryd.func13, impl_Unhex.turned⟩,
  ⟨15, spec_DrawReadVar, Tryd.f15, Tryd.func15, spec_DrawReadVar.turned⟩,
  ⟨16, spec_l1New, Tryd.f16, Tryd.func16, spec_l1New.turned⟩,
  ⟨17, spec_l1Num, Tryd.f17, Tryd.func17, spec_l1Num.turned⟩,
  ⟨18, spec_l1Text, Tryd.f18, Tryd.func18, spec_l1Text.turned⟩,
  ⟨19, impl_inRange, Tryd.f19, Tryd.func19, impl_inRange.turned⟩,
  ⟨26, spec_Var, Tryd.f26, Tryd.func26, spec_Var.turned⟩,
  ⟨27, spec_l1Once, Tryd.f27, Tryd.func27, spec_l1Once.turned⟩,
  ⟨28, spec_l1Spoil, Tryd.f28, Tryd.func28, spec_l1Spoil.turned⟩,
  ⟨29, spec_l1Below, Tryd.f29, Tryd.func29, spec_l1Below.turned⟩,
  ⟨30, spec_l1PickInt, Tryd.f30, Tryd.func30, spec_l1PickInt.turned⟩,
  ⟨31, spec_l1Byte, Tryd.f31, Tryd.func31, spec_l1Byte.turned⟩,
  ⟨38, spec_l1In, Tryd.f38, Tryd.func38, spec_l1In.turned⟩]
noncomputable def ptab : List (PEntry Tryd.prog LaidX) := [prim_impl_ReadDec, prim_impl_Hex, prim_strconv_Itoa, prim_strings_IndexByte]
noncomputable def T : FuncId → Option VFn := tabT tab
noncomputable def G : Sigs := tabG tab ptab
noncomputable def A : Fns := lim G T (tabP ptab)
theorem A_run {f : FuncId} {vf : VFn} {cs : List CV} {r : List CV × List CV} (hT : T f = some vf) (h : Run G A vf.body (params 0 cs) [] (QF vf.sig.own vf.sig.modes vf.res r)) : A f cs = some r := lim_run hT h
theorem A_runE {f : FuncId} {vf : VFn} {cs : List CV} {X : List CV → List CV → Prop} (hT : T f = some vf) (h : Run G A vf.body (params 0 cs) [] (QE vf.sig.own vf.sig.modes vf.res X)) : ∃ rs os, A f cs = some (rs, os) ∧ X rs os := lim_runE hT h
theorem A_prim {f : FuncId} {cs : List CV} {r : List CV × List CV} (hT : T f = none) (h : tabP ptab f cs = some r) : A f cs = some r := lim_prim hT h
theorem A_answers {W : World} (hX : LaidX W) {f : FuncId} {g : Sig} {cs res outs : List CV} (hg : G f = some g) (h : A f cs = some (res, outs)) : Answers Tryd.prog W f cs res outs := lim_answers (tabT_ok tab ptab) (tabP_ok hX tab ptab) hg h
theorem ip {α : Sort _} {c : Prop} [Decidable c] {a b : α} : (c → (if c then a else b) = a) ∧ (¬ c → (if c then a else b) = b) := ⟨fun h => if_pos h, fun h => if_neg h⟩
theorem wr {n : Int} : (-9223372036854775808 ≤ n → n ≤ 9223372036854775807 → IntKind.i64.wrap n = n) ∧ (0 ≤ n → n ≤ 255 → IntKind.u8.wrap n = n) := ⟨wrap_i64, wrap_u8⟩
variable {cs : List CV} {r : List CV × List CV}
theorem T_laws_FnNumbers : T 3 = some laws_FnNumbers := by kernel_rfl
@[simp] theorem G_3 : G 3 = some ⟨[.V], true⟩ := by kernel_rfl
theorem T_laws_big : T 4 = some laws_big := by kernel_rfl
@[simp] theorem G_4 : G 4 = some ⟨[.V], true⟩ := by kernel_rfl
theorem T_spec_DrawVar : T 5 = some spec_DrawVar := by kernel_rfl
@[simp] theorem G_5 : G 5 = some ⟨[.V], true⟩ := by kernel_rfl
theorem T_spec_DrawHex : T 6 = some spec_DrawHex := by kernel_rfl
@[simp] theorem G_6 : G 6 = some ⟨[.V], true⟩ := by kernel_rfl
theorem T_impl_Var : T 7 = some impl_Var := by kernel_rfl
@[simp] theorem G_7 : G 7 = some ⟨[.V], true⟩ := by kernel_rfl
theorem T_impl_ReadVar : T 8 = some impl_ReadVar := by kernel_rfl
@[simp] theorem G_8 : G 8 = some ⟨[.V], true⟩ := by kernel_rfl
theorem T_impl_Fixed : T 9 = some impl_Fixed := by kernel_rfl
@[simp] theorem G_9 : G 9 = some ⟨[.V, .V], true⟩ := by kernel_rfl
theorem T_impl_ReadFixed : T 10 = some impl_ReadFixed := by kernel_rfl
@[simp] theorem G_10 : G 10 = some ⟨[.V, .V], true⟩ := by kernel_rfl
theorem T_impl_Dec : T 12 = some impl_Dec := by kernel_rfl
@[simp] theorem G_12 : G 12 = some ⟨[.V], true⟩ := by kernel_rfl
theorem T_impl_Unhex : T 13 = some impl_Unhex := by kernel_rfl
@[simp] theorem G_13 : G 13 = some ⟨[.V], true⟩ := by kernel_rfl
theorem T_spec_DrawReadVar : T 15 = some spec_DrawReadVar := by kernel_rfl
@[simp] theorem G_15 : G 15 = some ⟨[.V], true⟩ := by kernel_rfl
theorem T_spec_l1New : T 16 = some spec_l1New := by kernel_rfl
@[simp] theorem G_16 : G 16 = some ⟨[.V], false⟩ := by kernel_rfl
theorem T_spec_l1Num : T 17 = some spec_l1Num := by kernel_rfl
@[simp] theorem G_17 : G 17 = some ⟨[.M], false⟩ := by kernel_rfl
theorem T_spec_l1Text : T 18 = some spec_l1Text := by kernel_rfl
@[simp] theorem G_18 : G 18 = some ⟨[.M, .V], false⟩ := by kernel_rfl
theorem T_impl_inRange : T 19 = some impl_inRange := by kernel_rfl
@[simp] theorem G_19 : G 19 = some ⟨[.V, .V, .V], true⟩ := by kernel_rfl
theorem T_spec_Var : T 26 = some spec_Var := by kernel_rfl
@[simp] theorem G_26 : G 26 = some ⟨[.V], true⟩ := by kernel_rfl
theorem T_spec_l1Once : T 27 = some spec_l1Once := by kernel_rfl
@[simp] theorem G_27 : G 27 = some ⟨[.M, .V], false⟩ := by kernel_rfl
theorem T_spec_l1Spoil : T 28 = some spec_l1Spoil := by kernel_rfl
@[simp] theorem G_28 : G 28 = some ⟨[.M, .V], false⟩ := by kernel_rfl
theorem T_spec_l1Below : T 29 = some spec_l1Below := by kernel_rfl
@[simp] theorem G_29 : G 29 = some ⟨[.M, .V], false⟩ := by kernel_rfl
theorem T_spec_l1PickInt : T 30 = some spec_l1PickInt := by kernel_rfl
@[simp] theorem G_30 : G 30 = some ⟨[.M, .V], false⟩ := by kernel_rfl
theorem T_spec_l1Byte : T 31 = some spec_l1Byte := by kernel_rfl
@[simp] theorem G_31 : G 31 = some ⟨[.M], false⟩ := by kernel_rfl
theorem T_spec_l1In : T 38 = some spec_l1In := by kernel_rfl
@[simp] theorem G_38 : G 38 = some ⟨[.V, .V, .V], true⟩ := by kernel_rfl
theorem run_laws_FnNumbers (h : Run G A laws_FnNumbers.b (params 0 cs) [] (QF true [.V] [.tmp 2] r)) : A 3 cs = some r := A_run T_laws_FnNumbers h
theorem run_laws_big (h : Run G A laws_big.b (params 0 cs) [] (QF true [.V] [.tmp 2] r)) : A 4 cs = some r := A_run T_laws_big h
theorem run_spec_DrawVar (h : Run G A spec_DrawVar.b (params 0 cs) [] (QF true [.V] [.tmp 2] r)) : A 5 cs = some r := A_run T_spec_DrawVar h
theorem runE_spec_DrawVar {cs : List CV} {X : List CV → List CV → Prop} (h : Run G A spec_DrawVar.b (params 0 cs) [] (QE true [.V] [.tmp 2] X)) : ∃ rs os, A 5 cs = some (rs, os) ∧ X rs os := A_runE T_spec_DrawVar h
theorem run_spec_DrawHex (h : Run G A spec_DrawHex.b (params 0 cs) [] (QF true [.V] [.tmp 2] r)) : A 6 cs = some r := A_run T_spec_DrawHex h
theorem runE_spec_DrawHex {cs : List CV} {X : List CV → List CV → Prop} (h : Run G A spec_DrawHex.b (params 0 cs) [] (QE true [.V] [.tmp 2] X)) : ∃ rs os, A 6 cs = some (rs, os) ∧ X rs os := A_runE T_spec_DrawHex h
theorem run_impl_Var (h : Run G A impl_Var.b (params 0 cs) [] (QF true [.V] [.tmp 2] r)) : A 7 cs = some r := A_run T_impl_Var h
theorem run_impl_ReadVar (h : Run G A impl_ReadVar.b (params 0 cs) [] (QF true [.V] [.tmp 2, .tmp 3] r)) : A 8 cs = some r := A_run T_impl_ReadVar h
theorem runE_impl_ReadVar {cs : List CV} {X : List CV → List CV → Prop} (h : Run G A impl_ReadVar.b (params 0 cs) [] (QE true [.V] [.tmp 2, .tmp 3] X)) : ∃ rs os, A 8 cs = some (rs, os) ∧ X rs os := A_runE T_impl_ReadVar h
theorem run_impl_Fixed (h : Run G A impl_Fixed.b (params 0 cs) [] (QF true [.V, .V] [.tmp 4] r)) : A 9 cs = some r := A_run T_impl_Fixed h
theorem run_impl_ReadFixed (h : Run G A impl_ReadFixed.b (params 0 cs) [] (QF true [.V, .V] [.tmp 4, .tmp 5] r)) : A 10 cs = some r := A_run T_impl_ReadFixed h
theorem runE_impl_ReadFixed {cs : List CV} {X : List CV → List CV → Prop} (h : Run G A impl_ReadFixed.b (params 0 cs) [] (QE true [.V, .V] [.tmp 4, .tmp 5] X)) : ∃ rs os, A 10 cs = some (rs, os) ∧ X rs os := A_runE T_impl_ReadFixed h
theorem run_impl_Dec (h : Run G A impl_Dec.b (params 0 cs) [] (QF true [.V] [.tmp 2] r)) : A 12 cs = some r := A_run T_impl_Dec h
theorem run_impl_Unhex (h : Run G A impl_Unhex.b (params 0 cs) [] (QF true [.V] [.tmp 2, .tmp 3] r)) : A 13 cs = some r := A_run T_impl_Unhex h
theorem run_spec_DrawReadVar (h : Run G A spec_DrawReadVar.b (params 0 cs) [] (QF true [.V] [.tmp 2] r)) : A 15 cs = some r := A_run T_spec_DrawReadVar h
theorem runE_spec_DrawReadVar {cs : List CV} {X : List CV → List CV → Prop} (h : Run G A spec_DrawReadVar.b (params 0 cs) [] (QE true [.V] [.tmp 2] X)) : ∃ rs os, A 15 cs = some (rs, os) ∧ X rs os := A_runE T_spec_DrawReadVar h
theorem run_spec_l1New (h : Run G A spec_l1New.b (params 0 cs) [] (QF false [.V] [.tmp 2] r)) : A 16 cs = some r := A_run T_spec_l1New h
theorem runE_spec_l1New {cs : List CV} {X : List CV → List CV → Prop} (h : Run G A spec_l1New.b (params 0 cs) [] (QE false [.V] [.tmp 2] X)) : ∃ rs os, A 16 cs = some (rs, os) ∧ X rs os := A_runE T_spec_l1New h
theorem run_spec_l1Num (h : Run G A spec_l1Num.b (params 0 cs) [] (QF false [.M] [.tmp 2] r)) : A 17 cs = some r := A_run T_spec_l1Num h
theorem runE_spec_l1Num {cs : List CV} {X : List CV → List CV → Prop} (h : Run G A spec_l1Num.b (params 0 cs) [] (QE false [.M] [.tmp 2] X)) : ∃ rs os, A 17 cs = some (rs, os) ∧ X rs os := A_runE T_spec_l1Num h
theorem run_spec_l1Text (h : Run G A spec_l1Text.b (params 0 cs) [] (QF false [.M, .V] [.tmp 4] r)) : A 18 cs = some r := A_run T_spec_l1Text h
theorem runE_spec_l1Text {cs : List CV} {X : List CV → List CV → Prop} (h : Run G A spec_l1Text.b (params 0 cs) [] (QE false [.M, .V] [.tmp 4] X)) : ∃ rs os, A 18 cs = some (rs, os) ∧ X rs os := A_runE T_spec_l1Text h
theorem run_impl_inRange (h : Run G A impl_inRange.b (params 0 cs) [] (QF true [.V, .V, .V] [.tmp 6] r)) : A 19 cs = some r := A_run T_impl_inRange h
theorem run_spec_Var (h : Run G A spec_Var.b (params 0 cs) [] (QF true [.V] [.tmp 2] r)) : A 26 cs = some r := A_run T_spec_Var h
theorem runE_spec_Var {cs : List CV} {X : List CV → List CV → Prop} (h : Run G A spec_Var.b (params 0 cs) [] (QE true [.V] [.tmp 2] X)) : ∃ rs os, A 26 cs = some (rs, os) ∧ X rs os := A_runE T_spec_Var h
theorem run_spec_l1Once (h : Run G A spec_l1Once.b (params 0 cs) [] (QF false [.M, .V] [.tmp 4] r)) : A 27 cs = some r := A_run T_spec_l1Once h
theorem runE_spec_l1Once {cs : List CV} {X : List CV → List CV → Prop} (h : Run G A spec_l1Once.b (params 0 cs) [] (QE false [.M, .V] [.tmp 4] X)) : ∃ rs os, A 27 cs = some (rs, os) ∧ X rs os := A_runE T_spec_l1Once h
theorem run_spec_l1Spoil (h : Run G A spec_l1Spoil.b (params 0 cs) [] (QF false [.M, .V] [.tmp 4] r)) : A 28 cs = some r := A_run T_spec_l1Spoil h
theorem runE_spec_l1Spoil {cs : List CV} {X : List CV → List CV → Prop} (h : Run G A spec_l1Spoil.b (params 0 cs) [] (QE false [.M, .V] [.tmp 4] X)) : ∃ rs os, A 28 cs = some (rs, os) ∧ X rs os := A_runE T_spec_l1Spoil h
theorem run_spec_l1Below (h : Run G A spec_l1Below.b (params 0 cs) [] (QF false [.M, .V] [.tmp 4] r)) : A 29 cs = some r := A_run T_spec_l1Below h
theorem runE_spec_l1Below {cs : List CV} {X : List CV → List CV → Prop} (h : Run G A spec_l1Below.b (params 0 cs) [] (QE false [.M, .V] [.tmp 4] X)) : ∃ rs os, A 29 cs = some (rs, os) ∧ X rs os := A_runE T_spec_l1Below h
theorem run_spec_l1PickInt (h : Run G A spec_l1PickInt.b (params 0 cs) [] (QF false [.M, .V] [.tmp 4] r)) : A 30 cs = some r := A_run T_spec_l1PickInt h
theorem runE_spec_l1PickInt {cs : List CV} {X : List CV → List CV → Prop} (h : Run G A spec_l1PickInt.b (params 0 cs) [] (QE false [.M, .V] [.tmp 4] X)) : ∃ rs os, A 30 cs = some (rs, os) ∧ X rs os := A_runE T_spec_l1PickInt h
theorem run_spec_l1Byte (h : Run G A spec_l1Byte.b (params 0 cs) [] (QF false [.M] [.tmp 2] r)) : A 31 cs = some r := A_run T_spec_l1Byte h
theorem runE_spec_l1Byte {cs : List CV} {X : List CV → List CV → Prop} (h : Run G A spec_l1Byte.b (params 0 cs) [] (QE false [.M] [.tmp 2] X)) : ∃ rs os, A 31 cs = some (rs, os) ∧ X rs os := A_runE T_spec_l1Byte h
theorem run_spec_l1In (h : Run G A spec_l1In.b (params 0 cs) [] (QF true [.V, .V, .V] [.tmp 6] r)) : A 38 cs = some r := A_run T_spec_l1In h
theorem T_impl_ReadDec : T 11 = none := by kernel_rfl
@[simp] theorem G_11 : G 11 = some ⟨[.V], true⟩ := by kernel_rfl
theorem P_impl_ReadDec (h : prim_impl_ReadDec.run cs = some r) : A 11 cs = some r := A_prim T_impl_ReadDec (by rw [← h]; rfl)
theorem T_impl_Hex : T 14 = none := by kernel_rfl
@[simp] theorem G_14 : G 14 = some ⟨[.V], true⟩ := by kernel_rfl
theorem P_impl_Hex (h : prim_impl_Hex.run cs = some r) : A 14 cs = some r := A_prim T_impl_Hex (by rw [← h]; rfl)
theorem T_strconv_Itoa : T 22 = none := by kernel_rfl
@[simp] theorem G_22 : G 22 = some ⟨[.V], true⟩ := by kernel_rfl
theorem P_strconv_Itoa (h : prim_strconv_Itoa.run cs = some r) : A 22 cs = some r := A_prim T_strconv_Itoa (by rw [← h]; rfl)
theorem T_strings_IndexByte : T 23 = none := by kernel_rfl
@[simp] theorem G_23 : G 23 = some ⟨[.V, .V], true⟩ := by kernel_rfl
theorem P_strings_IndexByte (h : prim_strings_IndexByte.run cs = some r) : A 23 cs = some r := A_prim T_strings_IndexByte (by rw [← h]; rfl)
end Go.Proofs.YticecjjfbjnaaaaDoor.FN
