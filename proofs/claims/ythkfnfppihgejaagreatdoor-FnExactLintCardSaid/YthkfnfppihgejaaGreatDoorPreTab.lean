/- The table of the functions. -/
import Derived.Test.YthkfnfppihgejaaGreatDoorPreFn0
import Derived.Test.YthkfnfppihgejaaGreatDoorEngM7
import Derived.Test.YthkfnfppihgejaaGreatDoorEngPItoa
namespace Go.Proofs.YthkfnfppihgejaaGreatDoor.Pre
open Go Go.VS
set_option maxRecDepth 100000
set_option linter.unusedVariables false
set_option linter.unusedSimpArgs false
noncomputable def tab : List (Entry Tryz.prog) := [⟨108, strings_TrimPrefix, Tryz.f108, Tryz.func108, strings_TrimPrefix.turned⟩,
  ⟨82, impl_inRange, Tryz.f82, Tryz.func82, impl_inRange.turned⟩,
  ⟨110, impl_Dec, Tryz.f110, Tryz.func110, impl_Dec.turned⟩,
  ⟨118, i_stringslite_TrimPrefix, Tryz.f118, Tryz.func118, i_stringslite_TrimPrefix.turned⟩,
  ⟨125, i_stringslite_HasPrefix, Tryz.f125, Tryz.func125, i_stringslite_HasPrefix.turned⟩]
noncomputable def ptab : List (PEntry Tryz.prog LaidX) := [prim_strconv_Itoa]
noncomputable def T : FuncId → Option VFn := tabT tab
noncomputable def G : Sigs := tabG tab ptab
noncomputable def A : Fns := lim G T (tabP ptab)
theorem A_run {f : FuncId} {vf : VFn} {cs : List CV} {r : List CV × List CV} (hT : T f = some vf) (h : Run G A vf.body (params 0 cs) [] (QF vf.sig.own vf.sig.modes vf.res r)) : A f cs = some r := lim_run hT h
theorem A_runE {f : FuncId} {vf : VFn} {cs : List CV} {X : List CV → List CV → Prop} (hT : T f = some vf) (h : Run G A vf.body (params 0 cs) [] (QE vf.sig.own vf.sig.modes vf.res X)) : ∃ rs os, A f cs = some (rs, os) ∧ X rs os := lim_runE hT h
theorem A_prim {f : FuncId} {cs : List CV} {r : List CV × List CV} (hT : T f = none) (h : tabP ptab f cs = some r) : A f cs = some r := lim_prim hT h
theorem A_answers {W : World} (hX : LaidX W) {f : FuncId} {g : Sig} {cs res outs : List CV} (hg : G f = some g) (h : A f cs = some (res, outs)) : Answers Tryz.prog W f cs res outs := lim_answers (tabT_ok tab ptab) (tabP_ok hX tab ptab) hg h
theorem ip {α : Sort _} {c : Prop} [Decidable c] {a b : α} : (c → (if c then a else b) = a) ∧ (¬ c → (if c then a else b) = b) := ⟨fun h => if_pos h, fun h => if_neg h⟩
theorem wr {n : Int} : (-9223372036854775808 ≤ n → n ≤ 9223372036854775807 → IntKind.i64.wrap n = n) ∧ (0 ≤ n → n ≤ 255 → IntKind.u8.wrap n = n) := ⟨wrap_i64, wrap_u8⟩
variable {cs : List CV} {r : List CV × List CV}
theorem T_strings_TrimPrefix : T 108 = some strings_TrimPrefix := by kernel_rfl
@[simp] theorem G_108 : G 108 = some ⟨[.V, .V], true⟩ := by kernel_rfl
theorem T_impl_inRange : T 82 = some impl_inRange := by kernel_rfl
@[simp] theorem G_82 : G 82 = some ⟨[.V, .V, .V], true⟩ := by kernel_rfl
theorem T_impl_Dec : T 110 = some impl_Dec := by kernel_rfl
@[simp] theorem G_110 : G 110 = some ⟨[.V], true⟩ := by kernel_rfl
theorem T_i_stringslite_TrimPrefix : T 118 = some i_stringslite_TrimPrefix := by kernel_rfl
@[simp] theorem G_118 : G 118 = some ⟨[.V, .V], true⟩ := by kernel_rfl
theorem T_i_stringslite_HasPrefix : T 125 = some i_stringslite_HasPrefix := by kernel_rfl
@[simp] theorem G_125 : G 125 = some ⟨[.V, .V], true⟩ := by kernel_rfl
theorem run_strings_TrimPrefix (h : Run G A strings_TrimPrefix.b (params 0 cs) [] (QF true [.V, .V] [.tmp 4] r)) : A 108 cs = some r := A_run T_strings_TrimPrefix h
theorem run_impl_inRange (h : Run G A impl_inRange.b (params 0 cs) [] (QF true [.V, .V, .V] [.tmp 6] r)) : A 82 cs = some r := A_run T_impl_inRange h
theorem run_impl_Dec (h : Run G A impl_Dec.b (params 0 cs) [] (QF true [.V] [.tmp 2] r)) : A 110 cs = some r := A_run T_impl_Dec h
theorem run_i_stringslite_TrimPrefix (h : Run G A i_stringslite_TrimPrefix.b (params 0 cs) [] (QF true [.V, .V] [.tmp 4] r)) : A 118 cs = some r := A_run T_i_stringslite_TrimPrefix h
theorem run_i_stringslite_HasPrefix (h : Run G A i_stringslite_HasPrefix.b (params 0 cs) [] (QF true [.V, .V] [.tmp 4] r)) : A 125 cs = some r := A_run T_i_stringslite_HasPrefix h
theorem T_strconv_Itoa : T 121 = none := by kernel_rfl
@[simp] theorem G_121 : G 121 = some ⟨[.V], true⟩ := by kernel_rfl
theorem P_strconv_Itoa (h : prim_strconv_Itoa.run cs = some r) : A 121 cs = some r := A_prim T_strconv_Itoa (by rw [← h]; rfl)
end Go.Proofs.YthkfnfppihgejaaGreatDoor.Pre
