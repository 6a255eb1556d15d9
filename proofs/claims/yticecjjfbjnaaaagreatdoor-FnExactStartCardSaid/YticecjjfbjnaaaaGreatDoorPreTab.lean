/- The table of the functions. -/
import Derived.Test.YticecjjfbjnaaaaGreatDoorPreFn0
import Derived.Test.YticecjjfbjnaaaaGreatDoorEngM7
import Derived.Test.YticecjjfbjnaaaaGreatDoorEngPItoa
namespace Go.Proofs.YticecjjfbjnaaaaGreatDoor.Pre
open Go Go.VS
set_option maxRecDepth 100000
set_option linter.unusedVariables false
set_option linter.unusedSimpArgs false
noncomputable def tab : List (Entry Tryz.prog) := [⟨213, strings_TrimPrefix, Tryz.f213, Tryz.func213, strings_TrimPrefix.turned⟩,
  ⟨75, impl_inRange, Tryz.f75, Tryz.func75, impl_inRange.turned⟩,
  ⟨142, impl_Dec, Tryz.f142, Tryz.func142, impl_Dec.turned⟩,
  ⟨235, i_stringslite_TrimPrefix, Tryz.f235, Tryz.func235, i_stringslite_TrimPrefix.turned⟩,
  ⟨254, i_stringslite_HasPrefix, Tryz.f254, Tryz.func254, i_stringslite_HasPrefix.turned⟩]
noncomputable def ptab : List (PEntry Tryz.prog LaidX) := [prim_strconv_Itoa]
noncomputable def T : FuncId → Option VFn := tabT tab
noncomputable def G : Sigs := tabG tab ptab
noncomputable def A : Fns := lim G T (tabP ptab)
theorem A_run {f : FuncId} {vf : VFn} {cs : List CV} {r : List CV × List CV} (hT : T f = some vf) (h : Run G A vf.body (params 0 cs) [] (QF vf.sig.own vf.sig.modes vf.res r)) : A f cs = some r := lim_run hT h
theorem A_runE {f : FuncId} {vf : VFn} {cs : List CV} {X : List CV → List CV → Prop} (hT : T f = some vf) (h : Run G A vf.body (params 0 cs) [] (QE vf.sig.own vf.sig.modes vf.res X)) : ∃ rs os, A f cs = some (rs, os) ∧ X rs os := lim_runE hT h
theorem A_prim {f : FuncId} {cs : List CV} {r : List CV × List CV} (hT : T f = none) (h : tabP ptab f cs = some r) : A f cs = some r := lim_prim hT h
theorem A_answers {W : World} (hX : LaidX W) {f : FuncId} {g : Sig} {cs res outs : List CV} (hg : G f = some g) (h : A f cs = some (res, outs)) : Answers Tryz.prog W f cs res outs := lim_answers (tabT_ok tab ptab) (tabP_ok hX tab ptab) hg h
theorem T_strings_TrimPrefix : T 213 = some strings_TrimPrefix := by kernel_rfl
@[simp] theorem G_213 : G 213 = some ⟨[.V, .V], true⟩ := by kernel_rfl
theorem T_impl_inRange : T 75 = some impl_inRange := by kernel_rfl
@[simp] theorem G_75 : G 75 = some ⟨[.V, .V, .V], true⟩ := by kernel_rfl
theorem T_impl_Dec : T 142 = some impl_Dec := by kernel_rfl
@[simp] theorem G_142 : G 142 = some ⟨[.V], true⟩ := by kernel_rfl
theorem T_i_stringslite_TrimPrefix : T 235 = some i_stringslite_TrimPrefix := by kernel_rfl
@[simp] theorem G_235 : G 235 = some ⟨[.V, .V], true⟩ := by kernel_rfl
theorem T_i_stringslite_HasPrefix : T 254 = some i_stringslite_HasPrefix := by kernel_rfl
@[simp] theorem G_254 : G 254 = some ⟨[.V, .V], true⟩ := by kernel_rfl
theorem run_strings_TrimPrefix {cs : List CV} {r : List CV × List CV} (h : Run G A strings_TrimPrefix.b (params 0 cs) [] (QF true [.V, .V] [.tmp 4] r)) : A 213 cs = some r := A_run T_strings_TrimPrefix h
theorem run_impl_inRange {cs : List CV} {r : List CV × List CV} (h : Run G A impl_inRange.b (params 0 cs) [] (QF true [.V, .V, .V] [.tmp 6] r)) : A 75 cs = some r := A_run T_impl_inRange h
theorem run_impl_Dec {cs : List CV} {r : List CV × List CV} (h : Run G A impl_Dec.b (params 0 cs) [] (QF true [.V] [.tmp 2] r)) : A 142 cs = some r := A_run T_impl_Dec h
theorem run_i_stringslite_TrimPrefix {cs : List CV} {r : List CV × List CV} (h : Run G A i_stringslite_TrimPrefix.b (params 0 cs) [] (QF true [.V, .V] [.tmp 4] r)) : A 235 cs = some r := A_run T_i_stringslite_TrimPrefix h
theorem run_i_stringslite_HasPrefix {cs : List CV} {r : List CV × List CV} (h : Run G A i_stringslite_HasPrefix.b (params 0 cs) [] (QF true [.V, .V] [.tmp 4] r)) : A 254 cs = some r := A_run T_i_stringslite_HasPrefix h
theorem T_strconv_Itoa : T 188 = none := by kernel_rfl
@[simp] theorem G_188 : G 188 = some ⟨[.V], true⟩ := by kernel_rfl
theorem P_strconv_Itoa {cs : List CV} {r : List CV × List CV} (h : prim_strconv_Itoa.run cs = some r) : A 188 cs = some r := A_prim T_strconv_Itoa (by rw [← h]; rfl)
end Go.Proofs.YticecjjfbjnaaaaGreatDoor.Pre
