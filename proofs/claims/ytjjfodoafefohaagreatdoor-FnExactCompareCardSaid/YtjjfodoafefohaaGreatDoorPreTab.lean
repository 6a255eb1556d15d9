/- The table of the functions. -/
import Derived.Test.YtjjfodoafefohaaGreatDoorPreFn0
import Derived.Test.YtjjfodoafefohaaGreatDoorEngM7
import Derived.Test.YtjjfodoafefohaaGreatDoorEngPItoa
namespace Go.Proofs.YtjjfodoafefohaaGreatDoor.Pre
open Go Go.VS
set_option maxRecDepth 100000
set_option linter.unusedVariables false
set_option linter.unusedSimpArgs false
noncomputable def tab : List (Entry Tryz.prog) := [⟨209, strings_TrimPrefix, Tryz.f209, Tryz.func209, strings_TrimPrefix.turned⟩,
  ⟨54, impl_inRange, Tryz.f54, Tryz.func54, impl_inRange.turned⟩,
  ⟨135, impl_Dec, Tryz.f135, Tryz.func135, impl_Dec.turned⟩,
  ⟨221, i_stringslite_TrimPrefix, Tryz.f221, Tryz.func221, i_stringslite_TrimPrefix.turned⟩,
  ⟨230, i_stringslite_HasPrefix, Tryz.f230, Tryz.func230, i_stringslite_HasPrefix.turned⟩]
noncomputable def ptab : List (PEntry Tryz.prog LaidX) := [prim_strconv_Itoa]
noncomputable def T : FuncId → Option VFn := tabT tab
noncomputable def G : Sigs := tabG tab ptab
noncomputable def A : Fns := lim G T (tabP ptab)
theorem A_run {f : FuncId} {vf : VFn} {cs : List CV} {r : List CV × List CV} (hT : T f = some vf) (h : Run G A vf.body (params 0 cs) [] (QF vf.sig.own vf.sig.modes vf.res r)) : A f cs = some r := lim_run hT h
theorem A_runE {f : FuncId} {vf : VFn} {cs : List CV} {X : List CV → List CV → Prop} (hT : T f = some vf) (h : Run G A vf.body (params 0 cs) [] (QE vf.sig.own vf.sig.modes vf.res X)) : ∃ rs os, A f cs = some (rs, os) ∧ X rs os := lim_runE hT h
theorem A_prim {f : FuncId} {cs : List CV} {r : List CV × List CV} (hT : T f = none) (h : tabP ptab f cs = some r) : A f cs = some r := lim_prim hT h
theorem A_answers {W : World} (hX : LaidX W) {f : FuncId} {g : Sig} {cs res outs : List CV} (hg : G f = some g) (h : A f cs = some (res, outs)) : Answers Tryz.prog W f cs res outs := lim_answers (tabT_ok tab ptab) (tabP_ok hX tab ptab) hg h
theorem T_strings_TrimPrefix : T 209 = some strings_TrimPrefix := by kernel_rfl
@[simp] theorem G_209 : G 209 = some ⟨[.V, .V], true⟩ := by kernel_rfl
theorem T_impl_inRange : T 54 = some impl_inRange := by kernel_rfl
@[simp] theorem G_54 : G 54 = some ⟨[.V, .V, .V], true⟩ := by kernel_rfl
theorem T_impl_Dec : T 135 = some impl_Dec := by kernel_rfl
@[simp] theorem G_135 : G 135 = some ⟨[.V], true⟩ := by kernel_rfl
theorem T_i_stringslite_TrimPrefix : T 221 = some i_stringslite_TrimPrefix := by kernel_rfl
@[simp] theorem G_221 : G 221 = some ⟨[.V, .V], true⟩ := by kernel_rfl
theorem T_i_stringslite_HasPrefix : T 230 = some i_stringslite_HasPrefix := by kernel_rfl
@[simp] theorem G_230 : G 230 = some ⟨[.V, .V], true⟩ := by kernel_rfl
theorem run_strings_TrimPrefix {cs : List CV} {r : List CV × List CV} (h : Run G A strings_TrimPrefix.b (params 0 cs) [] (QF true [.V, .V] [.tmp 4] r)) : A 209 cs = some r := A_run T_strings_TrimPrefix h
theorem run_impl_inRange {cs : List CV} {r : List CV × List CV} (h : Run G A impl_inRange.b (params 0 cs) [] (QF true [.V, .V, .V] [.tmp 6] r)) : A 54 cs = some r := A_run T_impl_inRange h
theorem run_impl_Dec {cs : List CV} {r : List CV × List CV} (h : Run G A impl_Dec.b (params 0 cs) [] (QF true [.V] [.tmp 2] r)) : A 135 cs = some r := A_run T_impl_Dec h
theorem run_i_stringslite_TrimPrefix {cs : List CV} {r : List CV × List CV} (h : Run G A i_stringslite_TrimPrefix.b (params 0 cs) [] (QF true [.V, .V] [.tmp 4] r)) : A 221 cs = some r := A_run T_i_stringslite_TrimPrefix h
theorem run_i_stringslite_HasPrefix {cs : List CV} {r : List CV × List CV} (h : Run G A i_stringslite_HasPrefix.b (params 0 cs) [] (QF true [.V, .V] [.tmp 4] r)) : A 230 cs = some r := A_run T_i_stringslite_HasPrefix h
theorem T_strconv_Itoa : T 184 = none := by kernel_rfl
@[simp] theorem G_184 : G 184 = some ⟨[.V], true⟩ := by kernel_rfl
theorem P_strconv_Itoa {cs : List CV} {r : List CV × List CV} (h : prim_strconv_Itoa.run cs = some r) : A 184 cs = some r := A_prim T_strconv_Itoa (by rw [← h]; rfl)
end Go.Proofs.YtjjfodoafefohaaGreatDoor.Pre
