/- The table of the functions. -/
import Derived.Test.YtdoelepflcaijaaDoorPreFn0
import Derived.Test.YtdoelepflcaijaaDoorEngM7
import Derived.Test.YtdoelepflcaijaaDoorEngPItoa
namespace Go.Proofs.YtdoelepflcaijaaDoor.Pre
open Go Go.VS
set_option maxRecDepth 100000
set_option linter.unusedVariables false
set_option linter.unusedSimpArgs false
noncomputable def tab : List (Entry Tryd.prog) := [⟨55, strings_TrimPrefix, Tryd.f55, Tryd.func55, strings_TrimPrefix.turned⟩,
  ⟨54, impl_inRange, Tryd.f54, Tryd.func54, impl_inRange.turned⟩,
  ⟨21, impl_Dec, Tryd.f21, Tryd.func21, impl_Dec.turned⟩,
  ⟨92, i_stringslite_TrimPrefix, Tryd.f92, Tryd.func92, i_stringslite_TrimPrefix.turned⟩,
  ⟨126, i_stringslite_HasPrefix, Tryd.f126, Tryd.func126, i_stringslite_HasPrefix.turned⟩]
noncomputable def ptab : List (PEntry Tryd.prog LaidX) := [prim_strconv_Itoa]
noncomputable def T : FuncId → Option VFn := tabT tab
noncomputable def G : Sigs := tabG tab ptab
noncomputable def A : Fns := lim G T (tabP ptab)
theorem A_run {f : FuncId} {vf : VFn} {cs : List CV} {r : List CV × List CV} (hT : T f = some vf) (h : Run G A vf.body (params 0 cs) [] (QF vf.sig.own vf.sig.modes vf.res r)) : A f cs = some r := lim_run hT h
theorem A_runE {f : FuncId} {vf : VFn} {cs : List CV} {X : List CV → List CV → Prop} (hT : T f = some vf) (h : Run G A vf.body (params 0 cs) [] (QE vf.sig.own vf.sig.modes vf.res X)) : ∃ rs os, A f cs = some (rs, os) ∧ X rs os := lim_runE hT h
theorem A_prim {f : FuncId} {cs : List CV} {r : List CV × List CV} (hT : T f = none) (h : tabP ptab f cs = some r) : A f cs = some r := lim_prim hT h
theorem A_answers {W : World} (hX : LaidX W) {f : FuncId} {g : Sig} {cs res outs : List CV} (hg : G f = some g) (h : A f cs = some (res, outs)) : Answers Tryd.prog W f cs res outs := lim_answers (tabT_ok tab ptab) (tabP_ok hX tab ptab) hg h
theorem T_strings_TrimPrefix : T 55 = some strings_TrimPrefix := by kernel_rfl
@[simp] theorem G_55 : G 55 = some ⟨[.V, .V], true⟩ := by kernel_rfl
theorem T_impl_inRange : T 54 = some impl_inRange := by kernel_rfl
@[simp] theorem G_54 : G 54 = some ⟨[.V, .V, .V], true⟩ := by kernel_rfl
theorem T_impl_Dec : T 21 = some impl_Dec := by kernel_rfl
@[simp] theorem G_21 : G 21 = some ⟨[.V], true⟩ := by kernel_rfl
theorem T_i_stringslite_TrimPrefix : T 92 = some i_stringslite_TrimPrefix := by kernel_rfl
@[simp] theorem G_92 : G 92 = some ⟨[.V, .V], true⟩ := by kernel_rfl
theorem T_i_stringslite_HasPrefix : T 126 = some i_stringslite_HasPrefix := by kernel_rfl
@[simp] theorem G_126 : G 126 = some ⟨[.V, .V], true⟩ := by kernel_rfl
theorem run_strings_TrimPrefix {cs : List CV} {r : List CV × List CV} (h : Run G A strings_TrimPrefix.b (params 0 cs) [] (QF true [.V, .V] [.tmp 4] r)) : A 55 cs = some r := A_run T_strings_TrimPrefix h
theorem runE_strings_TrimPrefix {cs : List CV} {X : List CV → List CV → Prop} (h : Run G A strings_TrimPrefix.b (params 0 cs) [] (QE true [.V, .V] [.tmp 4] X)) : ∃ rs os, A 55 cs = some (rs, os) ∧ X rs os := A_runE T_strings_TrimPrefix h
theorem run_impl_inRange {cs : List CV} {r : List CV × List CV} (h : Run G A impl_inRange.b (params 0 cs) [] (QF true [.V, .V, .V] [.tmp 6] r)) : A 54 cs = some r := A_run T_impl_inRange h
theorem runE_impl_inRange {cs : List CV} {X : List CV → List CV → Prop} (h : Run G A impl_inRange.b (params 0 cs) [] (QE true [.V, .V, .V] [.tmp 6] X)) : ∃ rs os, A 54 cs = some (rs, os) ∧ X rs os := A_runE T_impl_inRange h
theorem run_impl_Dec {cs : List CV} {r : List CV × List CV} (h : Run G A impl_Dec.b (params 0 cs) [] (QF true [.V] [.tmp 2] r)) : A 21 cs = some r := A_run T_impl_Dec h
theorem runE_impl_Dec {cs : List CV} {X : List CV → List CV → Prop} (h : Run G A impl_Dec.b (params 0 cs) [] (QE true [.V] [.tmp 2] X)) : ∃ rs os, A 21 cs = some (rs, os) ∧ X rs os := A_runE T_impl_Dec h
theorem run_i_stringslite_TrimPrefix {cs : List CV} {r : List CV × List CV} (h : Run G A i_stringslite_TrimPrefix.b (params 0 cs) [] (QF true [.V, .V] [.tmp 4] r)) : A 92 cs = some r := A_run T_i_stringslite_TrimPrefix h
theorem runE_i_stringslite_TrimPrefix {cs : List CV} {X : List CV → List CV → Prop} (h : Run G A i_stringslite_TrimPrefix.b (params 0 cs) [] (QE true [.V, .V] [.tmp 4] X)) : ∃ rs os, A 92 cs = some (rs, os) ∧ X rs os := A_runE T_i_stringslite_TrimPrefix h
theorem run_i_stringslite_HasPrefix {cs : List CV} {r : List CV × List CV} (h : Run G A i_stringslite_HasPrefix.b (params 0 cs) [] (QF true [.V, .V] [.tmp 4] r)) : A 126 cs = some r := A_run T_i_stringslite_HasPrefix h
theorem runE_i_stringslite_HasPrefix {cs : List CV} {X : List CV → List CV → Prop} (h : Run G A i_stringslite_HasPrefix.b (params 0 cs) [] (QE true [.V, .V] [.tmp 4] X)) : ∃ rs os, A 126 cs = some (rs, os) ∧ X rs os := A_runE T_i_stringslite_HasPrefix h
theorem T_strconv_Itoa : T 57 = none := by kernel_rfl
@[simp] theorem G_57 : G 57 = some ⟨[.V], true⟩ := by kernel_rfl
theorem P_strconv_Itoa {cs : List CV} {r : List CV × List CV} (h : prim_strconv_Itoa.run cs = some r) : A 57 cs = some r := A_prim T_strconv_Itoa (by rw [← h]; rfl)
end Go.Proofs.YtdoelepflcaijaaDoor.Pre
