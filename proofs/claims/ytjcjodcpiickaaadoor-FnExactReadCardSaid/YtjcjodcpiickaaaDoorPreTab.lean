/- The table of the functions. -/
import Derived.Test.YtjcjodcpiickaaaDoorPreFn0
import Derived.Test.YtjcjodcpiickaaaDoorEngM7
import Derived.Test.YtjcjodcpiickaaaDoorEngPItoa
namespace Go.Proofs.YtjcjodcpiickaaaDoor.Pre
open Go Go.VS
set_option maxRecDepth 100000
set_option linter.unusedVariables false
set_option linter.unusedSimpArgs false
noncomputable def tab : List (Entry Tryd.prog) := [⟨76, strings_TrimPrefix, Tryd.f76, Tryd.func76, strings_TrimPrefix.turned⟩,
  ⟨37, impl_inRange, Tryd.f37, Tryd.func37, impl_inRange.turned⟩,
  ⟨39, impl_Dec, Tryd.f39, Tryd.func39, impl_Dec.turned⟩,
  ⟨82, i_stringslite_TrimPrefix, Tryd.f82, Tryd.func82, i_stringslite_TrimPrefix.turned⟩,
  ⟨90, i_stringslite_HasPrefix, Tryd.f90, Tryd.func90, i_stringslite_HasPrefix.turned⟩]
noncomputable def ptab : List (PEntry Tryd.prog LaidX) := [prim_strconv_Itoa]
noncomputable def T : FuncId → Option VFn := tabT tab
noncomputable def G : Sigs := tabG tab ptab
noncomputable def A : Fns := lim G T (tabP ptab)
theorem A_run {f : FuncId} {vf : VFn} {cs : List CV} {r : List CV × List CV} (hT : T f = some vf) (h : Run G A vf.body (params 0 cs) [] (QF vf.sig.own vf.sig.modes vf.res r)) : A f cs = some r := lim_run hT h
theorem A_runE {f : FuncId} {vf : VFn} {cs : List CV} {X : List CV → List CV → Prop} (hT : T f = some vf) (h : Run G A vf.body (params 0 cs) [] (QE vf.sig.own vf.sig.modes vf.res X)) : ∃ rs os, A f cs = some (rs, os) ∧ X rs os := lim_runE hT h
theorem A_prim {f : FuncId} {cs : List CV} {r : List CV × List CV} (hT : T f = none) (h : tabP ptab f cs = some r) : A f cs = some r := lim_prim hT h
theorem A_answers {W : World} (hX : LaidX W) {f : FuncId} {g : Sig} {cs res outs : List CV} (hg : G f = some g) (h : A f cs = some (res, outs)) : Answers Tryd.prog W f cs res outs := lim_answers (tabT_ok tab ptab) (tabP_ok hX tab ptab) hg h
theorem ip {α : Sort _} {c : Prop} [Decidable c] {a b : α} : (c → (if c then a else b) = a) ∧ (¬ c → (if c then a else b) = b) := ⟨fun h => if_pos h, fun h => if_neg h⟩
theorem wr {n : Int} : (-9223372036854775808 ≤ n → n ≤ 9223372036854775807 → IntKind.i64.wrap n = n) ∧ (0 ≤ n → n ≤ 255 → IntKind.u8.wrap n = n) := ⟨wrap_i64, wrap_u8⟩
variable {cs : List CV} {r : List CV × List CV}
theorem T_strings_TrimPrefix : T 76 = some strings_TrimPrefix := by kernel_rfl
@[simp] theorem G_76 : G 76 = some ⟨[.V, .V], true⟩ := by kernel_rfl
theorem T_impl_inRange : T 37 = some impl_inRange := by kernel_rfl
@[simp] theorem G_37 : G 37 = some ⟨[.V, .V, .V], true⟩ := by kernel_rfl
theorem T_impl_Dec : T 39 = some impl_Dec := by kernel_rfl
@[simp] theorem G_39 : G 39 = some ⟨[.V], true⟩ := by kernel_rfl
theorem T_i_stringslite_TrimPrefix : T 82 = some i_stringslite_TrimPrefix := by kernel_rfl
@[simp] theorem G_82 : G 82 = some ⟨[.V, .V], true⟩ := by kernel_rfl
theorem T_i_stringslite_HasPrefix : T 90 = some i_stringslite_HasPrefix := by kernel_rfl
@[simp] theorem G_90 : G 90 = some ⟨[.V, .V], true⟩ := by kernel_rfl
theorem run_strings_TrimPrefix (h : Run G A strings_TrimPrefix.b (params 0 cs) [] (QF true [.V, .V] [.tmp 4] r)) : A 76 cs = some r := A_run T_strings_TrimPrefix h
theorem run_impl_inRange (h : Run G A impl_inRange.b (params 0 cs) [] (QF true [.V, .V, .V] [.tmp 6] r)) : A 37 cs = some r := A_run T_impl_inRange h
theorem run_impl_Dec (h : Run G A impl_Dec.b (params 0 cs) [] (QF true [.V] [.tmp 2] r)) : A 39 cs = some r := A_run T_impl_Dec h
theorem run_i_stringslite_TrimPrefix (h : Run G A i_stringslite_TrimPrefix.b (params 0 cs) [] (QF true [.V, .V] [.tmp 4] r)) : A 82 cs = some r := A_run T_i_stringslite_TrimPrefix h
theorem run_i_stringslite_HasPrefix (h : Run G A i_stringslite_HasPrefix.b (params 0 cs) [] (QF true [.V, .V] [.tmp 4] r)) : A 90 cs = some r := A_run T_i_stringslite_HasPrefix h
theorem T_strconv_Itoa : T 53 = none := by kernel_rfl
@[simp] theorem G_53 : G 53 = some ⟨[.V], true⟩ := by kernel_rfl
theorem P_strconv_Itoa (h : prim_strconv_Itoa.run cs = some r) : A 53 cs = some r := A_prim T_strconv_Itoa (by rw [← h]; rfl)
end Go.Proofs.YtjcjodcpiickaaaDoor.Pre
