/- The table of the functions. -/
import Derived.Test.YtjcjodcpiickaaaGreatDoorPreFn0
import Derived.Test.YtjcjodcpiickaaaGreatDoorEngM7
import Derived.Test.YtjcjodcpiickaaaGreatDoorEngPItoa
namespace Go.Proofs.YtjcjodcpiickaaaGreatDoor.Pre
open Go Go.VS
set_option maxRecDepth 100000
set_option linter.unusedVariables false
set_option linter.unusedSimpArgs false
noncomputable def tab : List (Entry Tryz.prog) := [⟨254, strings_TrimPrefix, Tryz.f254, Tryz.func254, strings_TrimPrefix.turned⟩,
  ⟨99, impl_inRange, Tryz.f99, Tryz.func99, impl_inRange.turned⟩,
  ⟨158, impl_Dec, Tryz.f158, Tryz.func158, impl_Dec.turned⟩,
  ⟨272, i_stringslite_TrimPrefix, Tryz.f272, Tryz.func272, i_stringslite_TrimPrefix.turned⟩,
  ⟨287, i_stringslite_HasPrefix, Tryz.f287, Tryz.func287, i_stringslite_HasPrefix.turned⟩]
noncomputable def ptab : List (PEntry Tryz.prog LaidX) := [prim_strconv_Itoa]
noncomputable def T : FuncId → Option VFn := tabT tab
noncomputable def G : Sigs := tabG tab ptab
noncomputable def A : Fns := lim G T (tabP ptab)
theorem A_run {f : FuncId} {vf : VFn} {cs : List CV} {r : List CV × List CV} (hT : T f = some vf) (h : Run G A vf.body (params 0 cs) [] (QF vf.sig.own vf.sig.modes vf.res r)) : A f cs = some r := lim_run hT h
theorem A_runE {f : FuncId} {vf : VFn} {cs : List CV} {X : List CV → List CV → Prop} (hT : T f = some vf) (h : Run G A vf.body (params 0 cs) [] (QE vf.sig.own vf.sig.modes vf.res X)) : ∃ rs os, A f cs = some (rs, os) ∧ X rs os := lim_runE hT h
theorem A_prim {f : FuncId} {cs : List CV} {r : List CV × List CV} (hT : T f = none) (h : tabP ptab f cs = some r) : A f cs = some r := lim_prim hT h
theorem A_answers {W : World} (hX : LaidX W) {f : FuncId} {g : Sig} {cs res outs : List CV} (hg : G f = some g) (h : A f cs = some (res, outs)) : Answers Tryz.prog W f cs res outs := lim_answers (tabT_ok tab ptab) (tabP_ok hX tab ptab) hg h
theorem ip {α : Sort _} {c : Prop} [Decidable c] {a b : α} : (c → (if c then a else b) = a) ∧ (¬ c → (if c then a else b) = b) := ⟨fun h => if_pos h, fun h => if_neg h⟩
theorem wr {n : Int} : (-9223372036854775808 ≤ n → n ≤ 9223372036854775807 → IntKind.i64.wrap n = n) ∧ (0 ≤ n → n ≤ 255 → IntKind.u8.wrap n = n) := ⟨wrap_i64, wrap_u8⟩
variable {cs : List CV} {r : List CV × List CV}
theorem T_strings_TrimPrefix : T 254 = some strings_TrimPrefix := by kernel_rfl
@[simp] theorem G_254 : G 254 = some ⟨[.V, .V], true⟩ := by kernel_rfl
theorem T_impl_inRange : T 99 = some impl_inRange := by kernel_rfl
@[simp] theorem G_99 : G 99 = some ⟨[.V, .V, .V], true⟩ := by kernel_rfl
theorem T_impl_Dec : T 158 = some impl_Dec := by kernel_rfl
@[simp] theorem G_158 : G 158 = some ⟨[.V], true⟩ := by kernel_rfl
theorem T_i_stringslite_TrimPrefix : T 272 = some i_stringslite_TrimPrefix := by kernel_rfl
@[simp] theorem G_272 : G 272 = some ⟨[.V, .V], true⟩ := by kernel_rfl
theorem T_i_stringslite_HasPrefix : T 287 = some i_stringslite_HasPrefix := by kernel_rfl
@[simp] theorem G_287 : G 287 = some ⟨[.V, .V], true⟩ := by kernel_rfl
theorem run_strings_TrimPrefix (h : Run G A strings_TrimPrefix.b (params 0 cs) [] (QF true [.V, .V] [.tmp 4] r)) : A 254 cs = some r := A_run T_strings_TrimPrefix h
theorem run_impl_inRange (h : Run G A impl_inRange.b (params 0 cs) [] (QF true [.V, .V, .V] [.tmp 6] r)) : A 99 cs = some r := A_run T_impl_inRange h
theorem run_impl_Dec (h : Run G A impl_Dec.b (params 0 cs) [] (QF true [.V] [.tmp 2] r)) : A 158 cs = some r := A_run T_impl_Dec h
theorem run_i_stringslite_TrimPrefix (h : Run G A i_stringslite_TrimPrefix.b (params 0 cs) [] (QF true [.V, .V] [.tmp 4] r)) : A 272 cs = some r := A_run T_i_stringslite_TrimPrefix h
theorem run_i_stringslite_HasPrefix (h : Run G A i_stringslite_HasPrefix.b (params 0 cs) [] (QF true [.V, .V] [.tmp 4] r)) : A 287 cs = some r := A_run T_i_stringslite_HasPrefix h
theorem T_strconv_Itoa : T 218 = none := by kernel_rfl
@[simp] theorem G_218 : G 218 = some ⟨[.V], true⟩ := by kernel_rfl
theorem P_strconv_Itoa (h : prim_strconv_Itoa.run cs = some r) : A 218 cs = some r := A_prim T_strconv_Itoa (by rw [← h]; rfl)
end Go.Proofs.YtjcjodcpiickaaaGreatDoor.Pre
