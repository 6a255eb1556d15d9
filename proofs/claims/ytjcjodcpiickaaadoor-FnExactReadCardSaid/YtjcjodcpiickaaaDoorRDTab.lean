/- The table of the functions. -/
import Derived.Test.YtjcjodcpiickaaaDoorRDFn0
import Derived.Test.YtjcjodcpiickaaaDoorEngM7
import Derived.Test.YtjcjodcpiickaaaDoorEngPIndexByte
import Derived.Test.YtjcjodcpiickaaaDoorEngPList
import Derived.Test.YtjcjodcpiickaaaDoorEngPReadDec
namespace Go.Proofs.YtjcjodcpiickaaaDoor.RD
open Go Go.VS
set_option maxRecDepth 100000
set_option linter.unusedVariables false
set_option linter.unusedSimpArgs false
noncomputable def tab : List (Entry Tryd.prog) := [⟨4, laws_FnExactRead, Tryd.f4, Tryd.func4, laws_FnExactRead.turned⟩,
  ⟨9, laws_eqData, Tryd.f9, Tryd.func9, laws_eqData.turned⟩,
  ⟨10, spec_Read, Tryd.f10, Tryd.func10, spec_Read.turned⟩,
  ⟨11, impl_Read, Tryd.f11, Tryd.func11, impl_Read.turned⟩,
  ⟨12, laws_markData, Tryd.f12, Tryd.func12, laws_markData.turned⟩,
  ⟨13, laws_heldData, Tryd.f13, Tryd.func13, laws_heldData.turned⟩,
  ⟨24, laws_eqDatumS, Tryd.f24, Tryd.func24, laws_eqDatumS.turned⟩,
  ⟨25, laws_eqIntS, Tryd.f25, Tryd.func25, laws_eqIntS.turned⟩,
  ⟨26, spec_l2Skip, Tryd.f26, Tryd.func26, spec_l2Skip.turned⟩,
  ⟨27, spec_l2Datum, Tryd.f27, Tryd.func27, spec_l2Datum.turned⟩,
  ⟨28, impl_reader_isOver, Tryd.f28, Tryd.func28, impl_reader_isOver.turned⟩,
  ⟨29, impl_reader_following, Tryd.f29, Tryd.func29, impl_reader_following.turned⟩,
  ⟨30, laws_markDatumS, Tryd.f30, Tryd.func30, laws_markDatumS.turned⟩,
  ⟨31, laws_markIntS, Tryd.f31, Tryd.func31, laws_markIntS.turned⟩,
  ⟨32, laws_heldDatumS, Tryd.f32, Tryd.func32, laws_heldDatumS.turned⟩,
  ⟨33, laws_heldIntS, Tryd.f33, Tryd.func33, laws_heldIntS.turned⟩,
  ⟨42, laws_eqDatum, Tryd.f42, Tryd.func42, laws_eqDatum.turned⟩,
  ⟨43, spec_l2Blank, Tryd.f43, Tryd.func43, spec_l2Blank.turned⟩,
  ⟨44, spec_l2Token, Tryd.f44, Tryd.func44, spec_l2Token.turned⟩,
  ⟨45, spec_l2Fail, Tryd.f45, Tryd.func45, spec_l2Fail.turned⟩,
  ⟨46, spec_l2Put, Tryd.f46, Tryd.func46, spec_l2Put.turned⟩,
  ⟨47, spec_l2List, Tryd.f47, Tryd.func47, spec_l2List.turned⟩,
  ⟨48, spec_l2Atom, Tryd.f48, Tryd.func48, spec_l2Atom.turned⟩,
  ⟨49, impl_reader_skip, Tryd.f49, Tryd.func49, impl_reader_skip.turned⟩,
  ⟨50, impl_reader_read, Tryd.f50, Tryd.func50, impl_reader_read.turned⟩,
  ⟨51, impl_reader_datum, Tryd.f51, Tryd.func51, impl_reader_datum.turned⟩,
  ⟨52, laws_markText, Tryd.f52, Tryd.func52, laws_markText.turned⟩,
  ⟨55, spec_l2In, Tryd.f55, Tryd.func55, spec_l2In.turned⟩,
  ⟨56, spec_l2Sign, Tryd.f56, Tryd.func56, spec_l2Sign.turned⟩,
  ⟨57, spec_ReadDec, Tryd.f57, Tryd.func57, spec_ReadDec.turned⟩,
  ⟨58, spec_l1In, Tryd.f58, Tryd.func58, spec_l1In.turned⟩,
  ⟨59, spec_l2Sym, Tryd.f59, Tryd.func59, spec_l2Sym.turned⟩,
  ⟨61, impl_isRunByte, Tryd.f61, Tryd.func61, impl_isRunByte.turned⟩,
  ⟨62, impl_reader_inner, Tryd.f62, Tryd.func62, impl_reader_inner.turned⟩,
  ⟨63, impl_reader_put, Tryd.f63, Tryd.func63, impl_reader_put.turned⟩,
  ⟨65, impl_atom, Tryd.f65, Tryd.func65, impl_atom.turned⟩,
  ⟨67, spec_l2Digit, Tryd.f67, Tryd.func67, spec_l2Digit.turned⟩,
  ⟨35, spec_Dec, Tryd.f35, Tryd.func35, spec_Dec.turned⟩,
  ⟨69, impl_isSymByte, Tryd.f69, Tryd.func69, impl_isSymByte.turned⟩,
  ⟨37, impl_inRange, Tryd.f37, Tryd.func37, impl_inRange.turned⟩,
  ⟨72, impl_symOk, Tryd.f72, Tryd.func72, impl_symOk.turned⟩]
noncomputable def ptab : List (PEntry Tryd.prog LaidX) := [prim_strings_IndexByte, prim_impl_reader_list, prim_impl_ReadDec]
noncomputable def T : FuncId → Option VFn := tabT tab
noncomputable def G : Sigs := tabG tab ptab
noncomputable def A : Fns := lim G T (tabP ptab)
theorem A_run {f : FuncId} {vf : VFn} {cs : List CV} {r : List CV × List CV} (hT : T f = some vf) (h : Run G A vf.body (params 0 cs) [] (QF vf.sig.own vf.sig.modes vf.res r)) : A f cs = some r := lim_run hT h
theorem A_runE {f : FuncId} {vf : VFn} {cs : List CV} {X : List CV → List CV → Prop} (hT : T f = some vf) (h : Run G A vf.body (params 0 cs) [] (QE vf.sig.own vf.sig.modes vf.res X)) : ∃ rs os, A f cs = some (rs, os) ∧ X rs os := lim_runE hT h
theorem A_prim {f : FuncId} {cs : List CV} {r : List CV × List CV} (hT : T f = none) (h : tabP ptab f cs = some r) : A f cs = some r := lim_prim hT h
theorem A_answers {W : World} (hX : LaidX W) {f : FuncId} {g : Sig} {cs res outs : List CV} (hg : G f = some g) (h : A f cs = some (res, outs)) : Answers Tryd.prog W f cs res outs := lim_answers (tabT_ok tab ptab) (tabP_ok hX tab ptab) hg h
theorem ip {α : Sort _} {c : Prop} [Decidable c] {a b : α} : (c → (if c then a else b) = a) ∧ (¬ c → (if c then a else b) = b) := ⟨fun h => if_pos h, fun h => if_neg h⟩
theorem wr {n : Int} : (-9223372036854775808 ≤ n → n ≤ 9223372036854775807 → IntKind.i64.wrap n = n) ∧ (0 ≤ n → n ≤ 255 → IntKind.u8.wrap n = n) := ⟨wrap_i64, wrap_u8⟩
variable {cs : List CV} {r : List CV × List CV}
theorem T_laws_FnExactRead : T 4 = some laws_FnExactRead := by kernel_rfl
@[simp] theorem G_4 : G 4 = some ⟨[.V], true⟩ := by kernel_rfl
theorem T_laws_eqData : T 9 = some laws_eqData := by kernel_rfl
@[simp] theorem G_9 : G 9 = some ⟨[.V, .V], true⟩ := by kernel_rfl
theorem T_spec_Read : T 10 = some spec_Read := by kernel_rfl
@[simp] theorem G_10 : G 10 = some ⟨[.V], true⟩ := by kernel_rfl
theorem T_impl_Read : T 11 = some impl_Read := by kernel_rfl
@[simp] theorem G_11 : G 11 = some ⟨[.V], true⟩ := by kernel_rfl
theorem T_laws_markData : T 12 = some laws_markData := by kernel_rfl
@[simp] theorem G_12 : G 12 = some ⟨[.M, .V], true⟩ := by kernel_rfl
theorem T_laws_heldData : T 13 = some laws_heldData := by kernel_rfl
@[simp] theorem G_13 : G 13 = some ⟨[.V, .V], true⟩ := by kernel_rfl
theorem T_laws_eqDatumS : T 24 = some laws_eqDatumS := by kernel_rfl
@[simp] theorem G_24 : G 24 = some ⟨[.V, .V], true⟩ := by kernel_rfl
theorem T_laws_eqIntS : T 25 = some laws_eqIntS := by kernel_rfl
@[simp] theorem G_25 : G 25 = some ⟨[.V, .V], true⟩ := by kernel_rfl
theorem T_spec_l2Skip : T 26 = some spec_l2Skip := by kernel_rfl
@[simp] theorem G_26 : G 26 = some ⟨[.O], true⟩ := by kernel_rfl
theorem T_spec_l2Datum : T 27 = some spec_l2Datum := by kernel_rfl
@[simp] theorem G_27 : G 27 = some ⟨[.O, .V], true⟩ := by kernel_rfl
theorem T_impl_reader_isOver : T 28 = some impl_reader_isOver := by kernel_rfl
@[simp] theorem G_28 : G 28 = some ⟨[.M], false⟩ := by kernel_rfl
theorem T_impl_reader_following : T 29 = some impl_reader_following := by kernel_rfl
@[simp] theorem G_29 : G 29 = some ⟨[.M, .V], false⟩ := by kernel_rfl
theorem T_laws_markDatumS : T 30 = some laws_markDatumS := by kernel_rfl
@[simp] theorem G_30 : G 30 = some ⟨[.M, .V], true⟩ := by kernel_rfl
theorem T_laws_markIntS : T 31 = some laws_markIntS := by kernel_rfl
@[simp] theorem G_31 : G 31 = some ⟨[.M, .V], true⟩ := by kernel_rfl
theorem T_laws_heldDatumS : T 32 = some laws_heldDatumS := by kernel_rfl
@[simp] theorem G_32 : G 32 = some ⟨[.V, .V], true⟩ := by kernel_rfl
theorem T_laws_heldIntS : T 33 = some laws_heldIntS := by kernel_rfl
@[simp] theorem G_33 : G 33 = some ⟨[.V, .V], true⟩ := by kernel_rfl
theorem T_laws_eqDatum : T 42 = some laws_eqDatum := by kernel_rfl
@[simp] theorem G_42 : G 42 = some ⟨[.V, .V], true⟩ := by kernel_rfl
theorem T_spec_l2Blank : T 43 = some spec_l2Blank := by kernel_rfl
@[simp] theorem G_43 : G 43 = some ⟨[.V], true⟩ := by kernel_rfl
theorem T_spec_l2Token : T 44 = some spec_l2Token := by kernel_rfl
@[simp] theorem G_44 : G 44 = some ⟨[.V, .V], true⟩ := by kernel_rfl
theorem T_spec_l2Fail : T 45 = some spec_l2Fail := by kernel_rfl
@[simp] theorem G_45 : G 45 = some ⟨[.O, .V], true⟩ := by kernel_rfl
theorem T_spec_l2Put : T 46 = some spec_l2Put := by kernel_rfl
@[simp] theorem G_46 : G 46 = some ⟨[.O, .V], true⟩ := by kernel_rfl
theorem T_spec_l2List : T 47 = some spec_l2List := by kernel_rfl
@[simp] theorem G_47 : G 47 = some ⟨[.O, .V], true⟩ := by kernel_rfl
theorem T_spec_l2Atom : T 48 = some spec_l2Atom := by kernel_rfl
@[simp] theorem G_48 : G 48 = some ⟨[.O, .V, .V], true⟩ := by kernel_rfl
theorem T_impl_reader_skip : T 49 = some impl_reader_skip := by kernel_rfl
@[simp] theorem G_49 : G 49 = some ⟨[.M], false⟩ := by kernel_rfl
theorem T_impl_reader_read : T 50 = some impl_reader_read := by kernel_rfl
@[simp] theorem G_50 : G 50 = some ⟨[.M], false⟩ := by kernel_rfl
theorem T_impl_reader_datum : T 51 = some impl_reader_datum := by kernel_rfl
@[simp] theorem G_51 : G 51 = some ⟨[.M, .V], false⟩ := by kernel_rfl
theorem T_laws_markText : T 52 = some laws_markText := by kernel_rfl
@[simp] theorem G_52 : G 52 = some ⟨[.V], true⟩ := by kernel_rfl
theorem T_spec_l2In : T 55 = some spec_l2In := by kernel_rfl
@[simp] theorem G_55 : G 55 = some ⟨[.V, .V], true⟩ := by kernel_rfl
theorem T_spec_l2Sign : T 56 = some spec_l2Sign := by kernel_rfl
@[simp] theorem G_56 : G 56 = some ⟨[.V], true⟩ := by kernel_rfl
theorem T_spec_ReadDec : T 57 = some spec_ReadDec := by kernel_rfl
@[simp] theorem G_57 : G 57 = some ⟨[.V], true⟩ := by kernel_rfl
theorem T_spec_l1In : T 58 = some spec_l1In := by kernel_rfl
@[simp] theorem G_58 : G 58 = some ⟨[.V, .V, .V], true⟩ := by kernel_rfl
theorem T_spec_l2Sym : T 59 = some spec_l2Sym := by kernel_rfl
@[simp] theorem G_59 : G 59 = some ⟨[.V], true⟩ := by kernel_rfl
theorem T_impl_isRunByte : T 61 = some impl_isRunByte := by kernel_rfl
@[simp] theorem G_61 : G 61 = some ⟨[.V], true⟩ := by kernel_rfl
theorem T_impl_reader_inner : T 62 = some impl_reader_inner := by kernel_rfl
@[simp] theorem G_62 : G 62 = some ⟨[.M, .V], false⟩ := by kernel_rfl
theorem T_impl_reader_put : T 63 = some impl_reader_put := by kernel_rfl
@[simp] theorem G_63 : G 63 = some ⟨[.M, .V], false⟩ := by kernel_rfl
theorem T_impl_atom : T 65 = some impl_atom := by kernel_rfl
@[simp] theorem G_65 : G 65 = some ⟨[.V], true⟩ := by kernel_rfl
theorem T_spec_l2Digit : T 67 = some spec_l2Digit := by kernel_rfl
@[simp] theorem G_67 : G 67 = some ⟨[.V], true⟩ := by kernel_rfl
theorem T_spec_Dec : T 35 = some spec_Dec := by kernel_rfl
@[simp] theorem G_35 : G 35 = some ⟨[.V], true⟩ := by kernel_rfl
theorem T_impl_isSymByte : T 69 = some impl_isSymByte := by kernel_rfl
@[simp] theorem G_69 : G 69 = some ⟨[.V], true⟩ := by kernel_rfl
theorem T_impl_inRange : T 37 = some impl_inRange := by kernel_rfl
@[simp] theorem G_37 : G 37 = some ⟨[.V, .V, .V], true⟩ := by kernel_rfl
theorem T_impl_symOk : T 72 = some impl_symOk := by kernel_rfl
@[simp] theorem G_72 : G 72 = some ⟨[.V], true⟩ := by kernel_rfl
theorem run_laws_FnExactRead (h : Run G A laws_FnExactRead.b (params 0 cs) [] (QF true [.V] [.tmp 2] r)) : A 4 cs = some r := A_run T_laws_FnExactRead h
theorem run_laws_eqData (h : Run G A laws_eqData.b (params 0 cs) [] (QF true [.V, .V] [.tmp 4] r)) : A 9 cs = some r := A_run T_laws_eqData h
theorem run_spec_Read (h : Run G A spec_Read.b (params 0 cs) [] (QF true [.V] [.cell 2 2 true, .tmp 3] r)) : A 10 cs = some r := A_run T_spec_Read h
theorem run_impl_Read (h : Run G A impl_Read.b (params 0 cs) [] (QF true [.V] [.cell 2 2 true, .tmp 3] r)) : A 11 cs = some r := A_run T_impl_Read h
theorem run_laws_markData (h : Run G A laws_markData.b (params 0 cs) [] (QF true [.M, .V] [.tmp 4] r)) : A 12 cs = some r := A_run T_laws_markData h
theorem run_laws_heldData (h : Run G A laws_heldData.b (params 0 cs) [] (QF true [.V, .V] [.tmp 4] r)) : A 13 cs = some r := A_run T_laws_heldData h
theorem run_laws_eqDatumS (h : Run G A laws_eqDatumS.b (params 0 cs) [] (QF true [.V, .V] [.tmp 4] r)) : A 24 cs = some r := A_run T_laws_eqDatumS h
theorem run_laws_eqIntS (h : Run G A laws_eqIntS.b (params 0 cs) [] (QF true [.V, .V] [.tmp 4] r)) : A 25 cs = some r := A_run T_laws_eqIntS h
theorem run_spec_l2Skip (h : Run G A spec_l2Skip.b (params 0 cs) [] (QF true [.O] [.cell 2 6 true] r)) : A 26 cs = some r := A_run T_spec_l2Skip h
theorem run_spec_l2Datum (h : Run G A spec_l2Datum.b (params 0 cs) [] (QF true [.O, .V] [.cell 4 6 true] r)) : A 27 cs = some r := A_run T_spec_l2Datum h
theorem run_impl_reader_isOver (h : Run G A impl_reader_isOver.b (params 0 cs) [] (QF false [.M] [.tmp 2] r)) : A 28 cs = some r := A_run T_impl_reader_isOver h
theorem run_impl_reader_following (h : Run G A impl_reader_following.b (params 0 cs) [] (QF false [.M, .V] [.tmp 4] r)) : A 29 cs = some r := A_run T_impl_reader_following h
theorem runE_impl_reader_following {cs : List CV} {X : List CV → List CV → Prop} (h : Run G A impl_reader_following.b (params 0 cs) [] (QE false [.M, .V] [.tmp 4] X)) : ∃ rs os, A 29 cs = some (rs, os) ∧ X rs os := A_runE T_impl_reader_following h
theorem run_laws_markDatumS (h : Run G A laws_markDatumS.b (params 0 cs) [] (QF true [.M, .V] [.tmp 4] r)) : A 30 cs = some r := A_run T_laws_markDatumS h
theorem run_laws_markIntS (h : Run G A laws_markIntS.b (params 0 cs) [] (QF true [.M, .V] [.tmp 4] r)) : A 31 cs = some r := A_run T_laws_markIntS h
theorem run_laws_heldDatumS (h : Run G A laws_heldDatumS.b (params 0 cs) [] (QF true [.V, .V] [.tmp 4] r)) : A 32 cs = some r := A_run T_laws_heldDatumS h
theorem run_laws_heldIntS (h : Run G A laws_heldIntS.b (params 0 cs) [] (QF true [.V, .V] [.tmp 4] r)) : A 33 cs = some r := A_run T_laws_heldIntS h
theorem run_laws_eqDatum (h : Run G A laws_eqDatum.b (params 0 cs) [] (QF true [.V, .V] [.tmp 4] r)) : A 42 cs = some r := A_run T_laws_eqDatum h
theorem run_spec_l2Blank (h : Run G A spec_l2Blank.b (params 0 cs) [] (QF true [.V] [.tmp 2] r)) : A 43 cs = some r := A_run T_spec_l2Blank h
theorem run_spec_l2Token (h : Run G A spec_l2Token.b (params 0 cs) [] (QF true [.V, .V] [.tmp 4] r)) : A 44 cs = some r := A_run T_spec_l2Token h
theorem run_spec_l2Fail (h : Run G A spec_l2Fail.b (params 0 cs) [] (QF true [.O, .V] [.cell 4 6 true] r)) : A 45 cs = some r := A_run T_spec_l2Fail h
theorem run_spec_l2Put (h : Run G A spec_l2Put.b (params 0 cs) [] (QF true [.O, .V] [.cell 4 6 true] r)) : A 46 cs = some r := A_run T_spec_l2Put h
theorem run_spec_l2List (h : Run G A spec_l2List.b (params 0 cs) [] (QF true [.O, .V] [.cell 4 6 true] r)) : A 47 cs = some r := A_run T_spec_l2List h
theorem run_spec_l2Atom (h : Run G A spec_l2Atom.b (params 0 cs) [] (QF true [.O, .V, .V] [.cell 6 6 true] r)) : A 48 cs = some r := A_run T_spec_l2Atom h
theorem run_impl_reader_skip (h : Run G A impl_reader_skip.b (params 0 cs) [] (QF false [.M] [] r)) : A 49 cs = some r := A_run T_impl_reader_skip h
theorem run_impl_reader_read (h : Run G A impl_reader_read.b (params 0 cs) [] (QF false [.M] [] r)) : A 50 cs = some r := A_run T_impl_reader_read h
theorem run_impl_reader_datum (h : Run G A impl_reader_datum.b (params 0 cs) [] (QF false [.M, .V] [.tmp 4] r)) : A 51 cs = some r := A_run T_impl_reader_datum h
theorem runE_impl_reader_datum {cs : List CV} {X : List CV → List CV → Prop} (h : Run G A impl_reader_datum.b (params 0 cs) [] (QE false [.M, .V] [.tmp 4] X)) : ∃ rs os, A 51 cs = some (rs, os) ∧ X rs os := A_runE T_impl_reader_datum h
theorem run_laws_markText (h : Run G A laws_markText.b (params 0 cs) [] (QF true [.V] [.tmp 2] r)) : A 52 cs = some r := A_run T_laws_markText h
theorem runE_laws_markText {cs : List CV} {X : List CV → List CV → Prop} (h : Run G A laws_markText.b (params 0 cs) [] (QE true [.V] [.tmp 2] X)) : ∃ rs os, A 52 cs = some (rs, os) ∧ X rs os := A_runE T_laws_markText h
theorem run_spec_l2In (h : Run G A spec_l2In.b (params 0 cs) [] (QF true [.V, .V] [.tmp 4] r)) : A 55 cs = some r := A_run T_spec_l2In h
theorem run_spec_l2Sign (h : Run G A spec_l2Sign.b (params 0 cs) [] (QF true [.V] [.tmp 2] r)) : A 56 cs = some r := A_run T_spec_l2Sign h
theorem run_spec_ReadDec (h : Run G A spec_ReadDec.b (params 0 cs) [] (QF true [.V] [.tmp 2, .tmp 3] r)) : A 57 cs = some r := A_run T_spec_ReadDec h
theorem run_spec_l1In (h : Run G A spec_l1In.b (params 0 cs) [] (QF true [.V, .V, .V] [.tmp 6] r)) : A 58 cs = some r := A_run T_spec_l1In h
theorem run_spec_l2Sym (h : Run G A spec_l2Sym.b (params 0 cs) [] (QF true [.V] [.tmp 2] r)) : A 59 cs = some r := A_run T_spec_l2Sym h
theorem run_impl_isRunByte (h : Run G A impl_isRunByte.b (params 0 cs) [] (QF true [.V] [.tmp 2] r)) : A 61 cs = some r := A_run T_impl_isRunByte h
theorem run_impl_reader_inner (h : Run G A impl_reader_inner.b (params 0 cs) [] (QF false [.M, .V] [.tmp 4] r)) : A 62 cs = some r := A_run T_impl_reader_inner h
theorem runE_impl_reader_inner {cs : List CV} {X : List CV → List CV → Prop} (h : Run G A impl_reader_inner.b (params 0 cs) [] (QE false [.M, .V] [.tmp 4] X)) : ∃ rs os, A 62 cs = some (rs, os) ∧ X rs os := A_runE T_impl_reader_inner h
theorem run_impl_reader_put (h : Run G A impl_reader_put.b (params 0 cs) [] (QF false [.M, .V] [.tmp 4] r)) : A 63 cs = some r := A_run T_impl_reader_put h
theorem run_impl_atom (h : Run G A impl_atom.b (params 0 cs) [] (QF true [.V] [.cell 2 5 true, .tmp 3] r)) : A 65 cs = some r := A_run T_impl_atom h
theorem run_spec_l2Digit (h : Run G A spec_l2Digit.b (params 0 cs) [] (QF true [.V] [.tmp 2] r)) : A 67 cs = some r := A_run T_spec_l2Digit h
theorem run_spec_Dec (h : Run G A spec_Dec.b (params 0 cs) [] (QF true [.V] [.tmp 2] r)) : A 35 cs = some r := A_run T_spec_Dec h
theorem run_impl_isSymByte (h : Run G A impl_isSymByte.b (params 0 cs) [] (QF true [.V] [.tmp 2] r)) : A 69 cs = some r := A_run T_impl_isSymByte h
theorem run_impl_inRange (h : Run G A impl_inRange.b (params 0 cs) [] (QF true [.V, .V, .V] [.tmp 6] r)) : A 37 cs = some r := A_run T_impl_inRange h
theorem run_impl_symOk (h : Run G A impl_symOk.b (params 0 cs) [] (QF true [.V] [.tmp 2] r)) : A 72 cs = some r := A_run T_impl_symOk h
theorem T_strings_IndexByte : T 60 = none := by kernel_rfl
@[simp] theorem G_60 : G 60 = some ⟨[.V, .V], true⟩ := by kernel_rfl
theorem P_strings_IndexByte (h : prim_strings_IndexByte.run cs = some r) : A 60 cs = some r := A_prim T_strings_IndexByte (by rw [← h]; rfl)
theorem T_impl_reader_list : T 64 = none := by kernel_rfl
@[simp] theorem G_64 : G 64 = some ⟨[.M, .V, .V], false⟩ := by kernel_rfl
theorem P_impl_reader_list (h : prim_impl_reader_list.run cs = some r) : A 64 cs = some r := A_prim T_impl_reader_list (by rw [← h]; rfl)
theorem T_impl_ReadDec : T 71 = none := by kernel_rfl
@[simp] theorem G_71 : G 71 = some ⟨[.V], true⟩ := by kernel_rfl
theorem P_impl_ReadDec (h : prim_impl_ReadDec.run cs = some r) : A 71 cs = some r := A_prim T_impl_ReadDec (by rw [← h]; rfl)
end Go.Proofs.YtjcjodcpiickaaaDoor.RD
