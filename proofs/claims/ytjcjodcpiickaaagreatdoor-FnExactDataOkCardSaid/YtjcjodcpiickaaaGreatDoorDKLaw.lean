-- Written by a program of this session (rowe.py): the row of the law, out of its pure statement and the table.
import Derived.Test.YtjcjodcpiickaaaGreatDoorRows
import Derived.Test.YtjcjodcpiickaaaGreatDoorDKPure
import Derived.Test.YtjcjodcpiickaaaGreatDoorTie
import Derived.Test.YtjcjodcpiickaaaGreatDoorCards
import Derived.Test.YtjcjodcpiickaaaGreatDoorEngDoor
import Derived.WalkKit
import Derived.ProofKit
import Derived.OpenShut
import Derived.ShutString
import Derived.ChangeOld
import Derived.Below
import Derived.SizedLaws
import Derived.HandedShaped
import Derived.SevenTiedAt
namespace Go.Proofs.YtjcjodcpiickaaaGreatDoor.fnExactDataOk
open Go Go.VS Go.ChangeShapes Go.WideShapes Go.ChangeAt Go.RowKit
open Go.ChangeMaps (open_string shut_string)
open Go.Proofs.YtjcjodcpiickaaaGreatDoor.DK
set_option linter.unusedVariables false
theorem own : ownKnob Tryz.prog.godebug = none := by kernel_rfl
theorem laidOut : laidOutB Tryz.prog = true := by kernel_rfl
set_option maxRecDepth 100000 in
def laidList : List (String × DataW Unit) := [("math/bits.deBruijn32tab", Rows.laid_math_bits_deBruijn32tab), ("math/bits.deBruijn64tab", Rows.laid_math_bits_deBruijn64tab), ("internal/strconv.uint64pow10", Rows.laid_internal_strconv_uint64pow10), ("strconv.ErrRange", Rows.laid_strconv_ErrRange), ("strconv.ErrSyntax", Rows.laid_strconv_ErrSyntax)]
theorem door_met (os : Os) (args : Array Value) : laidMetH Tryz.prog laidList ((DoorKit.door os).forCall (fun _ _ => 0) ⟨#[], args, []⟩).memory := by
  rw [MakeChecks.laidMetH_plain _ _ _ (by kernel_rfl)]
  exact laidMet_of_run' 8 (by kernel_rfl) (by kernel_rfl)
set_option maxRecDepth 100000 in
theorem lifted (os : Os) (started : os.Started) (H : Type) (enc : TypeId × Value → H) :
    ReturnsInHanded {} Tryz.checked os 5 .any (fun w args => (Rows.fnExactDataOkSpec.pre enc Tryz.prog Tryz.f5 [] false w args ∧ laidMetH Tryz.prog laidList w) ∧ sizedMet enc Tryz.prog Tryz.f5 (OpenSpec.ofChange Rows.fnExactDataOkSpec) false w args)
      (Rows.fnExactDataOkSpec.post enc Tryz.prog Tryz.f5 false true false false) := by
  refine VS.handed_and_shaped (C := Tryz.checked) (X := fun w _ => laidMetH Tryz.prog laidList w) (fun _ _ _ hh h => h.of_heap hh) own started (by kernel_rfl) Tryz.func5
    (ChangeSpec.witness_shaped (enc := enc) (C := Tryz.checked) (os := os) (X := fun w _ => laidMetH Tryz.prog laidList w) false (DoorKit.door os) #[(.agg #[(.slice none 0 0), (.slice none 0 0)])] 8 (DoorKit.door_os os) (DoorKit.door_shaped os _) (by kernel_rfl) (by kernel_rfl) (by kernel_rfl) (door_met os _)) ?_
  intro W base args ds gs before hval0 hW hcnd hsz0 hlm hsh _
  have hsz : (DataW.weightsEach Tryz.prog (Tryz.f5.params.toList ++ Rows.fnExactDataOkSpec.plain.varTypes Tryz.prog) (ds ++ gs)).all (· ≤ reachBytes) = true := hsz0
  have hval : ∀ (j : Nat) t v, Tryz.f5.params[j]? = some t → args[j]? = some v → Value.okWide Tryz.prog W .any base t v := hval0
  have hW' := hW
  obtain ⟨p, q, hA0, hV, rfl, hfz, hnd⟩ := hW
  have hA : DataW.TrodAll enc Tryz.prog W 0 (fun _ => true) true Tryz.f5.params.toList args.toList ds p := hA0
  rw [Tryz.params5] at hA hval hsz
  obtain ⟨v0, vs0, d0, ds0, p0, q0, hargs, rfl, rfl, h0, r0⟩ := trodAll_cons hA
  obtain ⟨rfl, rfl, rfl⟩ := trodAll_nil r0
  obtain rfl : args = #[v0] := by cases args; simp_all
  obtain ⟨rfl, rfl⟩ := trodVars_none hV
  have k0_ := h0
  have lt0 : ∀ x ∈ p0, x.block < W.heap.size := by obtain ⟨m, hm⟩ := k0_; exact DataW.trod_lt m _ _ _ hm
  obtain ⟨x0, hl0, hr0, hg0⟩ := openedE (j := 0) (t := 48) opens48 hsz rfl rfl h0
  obtain ⟨cs0, hv0⟩ := okWide_aggE Tryz.underlying48 (hval 0 48 v0 rfl rfl)
  have rc0 : ∀ arg, RepC arg W (Old W) (.agg (KData.row false x0)) v0 Nobody := fun arg => repC_agg hv0 hl0 rfl hr0 arg
  first | clear hA0 hval0 hsz0 hsz | skip
  obtain ⟨outs, h⟩ := pure x0 hg0
  have hM : laidMet Tryz.prog laidList W := by rw [MakeChecks.laidMetH_plain _ _ _ (by kernel_rfl)] at hlm; exact hlm
  have hX : LaidX W := { maxLen := cell_of_shapedOpen_int (zero := #[.int .i64 0]) (t := 3) hsh (of_decide_eq_true (by kernel_rfl)) (by kernel_rfl) rfl (by kernel_rfl) (by kernel_rfl) Tryz.underlying3, esyn := DoorKit.errSyn hM.tail.tail.tail.tail, eran := DoorKit.errRan hM.tail.tail.tail, p10 := DoorKit.tab10 hM.tail.tail }
  refine (law_true (cs := [.agg (KData.row false x0)]) (us := #[v0]) (A_answers hX G_5 h) rfl (fun j c hj arg => ?_)).mono fun e W' ⟨he, bel⟩ => ?_
  · rcases j with _ | j
    · obtain rfl := Option.some.inj hj
      exact rc0 arg
    · simp at hj
  subst he
  exact ⟨_, rfl, _, _, _, [], _, [], hW', trodAll_mk1 (shut_bool Tryz.underlying4 _), (trodAll_cons_mk (Below.trod laidOut (by kernel_rfl) (of_decide_eq_true (by kernel_rfl)) k0_ bel lt0) trodAll_mk0), rfl, bel.frame _, fun h => by cases h⟩
theorem c0 : (Rows.fnExactDataOkRow.wf (OpenSpec.ofChange Rows.fnExactDataOkSpec)) = true := by kernel_rfl
theorem c1 : (laidOutB Tryz.prog) = true := by kernel_rfl
theorem c2 : (mapsRowed Tryz.prog) = true := by kernel_rfl
theorem c3 : (Tryz.f5.params.all (Tryz.prog.readableRec ·)) = true := by kernel_rfl
theorem c4 : (namedTie Tryz.prog Rows.fnExactDataOkRow.named Rows.fnExactDataOkSpec.vars) = true := by kernel_rfl
theorem c5 : ((Rows.fnExactDataOkRow.stops == [])) = true := by kernel_rfl
theorem c6 : ((Tryz.prog.stops == [])) = true := by kernel_rfl
theorem c7 : ((Rows.fnExactDataOkRow.knobs == [])) = true := by kernel_rfl
theorem c8 : ((Tryz.prog.stopKnobs == [])) = true := by kernel_rfl
theorem c9 : ((Rows.fnExactDataOkRow.inPlace == Tryz.prog.inPlace 5)) = true := by kernel_rfl
theorem c10 : ((Rows.fnExactDataOkRow.unfollowed == Tryz.prog.unfollowed 5)) = true := by kernel_rfl
theorem c11 : ((Rows.fnExactDataOkRow.recurses == Tryz.prog.recurses 5)) = true := by kernel_rfl
theorem c12 : ((Rows.fnExactDataOkRow.named == Tryz.prog.varsNamed 5)) = true := by kernel_rfl
theorem c13 : ((Rows.fnExactDataOkRow.maps == (Tryz.f5.params.toList ++ Rows.fnExactDataOkSpec.plain.varTypes Tryz.prog).any (Tryz.prog.mapsRec ·))) = true := by kernel_rfl
theorem c14 : ((Rows.fnExactDataOkRow.ifaces == (Tryz.f5.params.toList ++ Rows.fnExactDataOkSpec.plain.varTypes Tryz.prog).any (Tryz.prog.ifacesRec ·))) = true := by kernel_rfl
theorem c15 : ((Rows.fnExactDataOkRow.mapsOut == Tryz.prog.mapsAmong Tryz.f5.resultTypes.toList)) = true := by kernel_rfl
theorem c16 : ((Rows.fnExactDataOkRow.loops == (Tryz.f5.params.toList ++ Rows.fnExactDataOkSpec.plain.varTypes Tryz.prog).any (Tryz.prog.loopsFrom ·))) = true := by kernel_rfl
theorem c17 : ((Rows.fnExactDataOkRow.wideKeys == (Tryz.f5.params.toList ++ Rows.fnExactDataOkSpec.plain.varTypes Tryz.prog ++ Tryz.f5.resultTypes.toList).any (Tryz.prog.wideKeysFrom ·))) = true := by kernel_rfl
theorem c18 : (Rows.fnExactDataOkSpec.vars.all (Tryz.prog.varReadable ·)) = true := by kernel_rfl
theorem c19 : (Tryz.f5.resultTypes.all (fun t => Tryz.prog.readableRec t && decide (t < Tryz.prog.types.size))) = true := by kernel_rfl
theorem c20 : ((Rows.fnExactDataOkRow.ifacesOut == Tryz.f5.resultTypes.toList.any (Tryz.prog.ifacesRec ·))) = true := by kernel_rfl
theorem c21 : ((Rows.fnExactDataOkRow.loopsOut == Tryz.f5.resultTypes.toList.any (Tryz.prog.loopsFrom ·))) = true := by kernel_rfl
theorem c22 : ((Rows.fnExactDataOkRow.plainKeys == Tryz.prog.plainKeys)) = true := by kernel_rfl
theorem c23 : (Rows.fnExactDataOkRow.shortTexts.isNone) = true := by kernel_rfl
theorem c24 : (Tryz.prog.stopsHeard) = true := by kernel_rfl
theorem c25 : (Tryz.prog.mayEnter) = true := by kernel_rfl
theorem c26 : ((Rows.fnExactDataOkRow.lifted == Tryz.prog.liftsFinal)) = true := by kernel_rfl
theorem c27 : ((Tryz.prog.make == some Rows.fnExactDataOkRow.make)) = true := by kernel_rfl
theorem c28 : ((Rows.fnExactDataOkRow.kinds == (if Rows.fnExactDataOkRow.domain.isEmpty then [] else Tryz.f5.params.toList.map fun t => match Tryz.prog.underlying t with | some (.int k) => some k | _ => none))) = true := by kernel_rfl
theorem c29 : ((Rows.fnExactDataOkRow.pinned == Rows.fnExactDataOkRow.pinnedBy)) = true := by kernel_rfl
theorem c30 : ((Rows.fnExactDataOkRow.veiled == (Tryz.f5.params.toList ++ Rows.fnExactDataOkSpec.plain.varTypes Tryz.prog ++ Tryz.f5.resultTypes.toList).any (Tryz.prog.veiledRec ·))) = true := by kernel_rfl
theorem c31 : (Rows.fnExactDataOkRow.veiledFits Tryz.prog Tryz.f5.params.toList (Tryz.f5.params.toList ++ Rows.fnExactDataOkSpec.plain.varTypes Tryz.prog ++ Tryz.f5.resultTypes.toList)) = true := by kernel_rfl
theorem closed : joinedFacts Tryz.prog 5 Tryz.f5 Rows.fnExactDataOkSpec Rows.fnExactDataOkRow = true := by
  unfold joinedFacts
  simp only [c0, c1, c2, c3, c4, c5, c6, c7, c8, c9, c10, c11, c12, c13, c14, c15, c16, c17, c18, c19, c20, c21, c22, c23, c24, c25, c26, c27, c29, c30, c31, Bool.true_and, Bool.and_true]
  kernel_rfl
theorem over : Rows.fnExactDataOkRow.holds Tryz.pinned (OpenSpec.ofChange Rows.fnExactDataOkSpec) :=
  OpenClaim.holds_of_wide 5 Tryz.f5 rfl rfl rfl rfl rfl rfl rfl ⟨rfl, rfl, rfl, rfl, rfl⟩ rfl rfl rfl rfl rfl (by kernel_rfl) Tryz.func5 closed
    (of_decide_eq_true (by kernel_rfl)) (by unfold Func.isWrapper; first | (rw [if_pos (by decide +kernel)]; kernel_rfl) | (rw [if_neg (by decide +kernel)]; exact ⟨rfl, rfl⟩))
    (fun os started H enc _ => lifted os started H enc)
theorem w0 : Rows.fnExactDataOkRow.wfByText (OpenSpec.ofChange Rows.fnExactDataOkSpec) = true := by kernel_rfl
theorem w1 : Tryz.pinned.checked.prog.mainIs = some (true, "68355060baeae7abc8cc64612cc3a03470a91bd7c9257a802ff07634442c83cd".toList) := by kernel_rfl
theorem w2 : Tryz.prog.funcNamed "loop.example/g00765/laws.FnExactDataOk" = some 5 := by kernel_rfl
theorem w3 : true = Tryz.pinned.checked.prog.looks [] := by kernel_rfl
theorem w4 : ([48].all fun u => !Tryz.prog.wantsStandIn u) = true := by kernel_rfl
theorem w5 : false = Rows.fnExactDataOkRow.goesBy Tryz.pinned.checked.prog := by kernel_rfl
theorem proved : Rows.FnExactDataOkCardSaid :=
  Claim7.holds_tied_plain_at .later [] [.data, .data, .data, .sentinel, .sentinel] true (true, "68355060baeae7abc8cc64612cc3a03470a91bd7c9257a802ff07634442c83cd") true
    over (fun _ h => by cases h) w0 (fun _ h => by cases h) fnExactDataOk_row_tie rfl ⟨rfl, rfl⟩ w1 rfl
    (fun f fn hf hfn => by
      obtain rfl : f = 5 := Option.some.inj ((show Tryz.prog.funcNamed "loop.example/g00765/laws.FnExactDataOk" = some 5 from w2).symm.trans hf) |>.symm
      obtain rfl : fn = Tryz.f5 := (Option.some.inj (Tryz.func5.symm.trans hfn)).symm
      exact ⟨w3, fun j t ht => by
        rw [Tryz.params5] at ht
        have hm : t ∈ [48] := by simpa using Array.mem_of_getElem? ht
        have hall : ([48].all fun u => !Tryz.prog.wantsStandIn u) = true := w4
        exact (show Tryz.prog.wantsStandIn t = false by simpa using List.all_eq_true.1 hall t hm)⟩)
    w5
#print axioms proved
end Go.Proofs.YtjcjodcpiickaaaGreatDoor.fnExactDataOk
namespace Go.Proofs.YtjcjodcpiickaaaGreatDoor
/-- The row, under a short name, for the claim. -/
theorem fnExactDataOk_holds : Rows.FnExactDataOkCardSaid := fnExactDataOk.proved
end Go.Proofs.YtjcjodcpiickaaaGreatDoor
