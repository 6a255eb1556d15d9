-- Written by a program of this session (rowe.py): the row of the law, out of its pure statement and the table.
import Derived.Test.YtjcjodcpiickaaaDoorRows
import Derived.Test.YtjcjodcpiickaaaDoorSHPure
import Derived.Test.YtjcjodcpiickaaaDoorTie
import Derived.Test.YtjcjodcpiickaaaDoorCards
import Derived.Test.YtjcjodcpiickaaaDoorEngDoorV
import Derived.WalkKit
import Derived.ProofKit
import Derived.OpenShut
import Derived.ShutString
import Derived.ChangeOld
import Derived.Below
import Derived.SizedLaws
import Derived.HandedShaped
import Derived.SevenTiedAt
namespace Go.Proofs.YtjcjodcpiickaaaDoor.fnExactShow
open Go Go.VS Go.ChangeShapes Go.WideShapes Go.ChangeAt Go.RowKit
open Go.ChangeMaps (open_string shut_string)
open Go.Proofs.YtjcjodcpiickaaaDoor.SH
set_option linter.unusedVariables false
theorem own : ownKnob Tryd.prog.godebug = none := by kernel_rfl
theorem laidOut : laidOutB Tryd.prog = true := by kernel_rfl
set_option maxRecDepth 100000 in
def laidList : List (String × DataW Unit) := [("math/bits.deBruijn32tab", Rows.laid_math_bits_deBruijn32tab), ("math/bits.deBruijn64tab", Rows.laid_math_bits_deBruijn64tab), ("internal/strconv.uint64pow10", Rows.laid_internal_strconv_uint64pow10)]
theorem door_met (os : Os) (args : Array Value) : laidMetH Tryd.prog laidList ((DoorKit.door os).forCall (fun _ _ => 0) ⟨#[], args, []⟩).memory := by
  rw [MakeChecks.laidMetH_plain _ _ _ (by kernel_rfl)]
  exact laidMet_of_run' 8 (by kernel_rfl) (by kernel_rfl)
set_option maxRecDepth 100000 in
theorem lifted (os : Os) (started : os.Started) (H : Type) (enc : TypeId × Value → H) :
    ReturnsInHanded {} Tryd.checked os 3 .any (fun w args => (Rows.fnExactShowSpec.pre enc Tryd.prog Tryd.f3 [] false w args ∧ laidMetH Tryd.prog laidList w) ∧ sizedMet enc Tryd.prog Tryd.f3 (OpenSpec.ofChange Rows.fnExactShowSpec) false w args)
      (Rows.fnExactShowSpec.post enc Tryd.prog Tryd.f3 false true false false) := by
  refine VS.handed_and_shaped (C := Tryd.checked) (X := fun w _ => laidMetH Tryd.prog laidList w) (fun _ _ _ hh h => h.of_heap hh) own started (by kernel_rfl) Tryd.func3
    (ChangeSpec.witness_shaped (enc := enc) (C := Tryd.checked) (os := os) (X := fun w _ => laidMetH Tryd.prog laidList w) false (DoorKit.door os) #[(.agg #[(.slice none 0 0), (.slice none 0 0)])] 8 (DoorKit.door_os os) (DoorKit.door_shaped os _) (by kernel_rfl) (by kernel_rfl) (by kernel_rfl) (door_met os _)) ?_
  intro W base args ds gs before hval0 hW hcnd hsz0 hlm hsh _
  have hsz : (DataW.weightsEach Tryd.prog (Tryd.f3.params.toList ++ Rows.fnExactShowSpec.plain.varTypes Tryd.prog) (ds ++ gs)).all (· ≤ reachBytes) = true := hsz0
  have hval : ∀ (j : Nat) t v, Tryd.f3.params[j]? = some t → args[j]? = some v → Value.okWide Tryd.prog W .any base t v := hval0
  have hW' := hW
  obtain ⟨p, q, hA0, hV, rfl, hfz, hnd⟩ := hW
  have hA : DataW.TrodAll enc Tryd.prog W 0 (fun _ => true) true Tryd.f3.params.toList args.toList ds p := hA0
  rw [Tryd.params3] at hA hval hsz
  obtain ⟨v0, vs0, d0, ds0, p0, q0, hargs, rfl, rfl, h0, r0⟩ := trodAll_cons hA
  obtain ⟨rfl, rfl, rfl⟩ := trodAll_nil r0
  obtain rfl : args = #[v0] := by cases args; simp_all
  obtain ⟨rfl, rfl⟩ := trodVars_none hV
  have k0_ := h0
  have lt0 : ∀ x ∈ p0, x.block < W.heap.size := by obtain ⟨m, hm⟩ := k0_; exact DataW.trod_lt m _ _ _ hm
  obtain ⟨x0, hl0, hr0, hg0⟩ := openedE (j := 0) (t := 25) opens25 hsz rfl rfl h0
  obtain ⟨cs0, hv0⟩ := okWide_aggE Tryd.underlying25 (hval 0 25 v0 rfl rfl)
  have rc0 : ∀ arg, RepC arg W (Old W) (.agg (KData.row false x0)) v0 Nobody := fun arg => repC_agg hv0 hl0 rfl hr0 arg
  first | clear hA0 hval0 hsz0 hsz | skip
  obtain ⟨outs, h⟩ := pure x0 hg0
  have hM : laidMet Tryd.prog laidList W := by rw [MakeChecks.laidMetH_plain _ _ _ (by kernel_rfl)] at hlm; exact hlm
  have hX : LaidX W := { maxLen := cell_of_shapedOpen_int (zero := #[.int .i64 0]) (t := 3) hsh (of_decide_eq_true (by kernel_rfl)) (by kernel_rfl) rfl (by kernel_rfl) (by kernel_rfl) Tryd.underlying3, p10 := DoorKit.tab10 hM.tail.tail }
  refine (law_true (cs := [.agg (KData.row false x0)]) (us := #[v0]) (A_answers hX G_3 h) rfl (fun j c hj arg => ?_)).mono fun e W' ⟨he, bel⟩ => ?_
  · rcases j with _ | j
    · obtain rfl := Option.some.inj hj
      exact rc0 arg
    · simp at hj
  subst he
  exact ⟨_, rfl, _, _, _, [], _, [], hW', trodAll_mk1 (shut_bool Tryd.underlying4 _), (trodAll_cons_mk (Below.trod laidOut (by kernel_rfl) (of_decide_eq_true (by kernel_rfl)) k0_ bel lt0) trodAll_mk0), rfl, bel.frame _, fun h => by cases h⟩
theorem over : Rows.fnExactShowRow.holds Tryd.pinned (OpenSpec.ofChange Rows.fnExactShowSpec) :=
  OpenClaim.holds_of_wide 3 Tryd.f3 rfl rfl rfl rfl rfl rfl rfl ⟨rfl, rfl, rfl, rfl, rfl⟩ rfl rfl rfl rfl rfl (by kernel_rfl) Tryd.func3 (by kernel_rfl)
    (of_decide_eq_true (by kernel_rfl)) (by unfold Func.isWrapper; first | (rw [if_pos (by decide +kernel)]; kernel_rfl) | (rw [if_neg (by decide +kernel)]; exact ⟨rfl, rfl⟩))
    (fun os started H enc _ => lifted os started H enc)
theorem proved : Rows.FnExactShowCardSaid :=
  Claim7.holds_tied_plain_at .later [] [.data, .data, .data] true (true, "3eb2acbc45738f4ae59066b8525d9d0ba14a1047a89fabf3d1de50ebe58647b9") true
    over (fun _ h => by cases h) (by kernel_rfl) (fun _ h => by cases h) fnExactShow_row_tie rfl ⟨rfl, rfl⟩ (by kernel_rfl) rfl
    (fun f fn hf hfn => by
      obtain rfl : f = 3 := Option.some.inj ((show Tryd.prog.funcNamed "loop.example/g00765/laws.FnExactShow" = some 3 by kernel_rfl).symm.trans hf) |>.symm
      obtain rfl : fn = Tryd.f3 := (Option.some.inj (Tryd.func3.symm.trans hfn)).symm
      exact ⟨by kernel_rfl, fun j t ht => by
        rw [Tryd.params3] at ht
        have hm : t ∈ [25] := by simpa using Array.mem_of_getElem? ht
        have hall : ([25].all fun u => !Tryd.prog.wantsStandIn u) = true := by kernel_rfl
        exact (show Tryd.prog.wantsStandIn t = false by simpa using List.all_eq_true.1 hall t hm)⟩)
    (by kernel_rfl)
#print axioms proved
end Go.Proofs.YtjcjodcpiickaaaDoor.fnExactShow
namespace Go.Proofs.YtjcjodcpiickaaaDoor
/-- The row, under a short name, for the claim. -/
theorem fnExactShow_holds : Rows.FnExactShowCardSaid := fnExactShow.proved
end Go.Proofs.YtjcjodcpiickaaaDoor
