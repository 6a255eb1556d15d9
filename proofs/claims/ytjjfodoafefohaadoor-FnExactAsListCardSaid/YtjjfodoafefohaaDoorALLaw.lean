-- Written by a program of this session (rowe.py): the row of the law, out of its pure statement and the table.
import Derived.Test.YtjjfodoafefohaaDoorRows
import Derived.Test.YtjjfodoafefohaaDoorALPure
import Derived.Test.YtjjfodoafefohaaDoorTie
import Derived.Test.YtjjfodoafefohaaDoorCards
import Derived.Test.YtjjfodoafefohaaDoorEngDoor
import Derived.WalkKit
import Derived.ProofKit
import Derived.OpenShut
import Derived.ShutString
import Derived.ChangeOld
import Derived.Below
import Derived.SizedLaws
import Derived.HandedShaped
import Derived.SevenTiedAt
namespace Go.Proofs.YtjjfodoafefohaaDoor.fnExactAsList
open Go Go.VS Go.ChangeShapes Go.WideShapes Go.ChangeAt Go.RowKit
open Go.ChangeMaps (open_string shut_string)
open Go.Proofs.YtjjfodoafefohaaDoor.AL
set_option linter.unusedVariables false
theorem own : ownKnob Tryd.prog.godebug = none := by kernel_rfl
theorem laidOut : laidOutB Tryd.prog = true := by kernel_rfl
set_option maxRecDepth 100000 in
def laidList : List (String × DataW Unit) := [("math/bits.deBruijn32tab", Rows.laid_math_bits_deBruijn32tab), ("math/bits.deBruijn64tab", Rows.laid_math_bits_deBruijn64tab), ("internal/strconv.uint64pow10", Rows.laid_internal_strconv_uint64pow10), ("strconv.ErrRange", Rows.laid_strconv_ErrRange), ("strconv.ErrSyntax", Rows.laid_strconv_ErrSyntax)]
theorem door_met (os : Os) (args : Array Value) : laidMetH Tryd.prog laidList ((DoorKit.door os).forCall (fun _ _ => 0) ⟨#[], args, []⟩).memory := by
  rw [MakeChecks.laidMetH_plain _ _ _ (by kernel_rfl)]
  exact laidMet_of_run' 8 (by kernel_rfl) (by kernel_rfl)
set_option maxRecDepth 100000 in
theorem lifted (os : Os) (started : os.Started) (H : Type) (enc : TypeId × Value → H) :
    ReturnsInHanded {} Tryd.checked os 3 .any (fun w args => (Rows.fnExactAsListSpec.pre enc Tryd.prog Tryd.f3 [] false w args ∧ laidMetH Tryd.prog laidList w) ∧ sizedMet enc Tryd.prog Tryd.f3 (OpenSpec.ofChange Rows.fnExactAsListSpec) false w args)
      (Rows.fnExactAsListSpec.post enc Tryd.prog Tryd.f3 false true false false) := by
  refine VS.handed_and_shaped (C := Tryd.checked) (X := fun w _ => laidMetH Tryd.prog laidList w) (fun _ _ _ hh h => h.of_heap hh) own started (by kernel_rfl) Tryd.func3
    (ChangeSpec.witness_shaped (enc := enc) (C := Tryd.checked) (os := os) (X := fun w _ => laidMetH Tryd.prog laidList w) false (DoorKit.door os) #[.slice none 0 0, (.agg #[(.int .i64 0), (.int .i64 0), (.string ByteArray.empty)])] 8 (DoorKit.door_os os) (DoorKit.door_shaped os _) (by kernel_rfl) (by kernel_rfl) (by kernel_rfl) (door_met os _)) ?_
  intro W base args ds gs before hval0 hW hcnd hsz0 hlm hsh _
  have hsz : (DataW.weightsEach Tryd.prog (Tryd.f3.params.toList ++ Rows.fnExactAsListSpec.plain.varTypes Tryd.prog) (ds ++ gs)).all (· ≤ reachBytes) = true := hsz0
  have hval : ∀ (j : Nat) t v, Tryd.f3.params[j]? = some t → args[j]? = some v → Value.okWide Tryd.prog W .any base t v := hval0
  have hW' := hW
  obtain ⟨p, q, hA0, hV, rfl, hfz, hnd⟩ := hW
  have hA : DataW.TrodAll enc Tryd.prog W 0 (fun _ => true) true Tryd.f3.params.toList args.toList ds p := hA0
  rw [Tryd.params3] at hA hval hsz
  obtain ⟨v0, vs0, d0, ds0, p0, q0, hargs, rfl, rfl, h0, r0⟩ := trodAll_cons hA
  obtain ⟨v1, vs1, d1, ds1, p1, q1, rfl, rfl, rfl, h1, r1⟩ := trodAll_cons r0
  obtain ⟨rfl, rfl, rfl⟩ := trodAll_nil r1
  obtain rfl : args = #[v0, v1] := by cases args; simp_all
  obtain ⟨rfl, rfl⟩ := trodVars_none hV
  have k0_ := h0
  have lt0 : ∀ x ∈ p0, x.block < W.heap.size := by obtain ⟨m, hm⟩ := k0_; exact DataW.trod_lt m _ _ _ hm
  obtain ⟨x0, hl0, hr0, hg0⟩ := openedE (j := 0) (t := 22) opens22 hsz rfl rfl h0
  obtain ⟨a0, len0, cap0, hv0⟩ := okWide_slice Tryd.underlying22 (hval 0 22 v0 rfl rfl)
  have rc0 : ∀ arg, RepC arg W (Old W) (.leaf (.sl false 6 (x0.map (KCell.row false)))) v0 Nobody := fun arg => repC_leaf (by rw [hv0]; rfl) hr0 arg
  have k1_ := h1
  have lt1 : ∀ x ∈ p1, x.block < W.heap.size := by obtain ⟨m, hm⟩ := k1_; exact DataW.trod_lt m _ _ _ hm
  obtain ⟨x1, hl1, hr1, hg1⟩ := openedE (j := 1) (t := 24) opens24 hsz rfl rfl h1
  obtain ⟨cs1, hv1⟩ := okWide_aggE Tryd.underlying24 (hval 1 24 v1 rfl rfl)
  have rc1 : ∀ arg, RepC arg W (Old W) (.agg (KValue.row false x1)) v1 Nobody := fun arg => repC_agg hv1 hl1 rfl hr1 arg
  first | clear hA0 hval0 hsz0 hsz | skip
  obtain ⟨outs, h⟩ := pure x0 x1 hg0 hg1
  have hM : laidMet Tryd.prog laidList W := by rw [MakeChecks.laidMetH_plain _ _ _ (by kernel_rfl)] at hlm; exact hlm
  have hX : LaidX W := { maxLen := cell_of_shapedOpen_int (zero := #[.int .i64 0]) (t := 3) hsh (of_decide_eq_true (by kernel_rfl)) (by kernel_rfl) rfl (by kernel_rfl) (by kernel_rfl) Tryd.underlying3, esyn := DoorKit.errSyn hM.tail.tail.tail.tail, eran := DoorKit.errRan hM.tail.tail.tail, p10 := DoorKit.tab10 hM.tail.tail }
  refine (law_true (cs := [.leaf (.sl false 6 (x0.map (KCell.row false))), .agg (KValue.row false x1)]) (us := #[v0, v1]) (A_answers hX G_3 h) rfl (fun j c hj arg => ?_)).mono fun e W' ⟨he, bel⟩ => ?_
  · rcases j with _ | _ | j
    · obtain rfl := Option.some.inj hj
      exact rc0 arg
    · obtain rfl := Option.some.inj hj
      exact rc1 arg
    · simp at hj
  subst he
  exact ⟨_, rfl, _, _, _, [], _, [], hW', trodAll_mk1 (shut_bool Tryd.underlying4 _), (trodAll_cons_mk (Below.trod laidOut (by kernel_rfl) (of_decide_eq_true (by kernel_rfl)) k0_ bel lt0) (trodAll_cons_mk (Below.trod laidOut (by kernel_rfl) (of_decide_eq_true (by kernel_rfl)) k1_ bel lt1) trodAll_mk0)), rfl, bel.frame _, fun h => by cases h⟩
theorem over : Rows.fnExactAsListRow.holds Tryd.pinned (OpenSpec.ofChange Rows.fnExactAsListSpec) :=
  OpenClaim.holds_of_wide 3 Tryd.f3 rfl rfl rfl rfl rfl rfl rfl ⟨rfl, rfl, rfl, rfl, rfl⟩ rfl rfl rfl rfl rfl (by kernel_rfl) Tryd.func3 (by kernel_rfl)
    (of_decide_eq_true (by kernel_rfl)) (by unfold Func.isWrapper; first | (rw [if_pos (by decide +kernel)]; kernel_rfl) | (rw [if_neg (by decide +kernel)]; exact ⟨rfl, rfl⟩))
    (fun os started H enc _ => lifted os started H enc)
theorem proved : Rows.FnExactAsListCardSaid :=
  Claim7.holds_tied_plain_at .later [] [.data, .data, .data, .sentinel, .sentinel] true (true, "ccf5e76f4ff92a7f2bcfda38a3e3ab989d5153619878e205284f085f2e13dbf6") true
    over (fun _ h => by cases h) (by kernel_rfl) (fun _ h => by cases h) fnExactAsList_row_tie rfl ⟨rfl, rfl⟩ (by kernel_rfl) rfl
    (fun f fn hf hfn => by
      obtain rfl : f = 3 := Option.some.inj ((show Tryd.prog.funcNamed "loop.example/g00765/laws.FnExactAsList" = some 3 by kernel_rfl).symm.trans hf) |>.symm
      obtain rfl : fn = Tryd.f3 := (Option.some.inj (Tryd.func3.symm.trans hfn)).symm
      exact ⟨by kernel_rfl, fun j t ht => by
        rw [Tryd.params3] at ht
        have hm : t ∈ [22, 24] := by simpa using Array.mem_of_getElem? ht
        have hall : ([22, 24].all fun u => !Tryd.prog.wantsStandIn u) = true := by kernel_rfl
        exact (show Tryd.prog.wantsStandIn t = false by simpa using List.all_eq_true.1 hall t hm)⟩)
    (by kernel_rfl)
#print axioms proved
end Go.Proofs.YtjjfodoafefohaaDoor.fnExactAsList
namespace Go.Proofs.YtjjfodoafefohaaDoor
/-- The row, under a short name, for the claim. -/
theorem fnExactAsList_holds : Rows.FnExactAsListCardSaid := fnExactAsList.proved
end Go.Proofs.YtjjfodoafefohaaDoor
