-- Written by a program of this session (row.py): the row of the law, out of its pure statement and the walk.
import Derived.Test.YtgfejfeafppagaaDoorRows
import Derived.Test.YtgfejfeafppagaaDoorPFnExactValueOkq
import Derived.Test.YtgfejfeafppagaaDoorPureFnExactValueOk
import Derived.Test.YtgfejfeafppagaaDoorTie
import Derived.Test.YtgfejfeafppagaaDoorCards
import Derived.Test.YtgfejfeafppagaaDoorDoorKit
import Derived.WalkKit
import Derived.ProofKit
import Derived.OpenShut
import Derived.ShutString
import Derived.ChangeOld
import Derived.Below
import Derived.SizedLaws
import Derived.HandedShaped
import Derived.SevenTiedAt
namespace Go.Proofs.YtgfejfeafppagaaDoor.fnExactValueOk
open Go.ChangeShapes Go.WideShapes Go.ChangeAt Go.RowKit Go.Proofs.YtgfejfeafppagaaDoorW.PrintWords
open Go.ChangeMaps (open_string shut_string)
open Go.Proofs.YtgfejfeafppagaaDoor.PFnExactValueOk
set_option linter.unusedVariables false
theorem own : ownKnob Tryd.prog.godebug = none := by kernel_rfl
theorem laidOut : laidOutB Tryd.prog = true := by kernel_rfl
set_option maxRecDepth 100000 in
def laidList : List (String × DataW Unit) := [("math/bits.deBruijn32tab", Rows.laid_math_bits_deBruijn32tab), ("math/bits.deBruijn64tab", Rows.laid_math_bits_deBruijn64tab), ("internal/strconv.uint64pow10", Rows.laid_internal_strconv_uint64pow10), ("strconv.ErrRange", Rows.laid_strconv_ErrRange), ("strconv.ErrSyntax", Rows.laid_strconv_ErrSyntax)]
theorem door_met (os : Os) (args : Array Value) : laidMetH Tryd.prog laidList ((DoorKit.door os).forCall (fun _ _ => 0) ⟨#[], args, []⟩).memory := by
  rw [MakeChecks.laidMetH_plain _ _ _ (by kernel_rfl)]
  exact laidMet_of_run' 8 (by kernel_rfl) (by kernel_rfl)
set_option maxRecDepth 100000 in
theorem lifted (os : Os) (started : os.Started) (H : Type) (enc : TypeId × Value → H) :
    ReturnsInHanded {} Tryd.checked os 6 .any (fun w args => (Rows.fnExactValueOkSpec.pre enc Tryd.prog Tryd.f6 [] false w args ∧ laidMetH Tryd.prog laidList w) ∧ sizedMet enc Tryd.prog Tryd.f6 (OpenSpec.ofChange Rows.fnExactValueOkSpec) false w args)
      (Rows.fnExactValueOkSpec.post enc Tryd.prog Tryd.f6 false true false false) := by
  refine Opens.handed_and_shaped (C := Tryd.checked) (X := fun w _ => laidMetH Tryd.prog laidList w) (fun _ _ _ hh h => h.of_heap hh) own started (by kernel_rfl) Tryd.func6
    (ChangeSpec.witness_shaped (enc := enc) (C := Tryd.checked) (os := os) (X := fun w _ => laidMetH Tryd.prog laidList w) false (DoorKit.door os) #[.slice none 0 0, (.agg #[(.int .i64 0), (.int .i64 0), (.string ⟨#[]⟩)])] 8 (DoorKit.door_os os) (DoorKit.door_shaped os _) (by kernel_rfl) (by kernel_rfl) (by kernel_rfl) (door_met os _)) ?_
  intro W base args ds gs before hval0 hW hcnd hsz0 hlm hsh _
  have hsz : (DataW.weightsEach Tryd.prog (Tryd.f6.params.toList ++ Rows.fnExactValueOkSpec.plain.varTypes Tryd.prog) (ds ++ gs)).all (· ≤ reachBytes) = true := hsz0
  have hval : ∀ (j : Nat) t v, Tryd.f6.params[j]? = some t → args[j]? = some v → Value.okWide Tryd.prog W .any base t v := hval0
  have hW' := hW
  obtain ⟨p, q, hA0, hV, rfl, hfz, hnd⟩ := hW
  have hA : DataW.TrodAll enc Tryd.prog W 0 (fun _ => true) true Tryd.f6.params.toList args.toList ds p := hA0
  rw [Tryd.params6] at hA hval hsz
  obtain ⟨v0, vs0, d0, ds0, p0, q0, hargs, rfl, rfl, h0, r0⟩ := trodAll_cons hA
  obtain ⟨v1, vs1, d1, ds1, p1, q1, rfl, rfl, rfl, h1, r1⟩ := trodAll_cons r0
  obtain ⟨rfl, rfl, rfl⟩ := trodAll_nil r1
  obtain rfl : args = #[v0, v1] := by cases args; simp_all
  obtain ⟨rfl, rfl⟩ := trodVars_none hV
  have k0_ := h0
  have lt0 : ∀ x ∈ p0, x.block < W.heap.size := by obtain ⟨m, hm⟩ := k0_; exact DataW.trod_lt m _ _ _ hm
  obtain ⟨x0, hk0, hg0⟩ := Opens.opened (j := 0) (t := 37) (Opens.opens_slice Tryd.underlying37 opens96 (by kernel_rfl) (by kernel_rfl)) hsz rfl rfl h0
  obtain ⟨a0, len0, cap0, rfl⟩ := okWide_slice Tryd.underlying37 (hval 0 37 v0 rfl rfl)
  obtain ⟨A0, c0, e0, hc0_, hr0_⟩ := hk0
  obtain ⟨rfl, rfl, rfl⟩ : a0 = A0 ∧ len0 = x0.length ∧ cap0 = c0 := by simpa [Value.cells] using e0
  have k1_ := h1
  have lt1 : ∀ x ∈ p1, x.block < W.heap.size := by obtain ⟨m, hm⟩ := k1_; exact DataW.trod_lt m _ _ _ hm
  obtain ⟨x1, hk1, hg1⟩ := Opens.opened (j := 1) (t := 39) opens39 hsz rfl rfl h1
  have e1 := k39_open hk1
  obtain ⟨cs1, rfl⟩ := Opens.okWide_agg Tryd.underlying39 (hval 1 39 v1 rfl rfl)
  obtain rfl : cs1 = #[.int .i64 x1.f0, .int .i64 x1.f1, .string x1.f2] := by apply Array.ext'; exact e1
  first | clear hA0 hval0 hsz0 hsz | skip
  obtain ⟨k, h⟩ := Pure.FnExactValueOk x0 x1 hg0 hg1
  have hM : laidMet Tryd.prog laidList W := by rw [MakeChecks.laidMetH_plain _ _ _ (by kernel_rfl)] at hlm; exact hlm
  have hL : Laid W := { maxLen := Tryd.laysM144.s1_3 W hsh, esyn := DoorKit.errSyn hM.tail.tail.tail.tail, eran := DoorKit.errRan hM.tail.tail.tail, p10 := DoorKit.tab10 hM.tail.tail }
  refine (laws_FnExactValueOk.calls (w := W) (hr0 := hr0_) (hc0 := hc0_) (hL := hL) (h := h)).mono fun e W' ⟨he, bel0⟩ => ?_
  have bel : Below W.heap.size W W' := bel0
  subst he
  exact ⟨_, rfl, _, _, _, [], _, [], hW', trodAll_mk1 (shut_bool Tryd.underlying4 _), (trodAll_cons_mk (Below.trod laidOut (by kernel_rfl) (of_decide_eq_true (by kernel_rfl)) k0_ bel lt0) (trodAll_cons_mk (Below.trod laidOut (by kernel_rfl) (of_decide_eq_true (by kernel_rfl)) k1_ bel lt1) trodAll_mk0)), rfl, bel.frame _, fun h => by cases h⟩
theorem over : Rows.fnExactValueOkRow.holds Tryd.pinned (OpenSpec.ofChange Rows.fnExactValueOkSpec) :=
  OpenClaim.holds_of_wide 6 Tryd.f6 rfl rfl rfl rfl rfl rfl rfl ⟨rfl, rfl, rfl, rfl, rfl⟩ rfl rfl rfl rfl rfl (by kernel_rfl) Tryd.func6 (by kernel_rfl)
    (of_decide_eq_true (by kernel_rfl)) (by unfold Func.isWrapper; first | (rw [if_pos (by decide +kernel)]; kernel_rfl) | (rw [if_neg (by decide +kernel)]; exact ⟨rfl, rfl⟩))
    (fun os started H enc _ => lifted os started H enc)
theorem proved : Rows.FnExactValueOkCardSaid :=
  Claim7.holds_tied_plain_at .later [] [.data, .data, .data, .sentinel, .sentinel] true (true, "4c84dbd909436180359cd9efea79f8b9b96511b745453ae58d61f88f4b63b277") true
    over (fun _ h => by cases h) (by kernel_rfl) (fun _ h => by cases h) fnExactValueOk_row_tie rfl ⟨rfl, rfl⟩ (by kernel_rfl) rfl
    (fun f fn hf hfn => by
      obtain rfl : f = 6 := Option.some.inj ((show Tryd.prog.funcNamed "loop.example/g00765/laws.FnExactValueOk" = some 6 by kernel_rfl).symm.trans hf) |>.symm
      obtain rfl : fn = Tryd.f6 := (Option.some.inj (Tryd.func6.symm.trans hfn)).symm
      exact ⟨by kernel_rfl, fun j t ht => by
        rw [Tryd.params6] at ht
        have hm : t ∈ [37, 39] := by simpa using Array.mem_of_getElem? ht
        have hall : ([37, 39].all fun u => !Tryd.prog.wantsStandIn u) = true := by kernel_rfl
        exact (show Tryd.prog.wantsStandIn t = false by simpa using List.all_eq_true.1 hall t hm)⟩)
    (by kernel_rfl)
#print axioms proved
end Go.Proofs.YtgfejfeafppagaaDoor.fnExactValueOk
namespace Go.Proofs.YtgfejfeafppagaaDoor
/-- The row, under a short name, for the claim. -/
theorem fnExactValueOk_holds : Rows.FnExactValueOkCardSaid := fnExactValueOk.proved
end Go.Proofs.YtgfejfeafppagaaDoor
