/- How a run of a unit begins in a right system: the program's and the reference's tell the same. -/
import Derived.Test.YticecjjfbjnaaaaGreatDoorSASysB
namespace Go.Proofs.YticecjjfbjnaaaaGreatDoor.SA
open Go Go.VS Go.Lib
set_option maxRecDepth 10000
set_option maxHeartbeats 8000000
set_option linter.unusedSimpArgs false
set_option linter.unusedVariables false
def machAt (u r : Int) : KMachine := ⟨1, u, r, [], ⟨0, 0, ⟨#[]⟩⟩, [], 0⟩
def machNone : KMachine := ⟨0, 0, 0, [], ⟨0, 0, ⟨#[]⟩⟩, [], 0⟩
noncomputable def startB (y : KSys) (u : Int) : Bool := within 0 ((y.units.length : Int) - 1) u && sysB y
def rootAt (y : KSys) (u : Int) : Int := match y.units[u.toNat]? with
 | some x => x.prog.root
 | none => 0
noncomputable def machB (y : KSys) (u : Int) : KMachine := if startB y u = true then machAt u (rootAt y u) else machNone
theorem machB_flat (y : KSys) (u : Int) : (machB y u).env = [] ∧ (machB y u).stack = [] ∧ (machB y u).val = ⟨0, 0, ⟨#[]⟩⟩ := by
 unfold machB
 split
 ·exact ⟨rfl, rfl, rfl⟩
 ·exact ⟨rfl, rfl, rfl⟩
theorem implStartR (y : KSys) (u : Int) (x : KUnit) (hx : y.units[u.toNat]? = some x) (h0 : 0 ≤ u) : A 102 [.box (KSys.row false y), .leaf (.int .i64 u)] = some ([.agg (KMachine.row true (machAt u x.prog.root))], [.box (KSys.row false y), .gone]) := by
 refine run_impl_Sys_start ?_
 simp (maxSteps := 1000000) (disch := omega) [ip, wr, impl_Sys_start.b, hx, at_get hx, h0, machAt]
theorem implStart (y : KSys) (u : Int) (hw : (KSys.w y : Int) ≤ 1048576) : A 45 [.agg (KSys.row false y), .leaf (.int .i64 u)] = some ([.agg (KMachine.row true (machB y u)), .leaf (.bool (startB y u))], [.gone, .gone]) := by
 have hP := implSysOk y hw
 have hR := inRange' u 0 ((y.units.length : Int) - 1)
 obtain ⟨w1, w2, w3, w4⟩ := sysw hw
 unfold machB startB
 refine run_impl_Start ?_
 cases p1 : within 0 ((y.units.length : Int) - 1) u with
 | false =>
  rw [p1] at hR
  simp (maxSteps := 1000000) (disch := omega) [ip, wr, impl_Start.b, hR, machNone]
 | true =>
  rw [p1] at hR
  cases p2 : sysB y with
  | false =>
   rw [p2] at hP
   simp (maxSteps := 1000000) (disch := omega) [ip, wr, impl_Start.b, hR, hP, machNone]
  | true =>
   rw [p2] at hP
   simp only [within, decide_eq_true_eq] at p1
   have hi : u.toNat < y.units.length := by omega
   have hx : y.units[u.toNat]? = some y.units[u.toNat] := List.getElem?_eq_getElem hi
   generalize y.units[u.toNat] = x at hx
   have h2 := implStartR y u x hx p1.1
   have hr : rootAt y u = x.prog.root := by unfold rootAt; rw [hx]
   rw [hr]
   generalize machAt u x.prog.root = m at *
   simp (maxSteps := 1000000) (disch := omega) [ip, wr, impl_Start.b, hR, hP, h2]
theorem specStart (y : KSys) (u : Int) (hw : (KSys.w y : Int) ≤ 1048576) : A 44 [.agg (KSys.row false y), .leaf (.int .i64 u)] = some ([.agg (KMachine.row true (machB y u)), .leaf (.bool (startB y u))], [.gone, .gone]) := by
 have hP := specSysOk y hw
 obtain ⟨w1, w2, w3, w4⟩ := sysw hw
 unfold machB startB
 refine run_spec_Start ?_
 cases p2 : sysB y with
 | false =>
  rw [p2] at hP
  simp only [Bool.and_false]
  simp (maxSteps := 1000000) (disch := omega) [ip, wr, spec_Start.b, hP, machNone]
 | true =>
  rw [p2] at hP
  by_cases h0 : u < 0
  ·have p1 : within 0 ((y.units.length : Int) - 1) u = false := by simp [within]; omega
   rw [p1]
   simp (maxSteps := 1000000) (disch := omega) [ip, wr, spec_Start.b, hP, h0, machNone]
  ·by_cases h1 : u < y.units.length
   ·have p1 : within 0 ((y.units.length : Int) - 1) u = true := by simp [within]; omega
    rw [p1]
    have hi : u.toNat < y.units.length := by omega
    have hx : y.units[u.toNat]? = some y.units[u.toNat] := List.getElem?_eq_getElem hi
    generalize y.units[u.toNat] = x at hx
    have hr : rootAt y u = x.prog.root := by unfold rootAt; rw [hx]
    rw [hr]
    have h0' : 0 ≤ u := by omega
    simp (maxSteps := 1000000) (disch := omega) [ip, wr, spec_Start.b, hP, h0, h0', h1, hx, at_get hx, machAt]
   ·have p1 : within 0 ((y.units.length : Int) - 1) u = false := by simp [within]; omega
    rw [p1]
    simp (maxSteps := 1000000) (disch := omega) [ip, wr, spec_Start.b, hP, h0, h1, machNone]
end Go.Proofs.YticecjjfbjnaaaaGreatDoor.SA
