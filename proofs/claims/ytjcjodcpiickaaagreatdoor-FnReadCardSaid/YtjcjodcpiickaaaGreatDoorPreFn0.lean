/- Functions of the program, turned (printed by a program of this session). -/
import Derived.Test.YtjcjodcpiickaaaGreatDoorEngM6
import Derived.Test.YtjcjodcpiickaaaGreatDoorProg
namespace Go.Proofs.YtjcjodcpiickaaaGreatDoor.Pre
open Go Go.VS
set_option maxRecDepth 100000
set_option linter.unusedVariables false
set_option linter.unusedSimpArgs false
@[reducible] def uo (o : VOp) : GOp := ⟨none, o⟩
@[reducible] def ut (t : Tmp) (o : VOp) : GOp := ⟨some (t, true), o⟩
@[reducible] def uf (t : Tmp) (o : VOp) : GOp := ⟨some (t, false), o⟩
@[reducible] def ci (n : Int) : X := .c (.leaf (.int .i64 n))
@[reducible] def cf : X := .c (.leaf (.bool false))
@[reducible] def ct : X := .c (.leaf (.bool true))
def strings_TrimPrefix.b : VC := .seq (.region [uo (.asg 4 (.c (.leaf (.str ⟨#[]⟩))))] [0, 1])
  (.seq (.region [uo (.mv 5 (.t 0)), uo (.mv 6 (.t 1)), uo (.call 7 272 [.t 5, .t 6]), uo (.asg 4 (.t 7))] [4])
  .ret)
def strings_TrimPrefix : VFn := ⟨⟨[.V, .V], true⟩, strings_TrimPrefix.b, [.tmp 4]⟩
theorem strings_TrimPrefix.turned : compFn Tryz.prog ⟨[.V, .V], true⟩ strings_TrimPrefix.body Tryz.f254 = some strings_TrimPrefix := by kernel_rfl
def impl_inRange.b : VC := .seq (.region [uo (.asg 6 cf)] [0, 1, 2])
  (.seq (.region [uo (.mv 7 (.t 0)), uo (.mv 8 (.t 1)), uo (.bin 9 .geq (.t 7) (.t 8)), uo (.mv 10 (.t 9)), ut 10 (.mv 11 (.t 0)), ut 10 (.mv 12 (.t 2)), ut 10 (.bin 13 .leq (.t 11) (.t 12)), uo (.pick 14 (.t 10) (.t 13) cf), uo (.asg 6 (.t 14))] [6])
  .ret)
def impl_inRange : VFn := ⟨⟨[.V, .V, .V], true⟩, impl_inRange.b, [.tmp 6]⟩
theorem impl_inRange.turned : compFn Tryz.prog ⟨[.V, .V, .V], true⟩ impl_inRange.body Tryz.f99 = some impl_inRange := by kernel_rfl
def impl_Dec.b : VC := .seq (.region [uo (.asg 2 (.c (.leaf (.str ⟨#[]⟩))))] [0])
  (.seq (.region [uo (.mv 3 (.t 0)), uo (.call 4 218 [.t 3]), uo (.asg 2 (.t 4))] [2])
  .ret)
def impl_Dec : VFn := ⟨⟨[.V], true⟩, impl_Dec.b, [.tmp 2]⟩
theorem impl_Dec.turned : compFn Tryz.prog ⟨[.V], true⟩ impl_Dec.body Tryz.f158 = some impl_Dec := by kernel_rfl
def i_stringslite_TrimPrefix.b : VC := .seq (.region [uo (.asg 4 (.c (.leaf (.str ⟨#[]⟩))))] [0, 1])
  (.seq (.seq (.region [uo (.mv 5 (.t 0)), uo (.mv 6 (.t 1)), uo (.call 7 287 [.t 5, .t 6])] [0, 1, 7])
  (.cond (.t 7) (.seq (.region [uo (.mv 8 (.t 0)), uo (.mv 9 (.t 1)), uo (.len 10 (.t 9) true), uo (.subStr 11 (.t 8) (some (.t 10)) none), uo (.asg 4 (.t 11))] [4])
    .ret) .skip))
  (.seq (.region [uo (.mv 12 (.t 0)), uo (.asg 4 (.t 12))] [4])
  .ret))
def i_stringslite_TrimPrefix : VFn := ⟨⟨[.V, .V], true⟩, i_stringslite_TrimPrefix.b, [.tmp 4]⟩
theorem i_stringslite_TrimPrefix.turned : compFn Tryz.prog ⟨[.V, .V], true⟩ i_stringslite_TrimPrefix.body Tryz.f272 = some i_stringslite_TrimPrefix := by kernel_rfl
def i_stringslite_HasPrefix.b : VC := .seq (.region [uo (.asg 4 cf)] [0, 1])
  (.seq (.region [uo (.mv 5 (.t 0)), uo (.len 6 (.t 5) true), uo (.mv 7 (.t 1)), uo (.len 8 (.t 7) true), uo (.bin 9 .geq (.t 6) (.t 8)), uo (.mv 10 (.t 9)), ut 10 (.mv 11 (.t 0)), ut 10 (.mv 12 (.t 1)), ut 10 (.len 13 (.t 12) true), ut 10 (.subStr 14 (.t 11) none (some (.t 13))), ut 10 (.mv 15 (.t 1)), ut 10 (.bin 16 .eql (.t 14) (.t 15)), uo (.pick 17 (.t 10) (.t 16) cf), uo (.asg 4 (.t 17))] [4])
  .ret)
def i_stringslite_HasPrefix : VFn := ⟨⟨[.V, .V], true⟩, i_stringslite_HasPrefix.b, [.tmp 4]⟩
theorem i_stringslite_HasPrefix.turned : compFn Tryz.prog ⟨[.V, .V], true⟩ i_stringslite_HasPrefix.body Tryz.f287 = some i_stringslite_HasPrefix := by kernel_rfl
end Go.Proofs.YtjcjodcpiickaaaGreatDoor.Pre
