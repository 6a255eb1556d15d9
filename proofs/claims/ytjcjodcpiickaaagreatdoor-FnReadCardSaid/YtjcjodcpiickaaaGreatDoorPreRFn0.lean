/- Functions of the program, turned (printed by a program of this session). -/
import Derived.Test.YtjcjodcpiickaaaGreatDoorEngM6
import Derived.Test.YtjcjodcpiickaaaGreatDoorProg
namespace Go.Proofs.YtjcjodcpiickaaaGreatDoor.PreR
open Go Go.VS
set_option maxRecDepth 100000
set_option linter.unusedVariables false
set_option linter.unusedSimpArgs false
@[reducible] def uo (o : VOp) : GOp := ⟨none, o⟩
@[reducible] def ut (t : Tmp) (o : VOp) : GOp := ⟨some (t, true), o⟩
@[reducible] def uf (t : Tmp) (o : VOp) : GOp := ⟨some (t, false), o⟩
@[reducible] def ci (n : Int) : X := .c (.leaf (.int .i64 n))
@[reducible] def cf : X := .c (.leaf (.bool false))
@[reducible] def ct : X := .c (.leaf (.bool true))
def impl_reader_put.b : VC := .seq (.region [uo (.box 3 (.t 1)), uo (.asg 4 (ci 0))] [0, 3])
  (.seq (.seq (.region [uo (.mv 5 (.t 0)), uo (.nil 6 (.t 5)), uo (.fld 7 (.t 6) 4), uo (.load 8 (.t 7) 1 false), uo (.len 9 (.t 8) false), uo (.bin 10 .geq (.t 9) (ci 1000))] [0, 3, 10])
  (.cond (.t 10) (.seq (.region [uo (.mv 11 (.t 0)), uo (.nil 12 (.t 11)), uo (.fld 13 (.t 12) 5), uo (.store (.t 13) ct 1)] [0])
    (.seq (.region [uo (.asg 4 (ci 0))] [0, 4])
    .ret)) .skip))
  (.seq (.draw [⟨uo (.mv 14 (.t 0)), true, 0, 2⟩, ⟨uo (.mv 15 (.t 0)), true, 0, 1⟩, ⟨uo (.nil 16 (.t 15)), true, 0, 1⟩, ⟨uo (.fld 17 (.t 16) 4), true, 0, 1⟩, ⟨uo (.load 18 (.t 17) 1 false), true, 0, 1⟩, ⟨uo (.load 19 (.t 3) 5 true), true, 0, 0⟩, ⟨uo (.mk 20 [.int .i64 0, .int .i64 0, .str ⟨#[]⟩, .int .i64 0, .int .i64 0] 1 [(0, .t 19)]), false, 0, 0⟩, ⟨uo (.app 21 (.t 18) (.t 20) 5 48 false), false, 1, 1⟩, ⟨uo (.nil 22 (.t 14)), true, 2, 2⟩, ⟨uo (.fld 23 (.t 22) 4), true, 2, 2⟩, ⟨uo (.store (.t 23) (.t 21) 1), false, 2, 2⟩] [0])
  (.seq (.region [uo (.mv 24 (.t 0)), uo (.nil 25 (.t 24)), uo (.fld 26 (.t 25) 4), uo (.load 27 (.t 26) 1 false), uo (.len 28 (.t 27) false), uo (.bin 29 .sub (.t 28) (ci 1)), uo (.asg 4 (.t 29))] [0, 4])
  .ret)))
def impl_reader_put : VFn := ⟨⟨[.M, .V], false⟩, impl_reader_put.b, [.tmp 4]⟩
theorem impl_reader_put.turned : compFn Tryz.prog ⟨[.M, .V], false⟩ impl_reader_put.body Tryz.f214 = some impl_reader_put := by kernel_rfl
end Go.Proofs.YtjcjodcpiickaaaGreatDoor.PreR
