/- Functions of the program, turned (printed by a program of this session). -/
import Derived.Test.YticecjjfbjnaaaaGreatDoorEngM6
import Derived.Test.YticecjjfbjnaaaaGreatDoorProg
namespace Go.Proofs.YticecjjfbjnaaaaGreatDoor.Pre
open Go Go.VS
set_option maxRecDepth 100000
set_option linter.unusedVariables false
set_option linter.unusedSimpArgs false
def strings_TrimPrefix.b : VC := .seq (.region [⟨none, .asg 4 (.c (.leaf (.str ⟨#[]⟩)))⟩] [0, 1])
  (.seq (.region [⟨none, .mv 5 (.t 0)⟩, ⟨none, .mv 6 (.t 1)⟩, ⟨none, .call 7 235 [.t 5, .t 6]⟩, ⟨none, .asg 4 (.t 7)⟩] [4])
  .ret)
def strings_TrimPrefix : VFn := ⟨⟨[.V, .V], true⟩, strings_TrimPrefix.b, [.tmp 4]⟩
theorem strings_TrimPrefix.turned : compFn Tryz.prog ⟨[.V, .V], true⟩ strings_TrimPrefix.body Tryz.f213 = some strings_TrimPrefix := by kernel_rfl
def impl_inRange.b : VC := .seq (.region [⟨none, .asg 6 (.c (.leaf (.bool false)))⟩] [0, 1, 2])
  (.seq (.region [⟨none, .mv 7 (.t 0)⟩, ⟨none, .mv 8 (.t 1)⟩, ⟨none, .bin 9 .geq (.t 7) (.t 8)⟩, ⟨none, .mv 10 (.t 9)⟩, ⟨some (10, true), .mv 11 (.t 0)⟩, ⟨some (10, true), .mv 12 (.t 2)⟩, ⟨some (10, true), .bin 13 .leq (.t 11) (.t 12)⟩, ⟨none, .pick 14 (.t 10) (.t 13) (.c (.leaf (.bool false)))⟩, ⟨none, .asg 6 (.t 14)⟩] [6])
  .ret)
def impl_inRange : VFn := ⟨⟨[.V, .V, .V], true⟩, impl_inRange.b, [.tmp 6]⟩
theorem impl_inRange.turned : compFn Tryz.prog ⟨[.V, .V, .V], true⟩ impl_inRange.body Tryz.f75 = some impl_inRange := by kernel_rfl
def impl_Dec.b : VC := .seq (.region [⟨none, .asg 2 (.c (.leaf (.str ⟨#[]⟩)))⟩] [0])
  (.seq (.region [⟨none, .mv 3 (.t 0)⟩, ⟨none, .call 4 188 [.t 3]⟩, ⟨none, .asg 2 (.t 4)⟩] [2])
  .ret)
def impl_Dec : VFn := ⟨⟨[.V], true⟩, impl_Dec.b, [.tmp 2]⟩
theorem impl_Dec.turned : compFn Tryz.prog ⟨[.V], true⟩ impl_Dec.body Tryz.f142 = some impl_Dec := by kernel_rfl
def i_stringslite_TrimPrefix.b : VC := .seq (.region [⟨none, .asg 4 (.c (.leaf (.str ⟨#[]⟩)))⟩] [0, 1])
  (.seq (.seq (.region [⟨none, .mv 5 (.t 0)⟩, ⟨none, .mv 6 (.t 1)⟩, ⟨none, .call 7 254 [.t 5, .t 6]⟩] [0, 1, 7])
  (.cond (.t 7) (.seq (.region [⟨none, .mv 8 (.t 0)⟩, ⟨none, .mv 9 (.t 1)⟩, ⟨none, .len 10 (.t 9) true⟩, ⟨none, .subStr 11 (.t 8) (some (.t 10)) none⟩, ⟨none, .asg 4 (.t 11)⟩] [4])
    .ret) .skip))
  (.seq (.region [⟨none, .mv 12 (.t 0)⟩, ⟨none, .asg 4 (.t 12)⟩] [4])
  .ret))
def i_stringslite_TrimPrefix : VFn := ⟨⟨[.V, .V], true⟩, i_stringslite_TrimPrefix.b, [.tmp 4]⟩
theorem i_stringslite_TrimPrefix.turned : compFn Tryz.prog ⟨[.V, .V], true⟩ i_stringslite_TrimPrefix.body Tryz.f235 = some i_stringslite_TrimPrefix := by kernel_rfl
def i_stringslite_HasPrefix.b : VC := .seq (.region [⟨none, .asg 4 (.c (.leaf (.bool false)))⟩] [0, 1])
  (.seq (.region [⟨none, .mv 5 (.t 0)⟩, ⟨none, .len 6 (.t 5) true⟩, ⟨none, .mv 7 (.t 1)⟩, ⟨none, .len 8 (.t 7) true⟩, ⟨none, .bin 9 .geq (.t 6) (.t 8)⟩, ⟨none, .mv 10 (.t 9)⟩, ⟨some (10, true), .mv 11 (.t 0)⟩, ⟨some (10, true), .mv 12 (.t 1)⟩, ⟨some (10, true), .len 13 (.t 12) true⟩, ⟨some (10, true), .subStr 14 (.t 11) none (some (.t 13))⟩, ⟨some (10, true), .mv 15 (.t 1)⟩, ⟨some (10, true), .bin 16 .eql (.t 14) (.t 15)⟩, ⟨none, .pick 17 (.t 10) (.t 16) (.c (.leaf (.bool false)))⟩, ⟨none, .asg 4 (.t 17)⟩] [4])
  .ret)
def i_stringslite_HasPrefix : VFn := ⟨⟨[.V, .V], true⟩, i_stringslite_HasPrefix.b, [.tmp 4]⟩
theorem i_stringslite_HasPrefix.turned : compFn Tryz.prog ⟨[.V, .V], true⟩ i_stringslite_HasPrefix.body Tryz.f254 = some i_stringslite_HasPrefix := by kernel_rfl
end Go.Proofs.YticecjjfbjnaaaaGreatDoor.Pre
