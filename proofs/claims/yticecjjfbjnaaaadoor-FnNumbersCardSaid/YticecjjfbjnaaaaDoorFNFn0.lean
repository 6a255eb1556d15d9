/- Functions of the program, turned (printed by a program of this session). -/
import Derived.Test.YticecjjfbjnaaaaDoorEngM6
import Derived.Test.YticecjjfbjnaaaaDoorProg
namespace Go.Proofs.YticecjjfbjnaaaaDoor.FN
open Go Go.VS
set_option maxRecDepth 100000
set_option linter.unusedVariables false
set_option linter.unusedSimpArgs false
@[reducible] def uo (o : VOp) : GOp := ⟨none, o⟩
@[reducible] def ut (t : Tmp) (o : VOp) : GOp := ⟨some (t, true), o⟩
@[reducible] def uf (t : Tmp) (o : VOp) : GOp := ⟨some (t, false), o⟩
@[reducible] def ci (n : Int) : X := .c (.leaf (.int .i64 n))
@[reducible] def cf : X := .c (.leaf (.bool false))
@[reducible] def ct : X := .c (.leaf (.bool true))
def laws_FnNumbers.b : VC := .seq (.region [uo (.asg 2 cf)] [0])
  (.seq (.seq (.region [uo (.mv 17 (.t 0)), uo (.call 18 4 [.t 17])] [0, 18])
  (.cond (.t 18) (.seq (.region [uo (.asg 2 ct)] [2])
    .ret) .skip))
  (.seq (.region [uo (.mv 19 (.t 0)), uo (.call 20 5 [.t 19]), uo (.asg 3 (.t 20))] [0, 3])
  (.seq (.region [uo (.mv 21 (.t 0)), uo (.call 22 6 [.t 21]), uo (.asg 4 (.t 22))] [0, 3, 4])
  (.seq (.region [uo (.mv 23 (.t 3)), uo (.call 24 7 [.t 23]), uo (.asg 5 (.t 24))] [0, 3, 4, 5])
  (.seq (.region [uo (.mv 26 (.t 5)), uo (.mv 27 (.t 4)), uo (.bin 28 .add (.t 26) (.t 27)), uo (.call 29 8 [.t 28]), uo (.mv 25 (.t 29)), uo (.ext 30 (.t 25) 0), uo (.ext 31 (.t 25) 1), uo (.asg 6 (.t 30)), uo (.asg 7 (.t 31))] [0, 3, 4, 5, 6, 7])
  (.seq (.seq (.region [uo (.mv 32 (.t 5)), uo (.bin 33 .neq (.t 32) (.c (.leaf (.str ⟨#[]⟩)))), uo (.mv 34 (.t 3)), uo (.bin 35 .geq (.t 34) (ci 0)), uo (.mv 36 (.t 35)), ut 36 (.mv 37 (.t 3)), ut 36 (.bin 38 .leq (.t 37) (ci 562949953421311)), uo (.pick 39 (.t 36) (.t 38) cf), uo (.eqb 40 true (.t 33) (.t 39)), uo (.mv 41 (.t 40)), uf 41 (.mv 42 (.t 5)), uf 41 (.bin 43 .neq (.t 42) (.c (.leaf (.str ⟨#[]⟩)))), uf 41 (.mv 44 (.t 43)), ut 44 (.mv 45 (.t 6)), ut 44 (.mv 46 (.t 3)), ut 44 (.bin 47 .neq (.t 45) (.t 46)), ut 44 (.mv 48 (.t 47)), uf 48 (.mv 49 (.t 7)), uf 48 (.mv 50 (.t 5)), uf 48 (.len 51 (.t 50) true), uf 48 (.bin 52 .neq (.t 49) (.t 51)), ut 44 (.pick 53 (.t 48) ct (.t 52)), uf 41 (.pick 54 (.t 44) (.t 53) cf), uo (.pick 55 (.t 41) ct (.t 54))] [0, 3, 4, 55])
  (.cond (.t 55) (.seq (.region [uo (.asg 2 cf)] [2])
    .ret) .skip))
  (.seq (.region [uo (.mv 56 (.t 3)), uo (.call 57 9 [.t 56, .c (.leaf (.int .i64 7))]), uo (.asg 8 (.t 57))] [0, 3, 4, 8])
  (.seq (.region [uo (.mv 59 (.t 8)), uo (.mv 60 (.t 4)), uo (.bin 61 .add (.t 59) (.t 60)), uo (.call 62 10 [.t 61, .c (.leaf (.int .i64 7))]), uo (.mv 58 (.t 62)), uo (.ext 63 (.t 58) 0), uo (.ext 64 (.t 58) 1), uo (.asg 9 (.t 63)), uo (.asg 10 (.t 64))] [0, 3, 4, 8, 9, 10])
  (.seq (.seq (.region [uo (.mv 65 (.t 8)), uo (.bin 66 .neq (.t 65) (.c (.leaf (.str ⟨#[]⟩)))), uo (.mv 67 (.t 66)), ut 67 (.mv 68 (.t 10)), ut 67 (.un 69 .not (.t 68)), ut 67 (.mv 70 (.t 69)), uf 70 (.mv 71 (.t 9)), uf 70 (.mv 72 (.t 3)), uf 70 (.bin 73 .neq (.t 71) (.t 72)), ut 67 (.pick 74 (.t 70) ct (.t 73)), ut 67 (.mv 75 (.t 74)), uf 75 (.mv 76 (.t 8)), uf 75 (.len 77 (.t 76) true), uf 75 (.bin 78 .neq (.t 77) (ci 7)), ut 67 (.pick 79 (.t 75) ct (.t 78)), uo (.pick 80 (.t 67) (.t 79) cf), uo (.mv 81 (.t 80)), uf 81 (.mv 82 (.t 8)), uf 81 (.bin 83 .eql (.t 82) (.c (.leaf (.str ⟨#[]⟩)))), uf 81 (.mv 84 (.t 3)), uf 81 (.bin 85 .lss (.t 84) (ci 0)), uf 81 (.mv 86 (.t 85)), uf 86 (.mv 87 (.t 3)), uf 86 (.bin 88 .geq (.t 87) (ci 72057594037927936)), uf 81 (.pick 89 (.t 86) ct (.t 88)), uf 81 (.eqb 90 true (.t 83) (.t 89)), uo (.pick 91 (.t 81) ct (.t 90))] [0, 3, 4, 91])
  (.cond (.t 91) (.seq (.region [uo (.asg 2 cf)] [2])
    .ret) .skip))
  (.seq (.region [uo (.mv 93 (.t 3)), uo (.call 94 12 [.t 93]), uo (.call 95 11 [.t 94]), uo (.mv 92 (.t 95)), uo (.ext 96 (.t 92) 0), uo (.ext 97 (.t 92) 1), uo (.asg 11 (.t 96)), uo (.asg 12 (.t 97))] [0, 3, 4, 11, 12])
  (.seq (.seq (.region [uo (.mv 98 (.t 12)), uo (.mv 99 (.t 3)), uo (.bin 100 .gtr (.t 99) (ci (-1000000000))), uo (.mv 101 (.t 100)), ut 101 (.mv 102 (.t 3)), ut 101 (.bin 103 .lss (.t 102) (ci 1000000000)), uo (.pick 104 (.t 101) (.t 103) cf), uo (.eqb 105 true (.t 98) (.t 104)), uo (.mv 106 (.t 105)), uf 106 (.mv 107 (.t 12)), uf 106 (.mv 108 (.t 107)), ut 108 (.mv 109 (.t 11)), ut 108 (.mv 110 (.t 3)), ut 108 (.bin 111 .neq (.t 109) (.t 110)), uf 106 (.pick 112 (.t 108) (.t 111) cf), uo (.pick 113 (.t 106) ct (.t 112))] [0, 4, 113])
  (.cond (.t 113) (.seq (.region [uo (.asg 2 cf)] [2])
    .ret) .skip))
  (.seq (.region [uo (.mv 115 (.t 4)), uo (.call 116 14 [.t 115]), uo (.call 117 13 [.t 116]), uo (.mv 114 (.t 117)), uo (.ext 118 (.t 114) 0), uo (.ext 119 (.t 114) 1), uo (.asg 13 (.t 118)), uo (.asg 14 (.t 119))] [0, 4, 13, 14])
  (.seq (.region [uo (.mv 121 (.t 0)), uo (.call 122 15 [.t 121]), uo (.call 123 8 [.t 122]), uo (.mv 120 (.t 123)), uo (.ext 124 (.t 120) 0), uo (.ext 125 (.t 120) 1), uo (.asg 15 (.t 124)), uo (.asg 16 (.t 125))] [0, 4, 13, 14, 15, 16])
  (.seq (.region [uo (.mv 126 (.t 14)), uo (.mv 127 (.t 126)), ut 127 (.mv 128 (.t 13)), ut 127 (.mv 129 (.t 4)), ut 127 (.bin 130 .eql (.t 128) (.t 129)), uo (.pick 131 (.t 127) (.t 130) cf), uo (.mv 132 (.t 131)), ut 132 (.mv 133 (.t 16)), ut 132 (.bin 134 .eql (.t 133) (ci 0)), ut 132 (.mv 135 (.t 134)), uf 135 (.mv 136 (.t 15)), uf 135 (.call 137 7 [.t 136]), uf 135 (.mv 138 (.t 0)), uf 135 (.call 139 15 [.t 138]), uf 135 (.mv 140 (.t 16)), uf 135 (.subStr 141 (.t 139) none (some (.t 140))), uf 135 (.bin 142 .eql (.t 137) (.t 141)), ut 132 (.pick 143 (.t 135) ct (.t 142)), uo (.pick 144 (.t 132) (.t 143) cf), uo (.asg 2 (.t 144))] [2])
  .ret))))))))))))))
def laws_FnNumbers : VFn := ⟨⟨[.V], true⟩, laws_FnNumbers.b, [.tmp 2]⟩
theorem laws_FnNumbers.turned : compFn Tryd.prog ⟨[.V], true⟩ laws_FnNumbers.body Tryd.f3 = some laws_FnNumbers := by kernel_rfl
def laws_big.b : VC := .seq (.region [uo (.asg 2 cf)] [0])
  (.seq (.region [uo (.mv 3 (.t 0)), uo (.len 4 (.t 3) false), uo (.bin 5 .gtr (.t 4) (ci 1048576)), uo (.asg 2 (.t 5))] [2])
  .ret)
def laws_big : VFn := ⟨⟨[.V], true⟩, laws_big.b, [.tmp 2]⟩
theorem laws_big.turned : compFn Tryd.prog ⟨[.V], true⟩ laws_big.body Tryd.f4 = some laws_big := by kernel_rfl
def spec_DrawVar.b : VC := .seq (.region [uo (.asg 2 (ci 0))] [0])
  (.seq (.region [uo (.mv 4 (.t 0)), uo (.call 5 16 [.t 4]), uo (.asg 3 (.t 5))] [3, 5])
  (.seq (.region [uo (.mv 6 (.t 3)), uo (.call 7 17 [.t 6]), uo (.asg 2 (.t 7))] [2])
  .ret))
def spec_DrawVar : VFn := ⟨⟨[.V], true⟩, spec_DrawVar.b, [.tmp 2]⟩
theorem spec_DrawVar.turned : compFn Tryd.prog ⟨[.V], true⟩ spec_DrawVar.body Tryd.f5 = some spec_DrawVar := by kernel_rfl
def spec_DrawHex.b : VC := .seq (.region [uo (.asg 2 (.c (.leaf (.str ⟨#[]⟩))))] [0])
  (.seq (.region [uo (.mv 4 (.t 0)), uo (.call 5 16 [.t 4]), uo (.asg 3 (.t 5))] [3, 5])
  (.seq (.region [uo (.mv 6 (.t 3)), uo (.call 7 18 [.t 6, .c (.leaf (.int .i64 40))]), uo (.asg 2 (.t 7))] [2])
  .ret))
def spec_DrawHex : VFn := ⟨⟨[.V], true⟩, spec_DrawHex.b, [.tmp 2]⟩
theorem spec_DrawHex.turned : compFn Tryd.prog ⟨[.V], true⟩ spec_DrawHex.body Tryd.f6 = some spec_DrawHex := by kernel_rfl
def impl_Var.l0 : VC := .seq (.seq (.region [uo (.mv 7 (.t 0)), uo (.bin 8 .gtr (.t 7) (ci 127))] [0, 3, 8])
  (.cond (.t 8) .skip (.exit 0)))
  (.block 1 (.seq (.region [uo (.mv 9 (.t 3)), uo (.mv 10 (.t 0)), uo (.bin 11 .and (.t 10) (ci 127)), uo (.bin 12 .or (ci 128) (.t 11)), uo (.conv 13 .u8 (.t 12)), uo (.mk 14 [.int .u8 0] 1 [(0, .t 13)]), uo (.app 15 (.t 9) (.t 14) 1 1 false), uo (.asg 3 (.t 15))] [0, 3])
    (.region [uo (.mv 16 (.t 0)), uo (.bin 17 .shr (.t 16) (.c (.leaf (.int .u64 7)))), uo (.asg 0 (.t 17))] [0, 3])))
def impl_Var.b : VC := .seq (.region [uo (.asg 2 (.c (.leaf (.str ⟨#[]⟩))))] [0])
  (.seq (.seq (.region [uo (.mv 4 (.t 0)), uo (.call 5 19 [.t 4, .c (.leaf (.int .i64 0)), .c (.leaf (.int .i64 562949953421311))]), uo (.un 6 .not (.t 5))] [0, 6])
  (.cond (.t 6) (.seq (.region [uo (.asg 2 (.c (.leaf (.str ⟨#[]⟩))))] [2])
    .ret) .skip))
  (.seq (.region [uo (.asg 3 (.c (.leaf (.sl true 1 []))))] [0, 3])
  (.seq (.block 0 (.loop impl_Var.l0))
  (.seq (.region [uo (.mv 18 (.t 3)), uo (.mv 19 (.t 0)), uo (.conv 20 .u8 (.t 19)), uo (.mk 21 [.int .u8 0] 1 [(0, .t 20)]), uo (.app 22 (.t 18) (.t 21) 1 1 false), uo (.bytes 23 (.t 22)), uo (.asg 2 (.t 23))] [2])
  .ret))))
def impl_Var : VFn := ⟨⟨[.V], true⟩, impl_Var.b, [.tmp 2]⟩
theorem impl_Var.turned : compFn Tryd.prog ⟨[.V], true⟩ impl_Var.body Tryd.f7 = some impl_Var := by kernel_rfl
def impl_ReadVar.l0 : VC := .seq (.seq (.region [uo (.mv 6 (.t 5)), uo (.mv 7 (.t 0)), uo (.len 8 (.t 7) true), uo (.bin 9 .lss (.t 6) (.t 8)), uo (.mv 10 (.t 9)), ut 10 (.mv 11 (.t 5)), ut 10 (.bin 12 .lss (.t 11) (ci 7)), uo (.pick 13 (.t 10) (.t 12) cf)] [0, 4, 5, 13])
  (.cond (.t 13) .skip (.exit 0)))
  (.seq (.block 1 (.seq (.region [uo (.mv 16 (.t 4)), uo (.mv 17 (.t 0)), uo (.mv 18 (.t 5)), uo (.byte 19 (.t 17) (.t 18)), uo (.bin 20 .and (.t 19) (.c (.leaf (.int .u8 127)))), uo (.conv 21 .i64 (.t 20)), uo (.mv 22 (.t 5)), uo (.bin 23 .mul (ci 7) (.t 22)), uo (.conv 24 .u64 (.t 23)), uo (.bin 25 .shl (.t 21) (.t 24)), uo (.bin 26 .or (.t 16) (.t 25)), uo (.asg 4 (.t 26))] [0, 4, 5])
    (.seq (.seq (.region [uo (.mv 27 (.t 0)), uo (.mv 28 (.t 5)), uo (.byte 29 (.t 27) (.t 28)), uo (.bin 30 .geq (.t 29) (.c (.leaf (.int .u8 128))))] [0, 4, 5, 30])
    (.cond (.t 30) (.exit 1) .skip))
    (.seq (.seq (.region [uo (.mv 31 (.t 0)), uo (.mv 32 (.t 5)), uo (.byte 33 (.t 31) (.t 32)), uo (.bin 34 .eql (.t 33) (.c (.leaf (.int .u8 0)))), uo (.mv 35 (.t 34)), ut 35 (.mv 36 (.t 5)), ut 35 (.bin 37 .gtr (.t 36) (ci 0)), uo (.pick 38 (.t 35) (.t 37) cf)] [4, 5, 38])
    (.cond (.t 38) (.seq (.region [uo (.asg 2 (ci 0)), uo (.asg 3 (ci 0))] [2, 3])
      .ret) .skip))
    (.seq (.region [uo (.mv 39 (.t 4)), uo (.mv 40 (.t 5)), uo (.bin 41 .add (.t 40) (ci 1)), uo (.asg 2 (.t 39)), uo (.asg 3 (.t 41))] [2, 3])
    .ret)))))
  (.region [uo (.mv 14 (.t 5)), uo (.bin 15 .add (.t 14) (ci 1)), uo (.asg 5 (.t 15))] [0, 4, 5]))
def impl_ReadVar.b : VC := .seq (.region [uo (.asg 2 (ci 0)), uo (.asg 3 (ci 0))] [0])
  (.seq (.region [uo (.asg 4 (ci 0))] [0, 4])
  (.seq (.seq (.region [uo (.asg 5 (ci 0))] [0, 4, 5])
  (.block 0 (.loop impl_ReadVar.l0)))
  (.seq (.region [uo (.asg 2 (ci 0)), uo (.asg 3 (ci 0))] [2, 3])
  .ret)))
def impl_ReadVar : VFn := ⟨⟨[.V], true⟩, impl_ReadVar.b, [.tmp 2, .tmp 3]⟩
theorem impl_ReadVar.turned : compFn Tryd.prog ⟨[.V], true⟩ impl_ReadVar.body Tryd.f8 = some impl_ReadVar := by kernel_rfl
def impl_Fixed.l0 : VC := .seq (.seq (.region [uo (.mv 24 (.t 6)), uo (.bin 25 .geq (.t 24) (ci 0))] [0, 5, 6, 25])
  (.cond (.t 25) .skip (.exit 0)))
  (.seq (.block 1 (.region [uo (.mv 28 (.t 5)), uo (.mv 29 (.t 0)), uo (.mv 30 (.t 6)), uo (.bin 31 .mul (ci 8) (.t 30)), uo (.conv 32 .u64 (.t 31)), uo (.bin 33 .shr (.t 29) (.t 32)), uo (.conv 34 .u8 (.t 33)), uo (.mk 35 [.int .u8 0] 1 [(0, .t 34)]), uo (.app 36 (.t 28) (.t 35) 1 1 false), uo (.asg 5 (.t 36))] [0, 5, 6]))
  (.region [uo (.mv 26 (.t 6)), uo (.bin 27 .sub (.t 26) (ci 1)), uo (.asg 6 (.t 27))] [0, 5, 6]))
def impl_Fixed.b : VC := .seq (.region [uo (.asg 4 (.c (.leaf (.str ⟨#[]⟩))))] [0, 1])
  (.seq (.seq (.region [uo (.mv 7 (.t 1)), uo (.call 8 19 [.t 7, .c (.leaf (.int .i64 1)), .c (.leaf (.int .i64 7))]), uo (.un 9 .not (.t 8)), uo (.mv 10 (.t 9)), uf 10 (.mv 11 (.t 0)), uf 10 (.bin 12 .lss (.t 11) (ci 0)), uo (.pick 13 (.t 10) ct (.t 12)), uo (.mv 14 (.t 13)), uf 14 (.mv 15 (.t 0)), uf 14 (.mv 16 (.t 1)), uf 14 (.bin 17 .mul (ci 8) (.t 16)), uf 14 (.conv 18 .u64 (.t 17)), uf 14 (.bin 19 .shl (ci 1) (.t 18)), uf 14 (.bin 20 .geq (.t 15) (.t 19)), uo (.pick 21 (.t 14) ct (.t 20))] [0, 1, 21])
  (.cond (.t 21) (.seq (.region [uo (.asg 4 (.c (.leaf (.str ⟨#[]⟩))))] [4])
    .ret) .skip))
  (.seq (.region [uo (.asg 5 (.c (.leaf (.sl true 1 []))))] [0, 1, 5])
  (.seq (.seq (.region [uo (.mv 22 (.t 1)), uo (.bin 23 .sub (.t 22) (ci 1)), uo (.asg 6 (.t 23))] [0, 5, 6])
  (.block 0 (.loop impl_Fixed.l0)))
  (.seq (.region [uo (.mv 37 (.t 5)), uo (.bytes 38 (.t 37)), uo (.asg 4 (.t 38))] [4])
  .ret))))
def impl_Fixed : VFn := ⟨⟨[.V, .V], true⟩, impl_Fixed.b, [.tmp 4]⟩
theorem impl_Fixed.turned : compFn Tryd.prog ⟨[.V, .V], true⟩ impl_Fixed.body Tryd.f9 = some impl_Fixed := by kernel_rfl
def impl_ReadFixed.l0 : VC := .seq (.region [uo (.bin 19 .lss (.t 18) (.t 17))] [0, 6, 17, 18, 19])
  (.seq (.cond (.t 19) .skip (.exit 0))
  (.seq (.block 1 (.seq (.region [uo (.mv 20 (.t 18)), uo (.asg 7 (.t 20))] [0, 6, 7, 17, 18])
    (.region [uo (.mv 21 (.t 6)), uo (.bin 22 .shl (.t 21) (.c (.leaf (.int .u64 8)))), uo (.mv 23 (.t 0)), uo (.mv 24 (.t 7)), uo (.byte 25 (.t 23) (.t 24)), uo (.conv 26 .i64 (.t 25)), uo (.bin 27 .or (.t 22) (.t 26)), uo (.asg 6 (.t 27))] [0, 6, 17, 18])))
  (.region [uo (.bin 28 .add (.t 18) (ci 1)), uo (.mv 18 (.t 28))] [0, 6, 17, 18])))
def impl_ReadFixed.b : VC := .seq (.region [uo (.asg 4 (ci 0)), uo (.asg 5 cf)] [0, 1])
  (.seq (.seq (.region [uo (.mv 8 (.t 1)), uo (.call 9 19 [.t 8, .c (.leaf (.int .i64 1)), .c (.leaf (.int .i64 7))]), uo (.un 10 .not (.t 9)), uo (.mv 11 (.t 10)), uf 11 (.mv 12 (.t 0)), uf 11 (.len 13 (.t 12) true), uf 11 (.mv 14 (.t 1)), uf 11 (.bin 15 .lss (.t 13) (.t 14)), uo (.pick 16 (.t 11) ct (.t 15))] [0, 1, 16])
  (.cond (.t 16) (.seq (.region [uo (.asg 4 (ci 0)), uo (.asg 5 cf)] [4, 5])
    .ret) .skip))
  (.seq (.region [uo (.asg 6 (ci 0))] [0, 1, 6])
  (.seq (.seq (.region [uo (.mv 17 (.t 1)), uo (.mv 18 (ci 0))] [0, 6, 17, 18])
  (.block 0 (.loop impl_ReadFixed.l0)))
  (.seq (.region [uo (.mv 29 (.t 6)), uo (.asg 4 (.t 29)), uo (.asg 5 ct)] [4, 5])
  .ret))))
def impl_ReadFixed : VFn := ⟨⟨[.V, .V], true⟩, impl_ReadFixed.b, [.tmp 4, .tmp 5]⟩
theorem impl_ReadFixed.turned : compFn Tryd.prog ⟨[.V, .V], true⟩ impl_ReadFixed.body Tryd.f10 = some impl_ReadFixed := by kernel_rfl
def impl_Dec.b : VC := .seq (.region [uo (.asg 2 (.c (.leaf (.str ⟨#[]⟩))))] [0])
  (.seq (.region [uo (.mv 3 (.t 0)), uo (.call 4 22 [.t 3]), uo (.asg 2 (.t 4))] [2])
  .ret)
def impl_Dec : VFn := ⟨⟨[.V], true⟩, impl_Dec.b, [.tmp 2]⟩
theorem impl_Dec.turned : compFn Tryd.prog ⟨[.V], true⟩ impl_Dec.body Tryd.f12 = some impl_Dec := by kernel_rfl
def impl_Unhex.l0 : VC := .seq (.seq (.region [uo (.mv 12 (.t 5)), uo (.mv 13 (.t 0)), uo (.len 14 (.t 13) true), uo (.bin 15 .lss (.t 12) (.t 14))] [0, 4, 5, 15])
  (.cond (.t 15) .skip (.exit 0)))
  (.seq (.block 1 (.seq (.draw [⟨uo (.mv 18 (.t 0)), true, 0, 0⟩, ⟨uo (.mv 19 (.t 5)), true, 0, 0⟩, ⟨uo (.byte 20 (.t 18) (.t 19)), true, 0, 0⟩, ⟨uo (.call 21 23 [.c (.leaf (.str ⟨#[48, 49, 50, 51, 52, 53, 54, 55, 56, 57, 97, 98, 99, 100, 101, 102]⟩)), .t 20]), false, 0, 0⟩, ⟨uo (.mv 22 (.t 0)), true, 0, 1⟩, ⟨uo (.mv 23 (.t 5)), true, 0, 1⟩, ⟨uo (.bin 24 .add (.t 23) (ci 1)), true, 0, 1⟩, ⟨uo (.byte 25 (.t 22) (.t 24)), true, 0, 1⟩, ⟨uo (.call 26 23 [.c (.leaf (.str ⟨#[48, 49, 50, 51, 52, 53, 54, 55, 56, 57, 97, 98, 99, 100, 101, 102]⟩)), .t 25]), false, 1, 1⟩, ⟨uo (.asg 6 (.t 21)), false, 2, 2⟩, ⟨uo (.asg 7 (.t 26)), false, 3, 3⟩] [0, 4, 5, 6, 7])
    (.seq (.seq (.region [uo (.mv 27 (.t 6)), uo (.bin 28 .lss (.t 27) (ci 0)), uo (.mv 29 (.t 28)), uf 29 (.mv 30 (.t 7)), uf 29 (.bin 31 .lss (.t 30) (ci 0)), uo (.pick 32 (.t 29) ct (.t 31))] [0, 4, 5, 6, 7, 32])
    (.cond (.t 32) (.seq (.region [uo (.asg 2 (.c (.leaf (.str ⟨#[]⟩)))), uo (.asg 3 cf)] [2, 3])
      .ret) .skip))
    (.region [uo (.mv 33 (.t 4)), uo (.mv 34 (.t 6)), uo (.bin 35 .shl (.t 34) (.c (.leaf (.int .u64 4)))), uo (.mv 36 (.t 7)), uo (.bin 37 .or (.t 35) (.t 36)), uo (.conv 38 .u8 (.t 37)), uo (.mk 39 [.int .u8 0] 1 [(0, .t 38)]), uo (.app 40 (.t 33) (.t 39) 1 1 false), uo (.asg 4 (.t 40))] [0, 4, 5]))))
  (.region [uo (.mv 16 (.t 5)), uo (.bin 17 .add (.t 16) (ci 2)), uo (.asg 5 (.t 17))] [0, 4, 5]))
def impl_Unhex.b : VC := .seq (.region [uo (.asg 2 (.c (.leaf (.str ⟨#[]⟩)))), uo (.asg 3 cf)] [0])
  (.seq (.seq (.region [uo (.mv 8 (.t 0)), uo (.len 9 (.t 8) true), uo (.bin 10 .rem (.t 9) (ci 2)), uo (.bin 11 .eql (.t 10) (ci 1))] [0, 11])
  (.cond (.t 11) (.seq (.region [uo (.asg 2 (.c (.leaf (.str ⟨#[]⟩)))), uo (.asg 3 cf)] [2, 3])
    .ret) .skip))
  (.seq (.region [uo (.asg 4 (.c (.leaf (.sl true 1 []))))] [0, 4])
  (.seq (.seq (.region [uo (.asg 5 (ci 0))] [0, 4, 5])
  (.block 0 (.loop impl_Unhex.l0)))
  (.seq (.region [uo (.mv 41 (.t 4)), uo (.bytes 42 (.t 41)), uo (.asg 2 (.t 42)), uo (.asg 3 ct)] [2, 3])
  .ret))))
def impl_Unhex : VFn := ⟨⟨[.V], true⟩, impl_Unhex.b, [.tmp 2, .tmp 3]⟩
theorem impl_Unhex.turned : compFn Tryd.prog ⟨[.V], true⟩ impl_Unhex.body Tryd.f13 = some impl_Unhex := by kernel_rfl
def spec_DrawReadVar.b : VC := .seq (.region [uo (.asg 2 (.c (.leaf (.str ⟨#[]⟩))))] [0])
  (.seq (.region [uo (.mv 5 (.t 0)), uo (.call 6 16 [.t 5]), uo (.asg 3 (.t 6))] [3, 6])
  (.seq (.region [uo (.mv 7 (.t 3)), uo (.call 8 17 [.t 7]), uo (.call 9 26 [.t 8]), uo (.mv 10 (.t 3)), uo (.call 11 18 [.t 10, .c (.leaf (.int .i64 4))]), uo (.bin 12 .add (.t 9) (.t 11)), uo (.asg 4 (.t 12))] [3, 4, 6])
  (.seq (.seq (.region [uo (.mv 13 (.t 3)), uo (.call 14 27 [.t 13, .c (.leaf (.int .i64 4))])] [3, 4, 6, 14])
  (.cond (.t 14) (.seq (.region [uo (.mv 15 (.t 3)), uo (.mv 16 (.t 4)), uo (.call 17 28 [.t 15, .t 16]), uo (.asg 2 (.t 17))] [2])
    .ret) .skip))
  (.seq (.region [uo (.mv 18 (.t 4)), uo (.asg 2 (.t 18))] [2])
  .ret))))
def spec_DrawReadVar : VFn := ⟨⟨[.V], true⟩, spec_DrawReadVar.b, [.tmp 2]⟩
theorem spec_DrawReadVar.turned : compFn Tryd.prog ⟨[.V], true⟩ spec_DrawReadVar.body Tryd.f15 = some spec_DrawReadVar := by kernel_rfl
def spec_l1New.l0 : VC := .seq (.seq (.region [uo (.mv 8 (.t 4)), uo (.mv 9 (.t 0)), uo (.len 10 (.t 9) false), uo (.bin 11 .lss (.t 8) (.t 10)), uo (.mv 12 (.t 11)), ut 12 (.mv 13 (.t 4)), ut 12 (.bin 14 .lss (.t 13) (ci 4000)), uo (.pick 15 (.t 12) (.t 14) cf)] [0, 3, 4, 15])
  (.cond (.t 15) .skip (.exit 0)))
  (.seq (.block 1 (.region [uo (.mv 18 (.t 3)), uo (.bin 19 .mul (.t 18) (ci 131)), uo (.mv 20 (.t 0)), uo (.mv 21 (.t 4)), uo (.idx 22 (.t 20) (.t 21) 1), uo (.load 23 (.t 22) 1 false), uo (.conv 24 .i64 (.t 23)), uo (.bin 25 .add (.t 19) (.t 24)), uo (.bin 26 .add (.t 25) (ci 7)), uo (.bin 27 .and (.t 26) (ci 1073741823)), uo (.asg 3 (.t 27))] [0, 3, 4]))
  (.region [uo (.mv 16 (.t 4)), uo (.bin 17 .add (.t 16) (ci 1)), uo (.asg 4 (.t 17))] [0, 3, 4]))
def spec_l1New.b : VC := .seq (.region [uo (.bad 2)] [0])
  (.seq (.region [uo (.mv 5 (.t 0)), uo (.len 6 (.t 5) false), uo (.bin 7 .add (ci 10101) (.t 6)), uo (.asg 3 (.t 7))] [0, 3])
  (.seq (.seq (.region [uo (.asg 4 (ci 0))] [0, 3, 4])
  (.block 0 (.loop spec_l1New.l0)))
  (.seq (.region [uo (.mv 28 (.t 0)), uo (.mv 29 (.t 3)), uo (.build 30 [.sl true 1 [], .int .i64 0, .int .i64 0] [(0, 1, .t 28), (2, 1, .t 29)]), uo (.box 31 (.t 30)), uo (.asg 2 (.t 31))] [2, 31])
  .ret)))
def spec_l1New : VFn := ⟨⟨[.V], false⟩, spec_l1New.b, [.tmp 2]⟩
theorem spec_l1New.turned : compFn Tryd.prog ⟨[.V], false⟩ spec_l1New.body Tryd.f16 = some spec_l1New := by kernel_rfl
def spec_l1Num.b : VC := .seq (.region [uo (.asg 2 (ci 0))] [0])
  (.seq (.seq (.region [uo (.mv 3 (.t 0)), uo (.call 4 29 [.t 3, .c (.leaf (.int .i64 8))])] [0, 4])
  (.block 0 (.seq (.region [uo (.bin 6 .eql (.t 4) (ci 0)), uo (.asg 5 (.t 6))] [0, 4, 5])
    (.cond (.t 5) (.seq (.region [uo (.mv 7 (.t 0)), uo (.mk 8 [.int .i64 0] 17 [(0, .c (.leaf (.int .i64 (-1)))), (1, .c (.leaf (.int .i64 0))), (2, .c (.leaf (.int .i64 127))), (3, .c (.leaf (.int .i64 128))), (4, .c (.leaf (.int .i64 255))), (5, .c (.leaf (.int .i64 256))), (6, .c (.leaf (.int .i64 16383))), (7, .c (.leaf (.int .i64 16384))), (8, .c (.leaf (.int .i64 65535))), (9, .c (.leaf (.int .i64 65536))), (10, .c (.leaf (.int .i64 562949953421311))), (11, .c (.leaf (.int .i64 562949953421312))), (12, .c (.leaf (.int .i64 999999999))), (13, .c (.leaf (.int .i64 1000000000))), (14, .c (.leaf (.int .i64 (-999999999)))), (15, .c (.leaf (.int .i64 9223372036854775807))), (16, .c (.leaf (.int .i64 (-9223372036854775808))))]), uo (.call 9 30 [.t 7, .t 8]), uo (.asg 2 (.t 9))] [0, 2])
      .ret) (.seq (.region [uo (.bin 11 .eql (.t 4) (ci 1)), uo (.asg 10 (.t 11))] [0, 4, 10])
      (.cond (.t 10) (.seq (.region [uo (.mv 12 (.t 0)), uo (.call 13 29 [.t 12, .c (.leaf (.int .i64 1000000000))]), uo (.mv 14 (.t 0)), uo (.call 15 29 [.t 14, .c (.leaf (.int .i64 1000000000))]), uo (.bin 16 .mul (.t 13) (.t 15)), uo (.asg 2 (.t 16))] [0, 2])
        .ret) (.seq (.region [uo (.bin 18 .eql (.t 4) (ci 2)), uo (.asg 17 (.t 18))] [0, 17])
        (.cond (.t 17) (.seq (.region [uo (.mv 19 (.t 0)), uo (.call 20 29 [.t 19, .c (.leaf (.int .i64 100000))]), uo (.un 21 .neg (.t 20)), uo (.asg 2 (.t 21))] [0, 2])
          .ret) .skip))))))))
  (.seq (.region [uo (.mv 22 (.t 0)), uo (.call 23 29 [.t 22, .c (.leaf (.int .i64 70000))]), uo (.asg 2 (.t 23))] [0, 2])
  .ret))
def spec_l1Num : VFn := ⟨⟨[.M], false⟩, spec_l1Num.b, [.tmp 2]⟩
theorem spec_l1Num.turned : compFn Tryd.prog ⟨[.M], false⟩ spec_l1Num.body Tryd.f17 = some spec_l1Num := by kernel_rfl
def spec_l1Text.l0 : VC := .seq (.seq (.region [uo (.mv 16 (.t 7)), uo (.bin 17 .gtr (.t 16) (ci 0))] [0, 5, 6, 7, 17])
  (.cond (.t 17) .skip (.exit 0)))
  (.seq (.block 1 (.seq (.region [uo (.mv 20 (.t 0)), uo (.call 21 31 [.t 20]), uo (.asg 8 (.t 21))] [0, 5, 6, 7, 8])
    (.seq (.seq (.region [uo (.mv 22 (.t 6)), uo (.bin 23 .eql (.t 22) (ci 1))] [0, 5, 6, 7, 8, 23])
    (.cond (.t 23) (.region [uo (.mv 24 (.t 8)), uo (.bin 25 .rem (.t 24) (ci 2)), uo (.asg 8 (.t 25))] [0, 5, 6, 7, 8]) .skip))
    (.seq (.seq (.region [uo (.mv 26 (.t 6)), uo (.bin 27 .eql (.t 26) (ci 2))] [0, 5, 6, 7, 8, 27])
    (.cond (.t 27) (.region [uo (.mv 28 (.t 8)), uo (.bin 29 .rem (.t 28) (ci 4)), uo (.bin 30 .add (ci 97) (.t 29)), uo (.asg 8 (.t 30))] [0, 5, 6, 7, 8]) .skip))
    (.region [uo (.mv 31 (.t 5)), uo (.mv 32 (.t 8)), uo (.conv 33 .u8 (.t 32)), uo (.mk 34 [.int .u8 0] 1 [(0, .t 33)]), uo (.app 35 (.t 31) (.t 34) 1 1 false), uo (.asg 5 (.t 35))] [0, 5, 6, 7])))))
  (.region [uo (.mv 18 (.t 7)), uo (.bin 19 .sub (.t 18) (ci 1)), uo (.asg 7 (.t 19))] [0, 5, 6, 7]))
def spec_l1Text.b : VC := .seq (.region [uo (.asg 4 (.c (.leaf (.str ⟨#[]⟩))))] [0, 1])
  (.seq (.region [uo (.mk 9 [.int .u8 0] 0 []), uo (.asg 5 (.t 9))] [0, 1, 5])
  (.seq (.region [uo (.mv 10 (.t 0)), uo (.call 11 29 [.t 10, .c (.leaf (.int .i64 4))]), uo (.asg 6 (.t 11))] [0, 1, 5, 6])
  (.seq (.seq (.region [uo (.mv 12 (.t 0)), uo (.mv 13 (.t 1)), uo (.bin 14 .add (.t 13) (ci 1)), uo (.call 15 29 [.t 12, .t 14]), uo (.asg 7 (.t 15))] [0, 5, 6, 7])
  (.block 0 (.loop spec_l1Text.l0)))
  (.seq (.region [uo (.mv 36 (.t 5)), uo (.bytes 37 (.t 36)), uo (.asg 4 (.t 37))] [0, 4])
  .ret))))
def spec_l1Text : VFn := ⟨⟨[.M, .V], false⟩, spec_l1Text.b, [.tmp 4]⟩
theorem spec_l1Text.turned : compFn Tryd.prog ⟨[.M, .V], false⟩ spec_l1Text.body Tryd.f18 = some spec_l1Text := by kernel_rfl
def impl_inRange.b : VC := .seq (.region [uo (.asg 6 cf)] [0, 1, 2])
  (.seq (.region [uo (.mv 7 (.t 0)), uo (.mv 8 (.t 1)), uo (.bin 9 .geq (.t 7) (.t 8)), uo (.mv 10 (.t 9)), ut 10 (.mv 11 (.t 0)), ut 10 (.mv 12 (.t 2)), ut 10 (.bin 13 .leq (.t 11) (.t 12)), uo (.pick 14 (.t 10) (.t 13) cf), uo (.asg 6 (.t 14))] [6])
  .ret)
def impl_inRange : VFn := ⟨⟨[.V, .V, .V], true⟩, impl_inRange.b, [.tmp 6]⟩
theorem impl_inRange.turned : compFn Tryd.prog ⟨[.V, .V, .V], true⟩ impl_inRange.body Tryd.f19 = some impl_inRange := by kernel_rfl
def spec_Var.l0 : VC := .seq (.seq (.region [uo (.mv 8 (.t 0)), uo (.bin 9 .geq (.t 8) (ci 128))] [0, 3, 9])
  (.cond (.t 9) .skip (.exit 0)))
  (.block 1 (.seq (.region [uo (.mv 10 (.t 3)), uo (.mv 11 (.t 0)), uo (.bin 12 .rem (.t 11) (ci 128)), uo (.bin 13 .add (ci 128) (.t 12)), uo (.conv 14 .u8 (.t 13)), uo (.mk 15 [.int .u8 0] 1 [(0, .t 14)]), uo (.app 16 (.t 10) (.t 15) 1 1 false), uo (.asg 3 (.t 16))] [0, 3])
    (.region [uo (.mv 17 (.t 0)), uo (.bin 18 .quo (.t 17) (ci 128)), uo (.asg 0 (.t 18))] [0, 3])))
def spec_Var.b : VC := .seq (.region [uo (.asg 2 (.c (.leaf (.str ⟨#[]⟩))))] [0])
  (.seq (.seq (.region [uo (.mv 4 (.t 0)), uo (.call 5 38 [.t 4, .c (.leaf (.int .i64 0)), .c (.leaf (.int .i64 562949953421311))]), uo (.un 6 .not (.t 5))] [0, 6])
  (.cond (.t 6) (.seq (.region [uo (.asg 2 (.c (.leaf (.str ⟨#[]⟩))))] [2])
    .ret) .skip))
  (.seq (.region [uo (.mk 7 [.int .u8 0] 0 []), uo (.asg 3 (.t 7))] [0, 3])
  (.seq (.block 0 (.loop spec_Var.l0))
  (.seq (.region [uo (.mv 19 (.t 3)), uo (.mv 20 (.t 0)), uo (.conv 21 .u8 (.t 20)), uo (.mk 22 [.int .u8 0] 1 [(0, .t 21)]), uo (.app 23 (.t 19) (.t 22) 1 1 false), uo (.bytes 24 (.t 23)), uo (.asg 2 (.t 24))] [2])
  .ret))))
def spec_Var : VFn := ⟨⟨[.V], true⟩, spec_Var.b, [.tmp 2]⟩
theorem spec_Var.turned : compFn Tryd.prog ⟨[.V], true⟩ spec_Var.body Tryd.f26 = some spec_Var := by kernel_rfl
def spec_l1Once.b : VC := .seq (.region [uo (.asg 4 cf)] [0, 1])
  (.seq (.region [uo (.mv 5 (.t 0)), uo (.mv 6 (.t 1)), uo (.call 7 29 [.t 5, .t 6]), uo (.bin 8 .eql (.t 7) (ci 0)), uo (.asg 4 (.t 8))] [0, 4])
  .ret)
def spec_l1Once : VFn := ⟨⟨[.M, .V], false⟩, spec_l1Once.b, [.tmp 4]⟩
theorem spec_l1Once.turned : compFn Tryd.prog ⟨[.M, .V], false⟩ spec_l1Once.body Tryd.f27 = some spec_l1Once := by kernel_rfl
def spec_l1Spoil.b : VC := .seq (.region [uo (.asg 4 (.c (.leaf (.str ⟨#[]⟩))))] [0, 1])
  (.seq (.seq (.region [uo (.mv 6 (.t 1)), uo (.len 7 (.t 6) true), uo (.bin 8 .eql (.t 7) (ci 0))] [0, 1, 8])
  (.cond (.t 8) (.seq (.region [uo (.mv 9 (.t 0)), uo (.call 10 18 [.t 9, .c (.leaf (.int .i64 3))]), uo (.asg 4 (.t 10))] [0, 4])
    .ret) .skip))
  (.seq (.region [uo (.mv 11 (.t 0)), uo (.mv 12 (.t 1)), uo (.len 13 (.t 12) true), uo (.call 14 29 [.t 11, .t 13]), uo (.asg 5 (.t 14))] [0, 1, 5])
  (.seq (.seq (.region [uo (.mv 15 (.t 0)), uo (.call 16 29 [.t 15, .c (.leaf (.int .i64 4))])] [0, 1, 5, 16])
  (.block 0 (.seq (.region [uo (.bin 18 .eql (.t 16) (ci 0)), uo (.asg 17 (.t 18))] [0, 1, 5, 16, 17])
    (.cond (.t 17) (.seq (.draw [⟨uo (.mv 19 (.t 1)), true, 0, 0⟩, ⟨uo (.mv 20 (.t 5)), true, 0, 0⟩, ⟨uo (.subStr 21 (.t 19) none (some (.t 20))), true, 0, 0⟩, ⟨uo (.mv 22 (.t 1)), true, 0, 0⟩, ⟨uo (.mv 23 (.t 5)), true, 0, 0⟩, ⟨uo (.bin 24 .add (.t 23) (ci 1)), true, 0, 0⟩, ⟨uo (.subStr 25 (.t 22) (some (.t 24)) none), true, 0, 0⟩, ⟨uo (.bin 26 .add (.t 21) (.t 25)), true, 0, 0⟩, ⟨uo (.asg 4 (.t 26)), false, 0, 0⟩] [0, 4])
      .ret) (.seq (.region [uo (.bin 28 .eql (.t 16) (ci 1)), uo (.asg 27 (.t 28))] [0, 1, 5, 16, 27])
      (.cond (.t 27) (.seq (.draw [⟨uo (.mv 29 (.t 1)), true, 0, 2⟩, ⟨uo (.mv 30 (.t 5)), true, 0, 2⟩, ⟨uo (.subStr 31 (.t 29) none (some (.t 30))), true, 0, 2⟩, ⟨uo (.mv 32 (.t 0)), true, 0, 0⟩, ⟨uo (.call 33 31 [.t 32]), false, 0, 0⟩, ⟨uo (.conv 34 .u8 (.t 33)), true, 1, 1⟩, ⟨uo (.mk 35 [.int .u8 0] 1 [(0, .t 34)]), false, 1, 1⟩, ⟨uo (.bytes 36 (.t 35)), true, 2, 2⟩, ⟨uo (.bin 37 .add (.t 31) (.t 36)), true, 2, 2⟩, ⟨uo (.mv 38 (.t 1)), true, 0, 2⟩, ⟨uo (.mv 39 (.t 5)), true, 0, 2⟩, ⟨uo (.subStr 40 (.t 38) (some (.t 39)) none), true, 0, 2⟩, ⟨uo (.bin 41 .add (.t 37) (.t 40)), true, 2, 2⟩, ⟨uo (.asg 4 (.t 41)), false, 2, 2⟩] [0, 4])
        .ret) (.seq (.region [uo (.bin 43 .eql (.t 16) (ci 2)), uo (.asg 42 (.t 43))] [0, 1, 5, 42])
        (.cond (.t 42) (.seq (.region [uo (.mv 44 (.t 1)), uo (.mv 45 (.t 5)), uo (.subStr 46 (.t 44) none (some (.t 45))), uo (.asg 4 (.t 46))] [0, 4])
          .ret) .skip))))))))
  (.seq (.draw [⟨uo (.mv 47 (.t 1)), true, 0, 2⟩, ⟨uo (.mv 48 (.t 5)), true, 0, 2⟩, ⟨uo (.subStr 49 (.t 47) none (some (.t 48))), true, 0, 2⟩, ⟨uo (.mv 50 (.t 1)), true, 0, 1⟩, ⟨uo (.mv 51 (.t 5)), true, 0, 1⟩, ⟨uo (.byte 52 (.t 50) (.t 51)), true, 0, 1⟩, ⟨uo (.conv 53 .i64 (.t 52)), true, 0, 1⟩, ⟨uo (.mv 54 (.t 0)), true, 0, 0⟩, ⟨uo (.call 55 29 [.t 54, .c (.leaf (.int .i64 255))]), false, 0, 0⟩, ⟨uo (.bin 56 .add (ci 1) (.t 55)), true, 1, 1⟩, ⟨uo (.bin 57 .xor (.t 53) (.t 56)), true, 1, 1⟩, ⟨uo (.conv 58 .u8 (.t 57)), true, 1, 1⟩, ⟨uo (.mk 59 [.int .u8 0] 1 [(0, .t 58)]), false, 1, 1⟩, ⟨uo (.bytes 60 (.t 59)), true, 2, 2⟩, ⟨uo (.bin 61 .add (.t 49) (.t 60)), true, 2, 2⟩, ⟨uo (.mv 62 (.t 1)), true, 0, 2⟩, ⟨uo (.mv 63 (.t 5)), true, 0, 2⟩, ⟨uo (.bin 64 .add (.t 63) (ci 1)), true, 0, 2⟩, ⟨uo (.subStr 65 (.t 62) (some (.t 64)) none), true, 0, 2⟩, ⟨uo (.bin 66 .add (.t 61) (.t 65)), true, 2, 2⟩, ⟨uo (.asg 4 (.t 66)), false, 2, 2⟩] [0, 4])
  .ret))))
def spec_l1Spoil : VFn := ⟨⟨[.M, .V], false⟩, spec_l1Spoil.b, [.tmp 4]⟩
theorem spec_l1Spoil.turned : compFn Tryd.prog ⟨[.M, .V], false⟩ spec_l1Spoil.body Tryd.f28 = some spec_l1Spoil := by kernel_rfl
def spec_l1Below.b : VC := .seq (.region [uo (.asg 4 (ci 0))] [0, 1])
  (.seq (.seq (.region [uo (.mv 9 (.t 1)), uo (.bin 10 .leq (.t 9) (ci 0))] [0, 1, 10])
  (.cond (.t 10) (.seq (.region [uo (.asg 4 (ci 0))] [0, 4])
    .ret) .skip))
  (.seq (.seq (.region [uo (.mv 11 (.t 1)), uo (.bin 12 .leq (.t 11) (ci 256))] [0, 1, 12])
  (.cond (.t 12) (.seq (.region [uo (.mv 13 (.t 0)), uo (.call 14 31 [.t 13]), uo (.mv 15 (.t 1)), uo (.bin 16 .rem (.t 14) (.t 15)), uo (.asg 4 (.t 16))] [0, 4])
    .ret) .skip))
  (.seq (.region [uo (.mv 17 (.t 0)), uo (.call 18 31 [.t 17]), uo (.asg 5 (.t 18))] [0, 1, 5])
  (.seq (.region [uo (.mv 19 (.t 0)), uo (.call 20 31 [.t 19]), uo (.asg 6 (.t 20))] [0, 1, 5, 6])
  (.seq (.region [uo (.mv 21 (.t 0)), uo (.call 22 31 [.t 21]), uo (.asg 7 (.t 22))] [0, 1, 5, 6, 7])
  (.seq (.region [uo (.mv 23 (.t 0)), uo (.call 24 31 [.t 23]), uo (.asg 8 (.t 24))] [0, 1, 5, 6, 7, 8])
  (.seq (.region [uo (.mv 25 (.t 5)), uo (.bin 26 .mul (.t 25) (ci 16777216)), uo (.mv 27 (.t 6)), uo (.bin 28 .mul (.t 27) (ci 65536)), uo (.bin 29 .add (.t 26) (.t 28)), uo (.mv 30 (.t 7)), uo (.bin 31 .mul (.t 30) (ci 256)), uo (.bin 32 .add (.t 29) (.t 31)), uo (.mv 33 (.t 8)), uo (.bin 34 .add (.t 32) (.t 33)), uo (.mv 35 (.t 1)), uo (.bin 36 .rem (.t 34) (.t 35)), uo (.asg 4 (.t 36))] [0, 4])
  .ret)))))))
def spec_l1Below : VFn := ⟨⟨[.M, .V], false⟩, spec_l1Below.b, [.tmp 4]⟩
theorem spec_l1Below.turned : compFn Tryd.prog ⟨[.M, .V], false⟩ spec_l1Below.body Tryd.f29 = some spec_l1Below := by kernel_rfl
def spec_l1PickInt.b : VC := .seq (.region [uo (.asg 4 (ci 0))] [0, 1])
  (.seq (.region [uo (.mv 5 (.t 1)), uo (.mv 6 (.t 0)), uo (.mv 7 (.t 1)), uo (.len 8 (.t 7) false), uo (.call 9 29 [.t 6, .t 8]), uo (.idx 10 (.t 5) (.t 9) 1), uo (.load 11 (.t 10) 1 false), uo (.asg 4 (.t 11))] [0, 4])
  .ret)
def spec_l1PickInt : VFn := ⟨⟨[.M, .V], false⟩, spec_l1PickInt.b, [.tmp 4]⟩
theorem spec_l1PickInt.turned : compFn Tryd.prog ⟨[.M, .V], false⟩ spec_l1PickInt.body Tryd.f30 = some spec_l1PickInt := by kernel_rfl
def spec_l1Byte.b : VC := .seq (.region [uo (.asg 2 (ci 0))] [0])
  (.seq (.region [uo (.mv 4 (.t 0)), uo (.mv 5 (.t 0)), uo (.nil 6 (.t 5)), uo (.fld 7 (.t 6) 2), uo (.load 8 (.t 7) 1 false), uo (.bin 9 .mul (.t 8) (ci 6364136223846793005)), uo (.bin 10 .add (.t 9) (ci 1442695040888963407)), uo (.nil 11 (.t 4)), uo (.fld 12 (.t 11) 2), uo (.store (.t 12) (.t 10) 1)] [0])
  (.seq (.draw [⟨uo (.mv 13 (.t 0)), true, 0, 0⟩, ⟨uo (.nil 14 (.t 13)), true, 0, 0⟩, ⟨uo (.fld 15 (.t 14) 2), true, 0, 0⟩, ⟨uo (.load 16 (.t 15) 1 false), true, 0, 0⟩, ⟨uo (.bin 17 .shr (.t 16) (.c (.leaf (.int .u64 33)))), true, 0, 0⟩, ⟨uo (.mv 18 (.t 0)), true, 0, 0⟩, ⟨uo (.nil 19 (.t 18)), true, 0, 0⟩, ⟨uo (.fld 20 (.t 19) 2), true, 0, 0⟩, ⟨uo (.load 21 (.t 20) 1 false), true, 0, 0⟩, ⟨uo (.bin 22 .shr (.t 21) (.c (.leaf (.int .u64 45)))), true, 0, 0⟩, ⟨uo (.bin 23 .xor (.t 17) (.t 22)), true, 0, 0⟩, ⟨uo (.bin 24 .and (.t 23) (ci 255)), true, 0, 0⟩, ⟨uo (.asg 3 (.t 24)), false, 0, 0⟩] [0, 3])
  (.seq (.seq (.draw [⟨uo (.mv 25 (.t 0)), true, 0, 0⟩, ⟨uo (.nil 26 (.t 25)), true, 0, 0⟩, ⟨uo (.fld 27 (.t 26) 1), true, 0, 0⟩, ⟨uo (.load 28 (.t 27) 1 false), true, 0, 0⟩, ⟨uo (.mv 29 (.t 0)), true, 0, 0⟩, ⟨uo (.nil 30 (.t 29)), true, 0, 0⟩, ⟨uo (.fld 31 (.t 30) 0), true, 0, 0⟩, ⟨uo (.load 32 (.t 31) 1 false), true, 0, 0⟩, ⟨uo (.len 33 (.t 32) false), true, 0, 0⟩, ⟨uo (.bin 34 .lss (.t 28) (.t 33)), true, 0, 0⟩] [0, 3, 34])
  (.cond (.t 34) (.seq (.draw [⟨uo (.mv 35 (.t 3)), true, 0, 0⟩, ⟨uo (.mv 36 (.t 0)), true, 0, 0⟩, ⟨uo (.nil 37 (.t 36)), true, 0, 0⟩, ⟨uo (.fld 38 (.t 37) 0), true, 0, 0⟩, ⟨uo (.load 39 (.t 38) 1 false), true, 0, 0⟩, ⟨uo (.mv 40 (.t 0)), true, 0, 0⟩, ⟨uo (.nil 41 (.t 40)), true, 0, 0⟩, ⟨uo (.fld 42 (.t 41) 1), true, 0, 0⟩, ⟨uo (.load 43 (.t 42) 1 false), true, 0, 0⟩, ⟨uo (.idx 44 (.t 39) (.t 43) 1), true, 0, 0⟩, ⟨uo (.load 45 (.t 44) 1 false), true, 0, 0⟩, ⟨uo (.conv 46 .i64 (.t 45)), true, 0, 0⟩, ⟨uo (.bin 47 .add (.t 35) (.t 46)), true, 0, 0⟩, ⟨uo (.bin 48 .and (.t 47) (ci 255)), true, 0, 0⟩, ⟨uo (.asg 3 (.t 48)), false, 0, 0⟩] [0, 3])
    (.region [uo (.mv 49 (.t 0)), uo (.mv 50 (.t 0)), uo (.nil 51 (.t 50)), uo (.fld 52 (.t 51) 1), uo (.load 53 (.t 52) 1 false), uo (.bin 54 .add (.t 53) (ci 1)), uo (.nil 55 (.t 49)), uo (.fld 56 (.t 55) 1), uo (.store (.t 56) (.t 54) 1)] [0, 3])) .skip))
  (.seq (.region [uo (.mv 57 (.t 3)), uo (.asg 2 (.t 57))] [0, 2])
  .ret))))
def spec_l1Byte : VFn := ⟨⟨[.M], false⟩, spec_l1Byte.b, [.tmp 2]⟩
theorem spec_l1Byte.turned : compFn Tryd.prog ⟨[.M], false⟩ spec_l1Byte.body Tryd.f31 = some spec_l1Byte := by kernel_rfl
def spec_l1In.b : VC := .seq (.region [uo (.asg 6 cf)] [0, 1, 2])
  (.seq (.region [uo (.mv 7 (.t 0)), uo (.mv 8 (.t 1)), uo (.bin 9 .geq (.t 7) (.t 8)), uo (.mv 10 (.t 9)), ut 10 (.mv 11 (.t 0)), ut 10 (.mv 12 (.t 2)), ut 10 (.bin 13 .leq (.t 11) (.t 12)), uo (.pick 14 (.t 10) (.t 13) cf), uo (.asg 6 (.t 14))] [6])
  .ret)
def spec_l1In : VFn := ⟨⟨[.V, .V, .V], true⟩, spec_l1In.b, [.tmp 6]⟩
theorem spec_l1In.turned : compFn Tryd.prog ⟨[.V, .V, .V], true⟩ spec_l1In.body Tryd.f38 = some spec_l1In := by kernel_rfl
end Go.Proofs.YticecjjfbjnaaaaDoor.FN
