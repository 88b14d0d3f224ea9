/- Proved here: laws that the statements need (ZtC2, ZtC3, ZtR1, ZtR2, ZtR3). No conditions but those that each law states. -/
import Derived.Test.YtcpkkjbkbdmopaaGreatFL
import Derived.Test.YtcpkkjbkbdmopaaGreatFP
import Derived.Test.YtcpkkjbkbdmopaaGreatProg
import Derived.Test.YtcpkkjbkbdmopaaGreatZB

set_option linter.unusedSimpArgs false
set_option linter.unusedVariables false

/- Compiled code of functions, printed by program; each is checked to be the program's. No conditions. -/
namespace Go.Proofs.YtcpkkjbkbdmopaaGreat
open Go Go.Ab
/-- dipworks/dipworksref06.Towels -/
def c48 : AC :=
 .seq (.reg [⟨(some 1), none, .box (.tmp 0)⟩,
 ⟨(some 2), none, .mov (.lit (.bool false))⟩])
 (.seq (.seq (.reg [⟨(some 8), none, .faddr 1 (.tmp 1)⟩,
 ⟨(some 9), none, .load false 1 (.tmp 8)⟩,
 ⟨(some 10), none, .len (.tmp 9)⟩,
 ⟨(some 11), none, .bin .gtr (.tmp 10) (.lit (.int .i64 3))⟩,
 ⟨(some 12), none, .mov (.tmp 11)⟩,
 ⟨(some 13), (some (12, false)), .faddr 2 (.tmp 1)⟩,
 ⟨(some 14), (some (12, false)), .load false 1 (.tmp 13)⟩,
 ⟨(some 15), (some (12, false)), .len (.tmp 14)⟩,
 ⟨(some 16), (some (12, false)), .bin .gtr (.tmp 15) (.lit (.int .i64 3))⟩,
 ⟨(some 17), none, .pick (.tmp 12) (.lit (.bool true)) (.tmp 16)⟩,
 ⟨(some 18), none, .mov (.tmp 17)⟩,
 ⟨(some 19), (some (18, false)), .faddr 0 (.tmp 1)⟩,
 ⟨(some 20), (some (18, false)), .load false 1 (.tmp 19)⟩,
 ⟨(some 21), (some (18, false)), .len (.tmp 20)⟩,
 ⟨(some 22), (some (18, false)), .bin .gtr (.tmp 21) (.lit (.int .i64 6))⟩,
 ⟨(some 23), none, .pick (.tmp 18) (.lit (.bool true)) (.tmp 22)⟩])
 (.cond (.tmp 23) (.seq (.reg [⟨(some 2), none, .mov (.lit (.bool false))⟩])
 (.ret))
 (.skip)))
 (.seq (.seq (.reg [⟨(some 3), none, .mov (.lit (.int .i64 0))⟩])
 (.block 0 (.loop (.seq (.seq (.reg [⟨(some 24), none, .mov (.tmp 3)⟩,
 ⟨(some 25), none, .faddr 1 (.tmp 1)⟩,
 ⟨(some 26), none, .load false 1 (.tmp 25)⟩,
 ⟨(some 27), none, .len (.tmp 26)⟩,
 ⟨(some 28), none, .bin .lss (.tmp 24) (.tmp 27)⟩])
 (.cond (.tmp 28) (.skip)
 (.exit 0)))
 (.seq (.block 1 (.seq (.reg [⟨(some 31), none, .faddr 1 (.tmp 1)⟩,
 ⟨(some 32), none, .load false 1 (.tmp 31)⟩,
 ⟨(some 33), none, .mov (.tmp 3)⟩,
 ⟨(some 34), none, .iaddr 2 (.tmp 32) (.tmp 33)⟩,
 ⟨(some 35), none, .load true 2 (.tmp 34)⟩,
 ⟨(some 36), none, .call (.fn 77) [(.tmp 35), (.lit (.int .i64 24))]⟩,
 ⟨(some 37), none, .un .not (.tmp 36)⟩])
 (.cond (.tmp 37) (.seq (.reg [⟨(some 2), none, .mov (.lit (.bool false))⟩])
 (.ret))
 (.skip))))
 (.reg [⟨(some 29), none, .mov (.tmp 3)⟩,
 ⟨(some 30), none, .bin .add (.tmp 29) (.lit (.int .i64 1))⟩,
 ⟨(some 3), none, .mov (.tmp 30)⟩]))))))
 (.seq (.seq (.reg [⟨(some 4), none, .mov (.lit (.int .i64 0))⟩])
 (.block 2 (.loop (.seq (.seq (.reg [⟨(some 38), none, .mov (.tmp 4)⟩,
 ⟨(some 39), none, .faddr 2 (.tmp 1)⟩,
 ⟨(some 40), none, .load false 1 (.tmp 39)⟩,
 ⟨(some 41), none, .len (.tmp 40)⟩,
 ⟨(some 42), none, .bin .lss (.tmp 38) (.tmp 41)⟩])
 (.cond (.tmp 42) (.skip)
 (.exit 2)))
 (.seq (.block 3 (.seq (.reg [⟨(some 45), none, .faddr 2 (.tmp 1)⟩,
 ⟨(some 46), none, .load false 1 (.tmp 45)⟩,
 ⟨(some 47), none, .mov (.tmp 4)⟩,
 ⟨(some 48), none, .iaddr 2 (.tmp 46) (.tmp 47)⟩,
 ⟨(some 49), none, .load true 2 (.tmp 48)⟩,
 ⟨(some 50), none, .call (.fn 77) [(.tmp 49), (.lit (.int .i64 24))]⟩,
 ⟨(some 51), none, .un .not (.tmp 50)⟩])
 (.cond (.tmp 51) (.seq (.reg [⟨(some 2), none, .mov (.lit (.bool false))⟩])
 (.ret))
 (.skip))))
 (.reg [⟨(some 43), none, .mov (.tmp 4)⟩,
 ⟨(some 44), none, .bin .add (.tmp 43) (.lit (.int .i64 1))⟩,
 ⟨(some 4), none, .mov (.tmp 44)⟩]))))))
 (.seq (.seq (.reg [⟨(some 5), none, .mov (.lit (.int .i64 0))⟩])
 (.block 4 (.loop (.seq (.seq (.reg [⟨(some 52), none, .mov (.tmp 5)⟩,
 ⟨(some 53), none, .faddr 0 (.tmp 1)⟩,
 ⟨(some 54), none, .load false 1 (.tmp 53)⟩,
 ⟨(some 55), none, .len (.tmp 54)⟩,
 ⟨(some 56), none, .bin .lss (.tmp 52) (.tmp 55)⟩])
 (.cond (.tmp 56) (.skip)
 (.exit 4)))
 (.seq (.block 5 (.seq (.reg [⟨(some 59), none, .faddr 0 (.tmp 1)⟩,
 ⟨(some 60), none, .load false 1 (.tmp 59)⟩,
 ⟨(some 61), none, .mov (.tmp 5)⟩,
 ⟨(some 62), none, .iaddr 6 (.tmp 60) (.tmp 61)⟩,
 ⟨(some 63), none, .load true 6 (.tmp 62)⟩,
 ⟨(some 6), none, .alloc [(.int .i64 0), (.int .i64 0), (.int .i64 0), (.int .i64 0), (.int .i64 0), (.int .i64 0)]⟩,
 ⟨none, none, .store 6 (.tmp 6) (.tmp 63)⟩])
 (.seq (.seq (.reg [⟨(some 64), none, .faddr 0 (.tmp 6)⟩,
 ⟨(some 65), none, .load false 1 (.tmp 64)⟩,
 ⟨(some 66), none, .faddr 1 (.tmp 1)⟩,
 ⟨(some 67), none, .load false 1 (.tmp 66)⟩,
 ⟨(some 68), none, .len (.tmp 67)⟩,
 ⟨(some 69), none, .bin .sub (.tmp 68) (.lit (.int .i64 1))⟩,
 ⟨(some 70), none, .call (.fn 75) [(.tmp 65), (.lit (.int .i64 0)), (.tmp 69)]⟩,
 ⟨(some 71), none, .un .not (.tmp 70)⟩,
 ⟨(some 72), none, .mov (.tmp 71)⟩,
 ⟨(some 73), (some (72, false)), .faddr 1 (.tmp 6)⟩,
 ⟨(some 74), (some (72, false)), .load false 1 (.tmp 73)⟩,
 ⟨(some 75), (some (72, false)), .faddr 2 (.tmp 1)⟩,
 ⟨(some 76), (some (72, false)), .load false 1 (.tmp 75)⟩,
 ⟨(some 77), (some (72, false)), .len (.tmp 76)⟩,
 ⟨(some 78), (some (72, false)), .bin .sub (.tmp 77) (.lit (.int .i64 1))⟩,
 ⟨(some 79), (some (72, false)), .call (.fn 75) [(.tmp 74), (.lit (.int .i64 0)), (.tmp 78)]⟩,
 ⟨(some 80), (some (72, false)), .un .not (.tmp 79)⟩,
 ⟨(some 81), none, .pick (.tmp 72) (.lit (.bool true)) (.tmp 80)⟩,
 ⟨(some 82), none, .mov (.tmp 81)⟩,
 ⟨(some 83), (some (82, false)), .faddr 2 (.tmp 6)⟩,
 ⟨(some 84), (some (82, false)), .load true 2 (.tmp 83)⟩,
 ⟨(some 85), (some (82, false)), .call (.fn 77) [(.tmp 84), (.lit (.int .i64 4))]⟩,
 ⟨(some 86), (some (82, false)), .un .not (.tmp 85)⟩,
 ⟨(some 87), none, .pick (.tmp 82) (.lit (.bool true)) (.tmp 86)⟩,
 ⟨(some 88), none, .mov (.tmp 87)⟩,
 ⟨(some 89), (some (88, false)), .faddr 4 (.tmp 6)⟩,
 ⟨(some 90), (some (88, false)), .load true 2 (.tmp 89)⟩,
 ⟨(some 91), (some (88, false)), .call (.fn 77) [(.tmp 90), (.lit (.int .i64 4))]⟩,
 ⟨(some 92), (some (88, false)), .un .not (.tmp 91)⟩,
 ⟨(some 93), none, .pick (.tmp 88) (.lit (.bool true)) (.tmp 92)⟩,
 ⟨(some 94), none, .mov (.tmp 93)⟩,
 ⟨(some 95), (some (94, false)), .faddr 4 (.tmp 6)⟩,
 ⟨(some 96), (some (94, false)), .faddr 0 (.tmp 95)⟩,
 ⟨(some 97), (some (94, false)), .load false 1 (.tmp 96)⟩,
 ⟨(some 98), (some (94, false)), .faddr 2 (.tmp 6)⟩,
 ⟨(some 99), (some (94, false)), .faddr 1 (.tmp 98)⟩,
 ⟨(some 100), (some (94, false)), .load false 1 (.tmp 99)⟩,
 ⟨(some 101), (some (94, false)), .bin .gtr (.tmp 97) (.tmp 100)⟩,
 ⟨(some 102), none, .pick (.tmp 94) (.lit (.bool true)) (.tmp 101)⟩])
 (.cond (.tmp 102) (.seq (.reg [⟨(some 2), none, .mov (.lit (.bool false))⟩])
 (.ret))
 (.skip)))
 (.seq (.reg [⟨(some 7), none, .mov (.lit (.int .i64 0))⟩])
 (.block 6 (.loop (.seq (.seq (.reg [⟨(some 103), none, .mov (.tmp 7)⟩,
 ⟨(some 104), none, .mov (.tmp 5)⟩,
 ⟨(some 105), none, .bin .lss (.tmp 103) (.tmp 104)⟩])
 (.cond (.tmp 105) (.skip)
 (.exit 6)))
 (.seq (.block 7 (.seq (.draw (.step ⟨(some 108), none, .faddr 0 (.tmp 1)⟩ (
 .step ⟨(some 109), none, .load false 1 (.tmp 108)⟩ (
 .step ⟨(some 110), none, .mov (.tmp 7)⟩ (
 .step ⟨(some 111), none, .iaddr 6 (.tmp 109) (.tmp 110)⟩ (
 .step ⟨(some 112), none, .faddr 0 (.tmp 111)⟩ (
 .step ⟨(some 113), none, .load false 1 (.tmp 112)⟩ (
 .step ⟨(some 114), none, .faddr 0 (.tmp 6)⟩ (
 .step ⟨(some 115), none, .load false 1 (.tmp 114)⟩ (
 .step ⟨(some 116), none, .bin .eql (.tmp 113) (.tmp 115)⟩ (
 .step ⟨(some 117), none, .mov (.tmp 116)⟩ (
 .step ⟨(some 118), (some (117, true)), .faddr 0 (.tmp 1)⟩ (
 .step ⟨(some 119), (some (117, true)), .load false 1 (.tmp 118)⟩ (
 .step ⟨(some 120), (some (117, true)), .mov (.tmp 7)⟩ (
 .step ⟨(some 121), (some (117, true)), .iaddr 6 (.tmp 119) (.tmp 120)⟩ (
 .step ⟨(some 122), (some (117, true)), .faddr 1 (.tmp 121)⟩ (
 .step ⟨(some 123), (some (117, true)), .load false 1 (.tmp 122)⟩ (
 .step ⟨(some 124), (some (117, true)), .faddr 1 (.tmp 6)⟩ (
 .step ⟨(some 125), (some (117, true)), .load false 1 (.tmp 124)⟩ (
 .step ⟨(some 126), (some (117, true)), .bin .eql (.tmp 123) (.tmp 125)⟩ (
 .step ⟨(some 127), none, .pick (.tmp 117) (.tmp 126) (.lit (.bool false))⟩ (
 .done))))))))))))))))))))))
 (.cond (.tmp 127) (.seq (.reg [⟨(some 2), none, .mov (.lit (.bool false))⟩])
 (.ret))
 (.skip))))
 (.reg [⟨(some 106), none, .mov (.tmp 7)⟩,
 ⟨(some 107), none, .bin .add (.tmp 106) (.lit (.int .i64 1))⟩,
 ⟨(some 7), none, .mov (.tmp 107)⟩])))))))))
 (.reg [⟨(some 57), none, .mov (.tmp 5)⟩,
 ⟨(some 58), none, .bin .add (.tmp 57) (.lit (.int .i64 1))⟩,
 ⟨(some 5), none, .mov (.tmp 58)⟩]))))))
 (.seq (.reg [⟨(some 2), none, .mov (.lit (.bool true))⟩])
 (.ret))))))
theorem k48 : FnC Tryz.prog 48 128 [] [] [.tmp 2] c48 1 := ⟨Tryz.f48, _, Tryz.func48, rfl, by decide, rfl, by decide, by kernel_rfl, by kernel_rfl⟩
/-- dipworks/dipworksref06.Words -/
def c18 : AC :=
 .seq (.reg [⟨(some 1), none, .box (.tmp 0)⟩,
 ⟨(some 2), none, .alloc [(.int .i64 0), (.int .i64 0)]⟩])
 (.seq (.reg [⟨(some 3), none, .faddr 2 (.tmp 1)⟩,
 ⟨(some 4), none, .faddr 0 (.tmp 3)⟩,
 ⟨(some 5), none, .load false 1 (.tmp 4)⟩,
 ⟨(some 6), none, .faddr 4 (.tmp 1)⟩,
 ⟨(some 7), none, .faddr 1 (.tmp 6)⟩,
 ⟨(some 8), none, .load false 1 (.tmp 7)⟩,
 ⟨(some 9), none, .bin .sub (.tmp 5) (.tmp 8)⟩,
 ⟨(some 10), none, .mxmn true (.lit (.int .i64 0)) [(.tmp 9)]⟩,
 ⟨(some 11), none, .faddr 2 (.tmp 1)⟩,
 ⟨(some 12), none, .faddr 1 (.tmp 11)⟩,
 ⟨(some 13), none, .load false 1 (.tmp 12)⟩,
 ⟨(some 14), none, .faddr 4 (.tmp 1)⟩,
 ⟨(some 15), none, .faddr 0 (.tmp 14)⟩,
 ⟨(some 16), none, .load false 1 (.tmp 15)⟩,
 ⟨(some 17), none, .bin .sub (.tmp 13) (.tmp 16)⟩,
 ⟨(some 18), none, .build [(.int .i64 0), (.int .i64 0)] [(0, 1, (.tmp 10)), (1, 1, (.tmp 17))]⟩,
 ⟨none, none, .store 2 (.tmp 2) (.tmp 18)⟩])
 (.ret))
theorem k18 : FnC Tryz.prog 18 19 [2] [] [.cell 2 true 2] c18 1 := ⟨Tryz.f18, _, Tryz.func18, rfl, by decide, rfl, by decide, by kernel_rfl, by kernel_rfl⟩
/-- dipworks/dipworksref06.span -/
def c77 : AC :=
 .seq (.reg [⟨(some 2), none, .box (.tmp 0)⟩,
 ⟨(some 4), none, .mov (.lit (.bool false))⟩])
 (.seq (.reg [⟨(some 5), none, .faddr 0 (.tmp 2)⟩,
 ⟨(some 6), none, .load false 1 (.tmp 5)⟩,
 ⟨(some 7), none, .bin .leq (.lit (.int .i64 0)) (.tmp 6)⟩,
 ⟨(some 8), none, .mov (.tmp 7)⟩,
 ⟨(some 9), (some (8, true)), .faddr 0 (.tmp 2)⟩,
 ⟨(some 10), (some (8, true)), .load false 1 (.tmp 9)⟩,
 ⟨(some 11), (some (8, true)), .faddr 1 (.tmp 2)⟩,
 ⟨(some 12), (some (8, true)), .load false 1 (.tmp 11)⟩,
 ⟨(some 13), (some (8, true)), .bin .leq (.tmp 10) (.tmp 12)⟩,
 ⟨(some 14), none, .pick (.tmp 8) (.tmp 13) (.lit (.bool false))⟩,
 ⟨(some 15), none, .mov (.tmp 14)⟩,
 ⟨(some 16), (some (15, true)), .faddr 1 (.tmp 2)⟩,
 ⟨(some 17), (some (15, true)), .load false 1 (.tmp 16)⟩,
 ⟨(some 18), (some (15, true)), .mov (.tmp 1)⟩,
 ⟨(some 19), (some (15, true)), .bin .leq (.tmp 17) (.tmp 18)⟩,
 ⟨(some 20), none, .pick (.tmp 15) (.tmp 19) (.lit (.bool false))⟩,
 ⟨(some 4), none, .mov (.tmp 20)⟩])
 (.ret))
theorem k77 : FnC Tryz.prog 77 21 [] [] [.tmp 4] c77 2 := ⟨Tryz.f77, _, Tryz.func77, rfl, by decide, rfl, by decide, by kernel_rfl, by kernel_rfl⟩
/-- dipworks/dipworksref06.in -/
def c75 : AC :=
 .seq (.reg [⟨(some 6), none, .mov (.lit (.bool false))⟩])
 (.seq (.reg [⟨(some 7), none, .mov (.tmp 1)⟩,
 ⟨(some 8), none, .mov (.tmp 0)⟩,
 ⟨(some 9), none, .bin .leq (.tmp 7) (.tmp 8)⟩,
 ⟨(some 10), none, .mov (.tmp 9)⟩,
 ⟨(some 11), (some (10, true)), .mov (.tmp 0)⟩,
 ⟨(some 12), (some (10, true)), .mov (.tmp 2)⟩,
 ⟨(some 13), (some (10, true)), .bin .leq (.tmp 11) (.tmp 12)⟩,
 ⟨(some 14), none, .pick (.tmp 10) (.tmp 13) (.lit (.bool false))⟩,
 ⟨(some 6), none, .mov (.tmp 14)⟩])
 (.ret))
theorem k75 : FnC Tryz.prog 75 15 [] [] [.tmp 6] c75 3 := ⟨Tryz.f75, _, Tryz.func75, rfl, by decide, rfl, by decide, by kernel_rfl, by kernel_rfl⟩
end Go.Proofs.YtcpkkjbkbdmopaaGreat

/- Compiled code of functions, printed by program; each is checked to be the program's. No conditions. -/
namespace Go.Proofs.YtcpkkjbkbdmopaaGreat
open Go Go.Ab
/-- dipworks/dipworksref06.Kept -/
def c47 : AC :=
 .seq (.reg [⟨(some 2), none, .box (.tmp 0)⟩,
 ⟨(some 4), none, .alloc [(.int .i64 0), (.int .i64 0)]⟩,
 ⟨(some 5), none, .mov (.lit (.int .i64 0))⟩])
 (.seq (.draw (.step ⟨(some 11), none, .load true 3 (.tmp 2)⟩ (
 .step ⟨(some 12), none, .load true 3 (.tmp 2)⟩ (
 .step ⟨(some 13), none, .mov (.tmp 1)⟩ (
 .ev ⟨(some 14), none, .call (.fn 46) [(.tmp 12), (.tmp 13)]⟩ [⟨(some 11), none, .load true 3 (.tmp 2)⟩] (
 .ev ⟨(some 15), none, .call (.fn 76) [(.tmp 11), (.tmp 14)]⟩ [⟨(some 12), none, .load true 3 (.tmp 2)⟩] (
 .step ⟨(some 10), none, .mov (.tmp 15)⟩ (
 .step ⟨(some 16), none, .ext (.tmp 10) 0⟩ (
 .step ⟨(some 17), none, .ext (.tmp 10) 1⟩ (
 .step ⟨(some 6), none, .mov (.tmp 16)⟩ (
 .step ⟨(some 7), none, .mov (.tmp 17)⟩ (
 .done))))))
 (.stop))
 (.stop))))))
 (.seq (.seq (.reg [⟨(some 18), none, .mov (.tmp 7)⟩,
 ⟨(some 19), none, .bin .neq (.tmp 18) (.lit (.int .i64 0))⟩])
 (.cond (.tmp 19) (.seq (.reg [⟨(some 20), none, .build [(.int .i64 0), (.int .i64 0)] []⟩,
 ⟨(some 21), none, .mov (.tmp 7)⟩,
 ⟨none, none, .store 2 (.tmp 4) (.tmp 20)⟩,
 ⟨(some 5), none, .mov (.tmp 21)⟩])
 (.ret))
 (.skip)))
 (.seq (.draw (.step ⟨(some 22), none, .mov (.tmp 6)⟩ (
 .step ⟨(some 23), none, .iaddr 1 (.tmp 22) (.lit (.int .i64 0))⟩ (
 .step ⟨(some 24), none, .load false 1 (.tmp 23)⟩ (
 .step ⟨(some 25), none, .mov (.tmp 1)⟩ (
 .step ⟨(some 26), none, .iaddr 1 (.tmp 24) (.tmp 25)⟩ (
 .step ⟨(some 27), none, .load false 1 (.tmp 26)⟩ (
 .step ⟨(some 28), none, .mov (.tmp 6)⟩ (
 .step ⟨(some 29), none, .iaddr 1 (.tmp 28) (.lit (.int .i64 0))⟩ (
 .step ⟨(some 30), none, .load false 1 (.tmp 29)⟩ (
 .step ⟨(some 31), none, .mov (.tmp 1)⟩ (
 .step ⟨(some 32), none, .iaddr 1 (.tmp 30) (.tmp 31)⟩ (
 .step ⟨(some 33), none, .load false 1 (.tmp 32)⟩ (
 .step ⟨(some 34), none, .build [(.int .i64 0), (.int .i64 0)] [(0, 1, (.tmp 27)), (1, 1, (.tmp 33))]⟩ (
 .ev ⟨(some 8), none, .alloc [(.int .i64 0), (.int .i64 0)]⟩ [⟨(some 33), none, .load false 1 (.tmp 32)⟩, ⟨(some 32), none, .iaddr 1 (.tmp 30) (.tmp 31)⟩, ⟨(some 30), none, .load false 1 (.tmp 29)⟩, ⟨(some 29), none, .iaddr 1 (.tmp 28) (.lit (.int .i64 0))⟩, ⟨(some 27), none, .load false 1 (.tmp 26)⟩, ⟨(some 26), none, .iaddr 1 (.tmp 24) (.tmp 25)⟩, ⟨(some 24), none, .load false 1 (.tmp 23)⟩, ⟨(some 23), none, .iaddr 1 (.tmp 22) (.lit (.int .i64 0))⟩] (
 .ev ⟨none, none, .store 2 (.tmp 8) (.tmp 34)⟩ [] (
 .done)
 (.stop))
 (.stop))))))))))))))))
 (.seq (.seq (.reg [⟨(some 9), none, .mov (.lit (.int .i64 0))⟩])
 (.block 0 (.loop (.seq (.seq (.reg [⟨(some 35), none, .mov (.tmp 9)⟩,
 ⟨(some 36), none, .mov (.tmp 6)⟩,
 ⟨(some 37), none, .len (.tmp 36)⟩,
 ⟨(some 38), none, .bin .lss (.tmp 35) (.tmp 37)⟩])
 (.cond (.tmp 38) (.skip)
 (.exit 0)))
 (.seq (.block 1 (.draw (.step ⟨(some 41), none, .faddr 0 (.tmp 8)⟩ (
 .step ⟨(some 42), none, .load false 1 (.tmp 41)⟩ (
 .step ⟨(some 43), none, .mov (.tmp 6)⟩ (
 .step ⟨(some 44), none, .mov (.tmp 9)⟩ (
 .step ⟨(some 45), none, .iaddr 1 (.tmp 43) (.tmp 44)⟩ (
 .step ⟨(some 46), none, .load false 1 (.tmp 45)⟩ (
 .step ⟨(some 47), none, .mov (.tmp 1)⟩ (
 .step ⟨(some 48), none, .iaddr 1 (.tmp 46) (.tmp 47)⟩ (
 .step ⟨(some 49), none, .load false 1 (.tmp 48)⟩ (
 .step ⟨(some 50), none, .mxmn false (.tmp 42) [(.tmp 49)]⟩ (
 .step ⟨(some 51), none, .faddr 1 (.tmp 8)⟩ (
 .step ⟨(some 52), none, .load false 1 (.tmp 51)⟩ (
 .step ⟨(some 53), none, .mov (.tmp 6)⟩ (
 .step ⟨(some 54), none, .mov (.tmp 9)⟩ (
 .step ⟨(some 55), none, .iaddr 1 (.tmp 53) (.tmp 54)⟩ (
 .step ⟨(some 56), none, .load false 1 (.tmp 55)⟩ (
 .step ⟨(some 57), none, .mov (.tmp 1)⟩ (
 .step ⟨(some 58), none, .iaddr 1 (.tmp 56) (.tmp 57)⟩ (
 .step ⟨(some 59), none, .load false 1 (.tmp 58)⟩ (
 .step ⟨(some 60), none, .mxmn true (.tmp 52) [(.tmp 59)]⟩ (
 .step ⟨(some 61), none, .build [(.int .i64 0), (.int .i64 0)] [(0, 1, (.tmp 50)), (1, 1, (.tmp 60))]⟩ (
 .ev ⟨none, none, .store 2 (.tmp 8) (.tmp 61)⟩ [] (
 .done)
 (.stop)))))))))))))))))))))))))
 (.reg [⟨(some 39), none, .mov (.tmp 9)⟩,
 ⟨(some 40), none, .bin .add (.tmp 39) (.lit (.int .i64 1))⟩,
 ⟨(some 9), none, .mov (.tmp 40)⟩]))))))
 (.seq (.reg [⟨(some 62), none, .load true 2 (.tmp 8)⟩,
 ⟨none, none, .store 2 (.tmp 4) (.tmp 62)⟩,
 ⟨(some 5), none, .mov (.lit (.int .i64 0))⟩])
 (.ret))))))
theorem k47 : FnC Tryz.prog 47 63 [4] [] [.cell 4 true 2, .tmp 5] c47 2 := ⟨Tryz.f47, _, Tryz.func47, rfl, by decide, rfl, by decide, by kernel_rfl, by kernel_rfl⟩
/-- dipworks/dipworksref06.All -/
def c67 : AC :=
 .seq (.reg [⟨(some 1), none, .box (.tmp 0)⟩,
 ⟨(some 2), none, .alloc [(.int .i64 0), (.int .i64 0)]⟩,
 ⟨(some 3), none, .mov (.lit (.int .i64 0))⟩])
 (.seq (.reg [⟨(some 9), none, .load true 3 (.tmp 1)⟩,
 ⟨(some 10), none, .call (.fn 76) [(.tmp 9), (.lit (.bool true))]⟩,
 ⟨(some 8), none, .mov (.tmp 10)⟩,
 ⟨(some 11), none, .ext (.tmp 8) 0⟩,
 ⟨(some 12), none, .ext (.tmp 8) 1⟩,
 ⟨(some 4), none, .mov (.tmp 11)⟩,
 ⟨(some 5), none, .mov (.tmp 12)⟩])
 (.seq (.seq (.reg [⟨(some 13), none, .mov (.tmp 5)⟩,
 ⟨(some 14), none, .bin .neq (.tmp 13) (.lit (.int .i64 0))⟩])
 (.cond (.tmp 14) (.seq (.reg [⟨(some 15), none, .build [(.int .i64 0), (.int .i64 0)] []⟩,
 ⟨(some 16), none, .mov (.tmp 5)⟩,
 ⟨none, none, .store 2 (.tmp 2) (.tmp 15)⟩,
 ⟨(some 3), none, .mov (.tmp 16)⟩])
 (.ret))
 (.skip)))
 (.seq (.draw (.step ⟨(some 17), none, .mov (.tmp 4)⟩ (
 .step ⟨(some 18), none, .iaddr 1 (.tmp 17) (.lit (.int .i64 0))⟩ (
 .step ⟨(some 19), none, .load false 1 (.tmp 18)⟩ (
 .step ⟨(some 21), none, .mov (.tmp 4)⟩ (
 .step ⟨(some 22), none, .iaddr 1 (.tmp 21) (.lit (.int .i64 0))⟩ (
 .step ⟨(some 23), none, .load false 1 (.tmp 22)⟩ (
 .ev ⟨(some 20), none, .call (.fn 89) [(.tmp 19)]⟩ [⟨(some 23), none, .load false 1 (.tmp 22)⟩, ⟨(some 22), none, .iaddr 1 (.tmp 21) (.lit (.int .i64 0))⟩, ⟨(some 18), none, .iaddr 1 (.tmp 17) (.lit (.int .i64 0))⟩] (
 .ev ⟨(some 24), none, .call (.fn 89) [(.tmp 23)]⟩ [⟨(some 22), none, .iaddr 1 (.tmp 21) (.lit (.int .i64 0))⟩, ⟨(some 19), none, .load false 1 (.tmp 18)⟩, ⟨(some 18), none, .iaddr 1 (.tmp 17) (.lit (.int .i64 0))⟩] (
 .step ⟨(some 25), none, .build [(.int .i64 0), (.int .i64 0)] [(0, 1, (.tmp 20)), (1, 1, (.tmp 24))]⟩ (
 .ev ⟨(some 6), none, .alloc [(.int .i64 0), (.int .i64 0)]⟩ [⟨(some 23), none, .load false 1 (.tmp 22)⟩, ⟨(some 22), none, .iaddr 1 (.tmp 21) (.lit (.int .i64 0))⟩, ⟨(some 19), none, .load false 1 (.tmp 18)⟩, ⟨(some 18), none, .iaddr 1 (.tmp 17) (.lit (.int .i64 0))⟩] (
 .ev ⟨none, none, .store 2 (.tmp 6) (.tmp 25)⟩ [] (
 .done)
 (.stop))
 (.stop)))
 (.ev ⟨(some 6), none, .alloc [(.int .i64 0), (.int .i64 0)]⟩ [⟨(some 23), none, .load false 1 (.tmp 22)⟩, ⟨(some 22), none, .iaddr 1 (.tmp 21) (.lit (.int .i64 0))⟩, ⟨(some 19), none, .load false 1 (.tmp 18)⟩, ⟨(some 18), none, .iaddr 1 (.tmp 17) (.lit (.int .i64 0))⟩] (
 .ev ⟨(some 24), none, .call (.fn 89) [(.tmp 23)]⟩ [⟨(some 22), none, .iaddr 1 (.tmp 21) (.lit (.int .i64 0))⟩, ⟨(some 19), none, .load false 1 (.tmp 18)⟩, ⟨(some 18), none, .iaddr 1 (.tmp 17) (.lit (.int .i64 0))⟩] (
 .step ⟨(some 25), none, .build [(.int .i64 0), (.int .i64 0)] [(0, 1, (.tmp 20)), (1, 1, (.tmp 24))]⟩ (
 .ev ⟨none, none, .store 2 (.tmp 6) (.tmp 25)⟩ [] (
 .done)
 (.stop)))
 (.stop))
 (.stop)))
 (.ev ⟨(some 6), none, .alloc [(.int .i64 0), (.int .i64 0)]⟩ [⟨(some 23), none, .load false 1 (.tmp 22)⟩, ⟨(some 22), none, .iaddr 1 (.tmp 21) (.lit (.int .i64 0))⟩, ⟨(some 19), none, .load false 1 (.tmp 18)⟩, ⟨(some 18), none, .iaddr 1 (.tmp 17) (.lit (.int .i64 0))⟩] (
 .ev ⟨(some 20), none, .call (.fn 89) [(.tmp 19)]⟩ [⟨(some 23), none, .load false 1 (.tmp 22)⟩, ⟨(some 22), none, .iaddr 1 (.tmp 21) (.lit (.int .i64 0))⟩, ⟨(some 18), none, .iaddr 1 (.tmp 17) (.lit (.int .i64 0))⟩] (
 .ev ⟨(some 24), none, .call (.fn 89) [(.tmp 23)]⟩ [⟨(some 22), none, .iaddr 1 (.tmp 21) (.lit (.int .i64 0))⟩, ⟨(some 19), none, .load false 1 (.tmp 18)⟩, ⟨(some 18), none, .iaddr 1 (.tmp 17) (.lit (.int .i64 0))⟩] (
 .step ⟨(some 25), none, .build [(.int .i64 0), (.int .i64 0)] [(0, 1, (.tmp 20)), (1, 1, (.tmp 24))]⟩ (
 .ev ⟨none, none, .store 2 (.tmp 6) (.tmp 25)⟩ [] (
 .done)
 (.stop)))
 (.stop))
 (.stop))
 (.stop))))))))))
 (.seq (.seq (.reg [⟨(some 7), none, .mov (.lit (.int .i64 0))⟩])
 (.block 0 (.loop (.seq (.seq (.reg [⟨(some 26), none, .mov (.tmp 7)⟩,
 ⟨(some 27), none, .mov (.tmp 4)⟩,
 ⟨(some 28), none, .len (.tmp 27)⟩,
 ⟨(some 29), none, .bin .lss (.tmp 26) (.tmp 28)⟩])
 (.cond (.tmp 29) (.skip)
 (.exit 0)))
 (.seq (.block 1 (.draw (.step ⟨(some 32), none, .faddr 0 (.tmp 6)⟩ (
 .step ⟨(some 33), none, .load false 1 (.tmp 32)⟩ (
 .step ⟨(some 34), none, .mov (.tmp 4)⟩ (
 .step ⟨(some 35), none, .mov (.tmp 7)⟩ (
 .step ⟨(some 36), none, .iaddr 1 (.tmp 34) (.tmp 35)⟩ (
 .step ⟨(some 37), none, .load false 1 (.tmp 36)⟩ (
 .step ⟨(some 40), none, .faddr 1 (.tmp 6)⟩ (
 .step ⟨(some 41), none, .load false 1 (.tmp 40)⟩ (
 .step ⟨(some 42), none, .mov (.tmp 4)⟩ (
 .step ⟨(some 43), none, .mov (.tmp 7)⟩ (
 .step ⟨(some 44), none, .iaddr 1 (.tmp 42) (.tmp 43)⟩ (
 .step ⟨(some 45), none, .load false 1 (.tmp 44)⟩ (
 .ev ⟨(some 38), none, .call (.fn 89) [(.tmp 37)]⟩ [⟨(some 45), none, .load false 1 (.tmp 44)⟩, ⟨(some 44), none, .iaddr 1 (.tmp 42) (.tmp 43)⟩, ⟨(some 41), none, .load false 1 (.tmp 40)⟩, ⟨(some 40), none, .faddr 1 (.tmp 6)⟩, ⟨(some 36), none, .iaddr 1 (.tmp 34) (.tmp 35)⟩, ⟨(some 33), none, .load false 1 (.tmp 32)⟩, ⟨(some 32), none, .faddr 0 (.tmp 6)⟩] (
 .step ⟨(some 39), none, .mxmn false (.tmp 33) [(.tmp 38)]⟩ (
 .ev ⟨(some 46), none, .call (.fn 89) [(.tmp 45)]⟩ [⟨(some 44), none, .iaddr 1 (.tmp 42) (.tmp 43)⟩, ⟨(some 41), none, .load false 1 (.tmp 40)⟩, ⟨(some 40), none, .faddr 1 (.tmp 6)⟩, ⟨(some 37), none, .load false 1 (.tmp 36)⟩, ⟨(some 36), none, .iaddr 1 (.tmp 34) (.tmp 35)⟩, ⟨(some 33), none, .load false 1 (.tmp 32)⟩, ⟨(some 32), none, .faddr 0 (.tmp 6)⟩] (
 .step ⟨(some 47), none, .mxmn true (.tmp 41) [(.tmp 46)]⟩ (
 .step ⟨(some 48), none, .build [(.int .i64 0), (.int .i64 0)] [(0, 1, (.tmp 39)), (1, 1, (.tmp 47))]⟩ (
 .ev ⟨none, none, .store 2 (.tmp 6) (.tmp 48)⟩ [] (
 .done)
 (.stop))))
 (.stop)))
 (.stop))))))))))))))))
 (.reg [⟨(some 30), none, .mov (.tmp 7)⟩,
 ⟨(some 31), none, .bin .add (.tmp 30) (.lit (.int .i64 1))⟩,
 ⟨(some 7), none, .mov (.tmp 31)⟩]))))))
 (.seq (.reg [⟨(some 49), none, .load true 2 (.tmp 6)⟩,
 ⟨none, none, .store 2 (.tmp 2) (.tmp 49)⟩,
 ⟨(some 3), none, .mov (.lit (.int .i64 0))⟩])
 (.ret))))))
theorem k67 : FnC Tryz.prog 67 50 [2] [] [.cell 2 true 2, .tmp 3] c67 1 := ⟨Tryz.f67, _, Tryz.func67, rfl, by decide, rfl, by decide, by kernel_rfl, by kernel_rfl⟩
/-- dipworks/dipworksref06.Bather -/
def c46 : AC :=
 .seq (.reg [⟨(some 2), none, .box (.tmp 0)⟩,
 ⟨(some 4), none, .mov (.lit (.bool false))⟩])
 (.seq (.reg [⟨(some 5), none, .mov (.tmp 1)⟩,
 ⟨(some 6), none, .faddr 0 (.tmp 2)⟩,
 ⟨(some 7), none, .load false 1 (.tmp 6)⟩,
 ⟨(some 8), none, .len (.tmp 7)⟩,
 ⟨(some 9), none, .bin .sub (.tmp 8) (.lit (.int .i64 1))⟩,
 ⟨(some 10), none, .call (.fn 75) [(.tmp 5), (.lit (.int .i64 0)), (.tmp 9)]⟩,
 ⟨(some 4), none, .mov (.tmp 10)⟩])
 (.ret))
theorem k46 : FnC Tryz.prog 46 11 [] [] [.tmp 4] c46 2 := ⟨Tryz.f46, _, Tryz.func46, rfl, by decide, rfl, by decide, by kernel_rfl, by kernel_rfl⟩
/-- dipworks/dipworksref06.told -/
def c76 : AC :=
 .seq (.reg [⟨(some 2), none, .box (.tmp 0)⟩,
 ⟨(some 4), none, .mov (.lit (.slice none 0 0))⟩,
 ⟨(some 5), none, .mov (.lit (.int .i64 0))⟩])
 (.seq (.seq (.reg [⟨(some 7), none, .load true 3 (.tmp 2)⟩,
 ⟨(some 8), none, .call (.fn 48) [(.tmp 7)]⟩,
 ⟨(some 9), none, .un .not (.tmp 8)⟩])
 (.cond (.tmp 9) (.seq (.reg [⟨(some 4), none, .mov (.lit (.slice none 0 0))⟩,
 ⟨(some 5), none, .mov (.lit (.int .i64 1))⟩])
 (.ret))
 (.skip)))
 (.seq (.seq (.reg [⟨(some 10), none, .mov (.tmp 1)⟩,
 ⟨(some 11), none, .un .not (.tmp 10)⟩])
 (.cond (.tmp 11) (.seq (.reg [⟨(some 4), none, .mov (.lit (.slice none 0 0))⟩,
 ⟨(some 5), none, .mov (.lit (.int .i64 2))⟩])
 (.ret))
 (.skip)))
 (.seq (.reg [⟨(some 12), none, .load true 3 (.tmp 2)⟩,
 ⟨(some 13), none, .call (.fn 96) [(.tmp 12)]⟩,
 ⟨(some 6), none, .mov (.tmp 13)⟩])
 (.seq (.seq (.reg [⟨(some 14), none, .mov (.tmp 6)⟩,
 ⟨(some 15), none, .len (.tmp 14)⟩,
 ⟨(some 16), none, .bin .eql (.tmp 15) (.lit (.int .i64 0))⟩])
 (.cond (.tmp 16) (.seq (.reg [⟨(some 4), none, .mov (.lit (.slice none 0 0))⟩,
 ⟨(some 5), none, .mov (.lit (.int .i64 10))⟩])
 (.ret))
 (.skip)))
 (.seq (.reg [⟨(some 17), none, .mov (.tmp 6)⟩,
 ⟨(some 4), none, .mov (.tmp 17)⟩,
 ⟨(some 5), none, .mov (.lit (.int .i64 0))⟩])
 (.ret))))))
theorem k76 : FnC Tryz.prog 76 18 [] [] [.tmp 4, .tmp 5] c76 2 := ⟨Tryz.f76, _, Tryz.func76, rfl, by decide, rfl, by decide, by kernel_rfl, by kernel_rfl⟩
/-- dipworks/dipworksref06.power -/
def c102 : AC :=
 .seq (.reg [⟨(some 2), none, .mov (.lit (.int .i64 0))⟩])
 (.seq (.reg [⟨(some 3), none, .mov (.lit (.int .i64 1))⟩])
 (.seq (.seq (.reg [⟨(some 4), none, .mov (.lit (.int .i64 0))⟩])
 (.block 0 (.loop (.seq (.seq (.reg [⟨(some 5), none, .mov (.tmp 4)⟩,
 ⟨(some 6), none, .mov (.tmp 0)⟩,
 ⟨(some 7), none, .bin .lss (.tmp 5) (.tmp 6)⟩])
 (.cond (.tmp 7) (.skip)
 (.exit 0)))
 (.seq (.block 1 (.reg [⟨(some 10), none, .mov (.tmp 3)⟩,
 ⟨(some 11), none, .bin .mul (.lit (.int .i64 2)) (.tmp 10)⟩,
 ⟨(some 3), none, .mov (.tmp 11)⟩]))
 (.reg [⟨(some 8), none, .mov (.tmp 4)⟩,
 ⟨(some 9), none, .bin .add (.tmp 8) (.lit (.int .i64 1))⟩,
 ⟨(some 4), none, .mov (.tmp 9)⟩]))))))
 (.seq (.reg [⟨(some 12), none, .mov (.tmp 3)⟩,
 ⟨(some 2), none, .mov (.tmp 12)⟩])
 (.ret))))
theorem k102 : FnC Tryz.prog 102 13 [] [] [.tmp 2] c102 1 := ⟨Tryz.f102, _, Tryz.func102, rfl, by decide, rfl, by decide, by kernel_rfl, by kernel_rfl⟩
/-- dipworks/dipworksref06.sum -/
def c89 : AC :=
 .seq (.reg [⟨(some 2), none, .mov (.lit (.int .i64 0))⟩])
 (.seq (.reg [⟨(some 3), none, .mov (.lit (.int .i64 0))⟩])
 (.seq (.seq (.reg [⟨(some 4), none, .mov (.lit (.int .i64 0))⟩])
 (.block 0 (.loop (.seq (.seq (.reg [⟨(some 5), none, .mov (.tmp 4)⟩,
 ⟨(some 6), none, .mov (.tmp 0)⟩,
 ⟨(some 7), none, .len (.tmp 6)⟩,
 ⟨(some 8), none, .bin .lss (.tmp 5) (.tmp 7)⟩])
 (.cond (.tmp 8) (.skip)
 (.exit 0)))
 (.seq (.block 1 (.reg [⟨(some 11), none, .mov (.tmp 3)⟩,
 ⟨(some 12), none, .mov (.tmp 0)⟩,
 ⟨(some 13), none, .mov (.tmp 4)⟩,
 ⟨(some 14), none, .iaddr 1 (.tmp 12) (.tmp 13)⟩,
 ⟨(some 15), none, .load false 1 (.tmp 14)⟩,
 ⟨(some 16), none, .bin .add (.tmp 11) (.tmp 15)⟩,
 ⟨(some 3), none, .mov (.tmp 16)⟩]))
 (.reg [⟨(some 9), none, .mov (.tmp 4)⟩,
 ⟨(some 10), none, .bin .add (.tmp 9) (.lit (.int .i64 1))⟩,
 ⟨(some 4), none, .mov (.tmp 10)⟩]))))))
 (.seq (.reg [⟨(some 17), none, .mov (.tmp 3)⟩,
 ⟨(some 2), none, .mov (.tmp 17)⟩])
 (.ret))))
theorem k89 : FnC Tryz.prog 89 18 [] [] [.tmp 2] c89 1 := ⟨Tryz.f89, _, Tryz.func89, rfl, by decide, rfl, by decide, by kernel_rfl, by kernel_rfl⟩
/-- dipworks/dipworksref06.Truths -/
def c96 : AC :=
 .seq (.reg [⟨(some 1), none, .box (.tmp 0)⟩,
 ⟨(some 2), none, .mov (.lit (.slice none 0 0))⟩])
 (.seq (.draw (.step ⟨(some 3), none, .load true 3 (.tmp 1)⟩ (
 .step ⟨(some 4), none, .faddr 1 (.tmp 1)⟩ (
 .step ⟨(some 5), none, .load false 1 (.tmp 4)⟩ (
 .step ⟨(some 6), none, .len (.tmp 5)⟩ (
 .step ⟨(some 9), none, .faddr 2 (.tmp 1)⟩ (
 .step ⟨(some 10), none, .load false 1 (.tmp 9)⟩ (
 .step ⟨(some 11), none, .len (.tmp 10)⟩ (
 .ev ⟨(some 7), none, .call (.fn 102) [(.tmp 6)]⟩ [⟨(some 11), none, .len (.tmp 10)⟩, ⟨(some 10), none, .load false 1 (.tmp 9)⟩, ⟨(some 9), none, .faddr 2 (.tmp 1)⟩, ⟨(some 5), none, .load false 1 (.tmp 4)⟩, ⟨(some 4), none, .faddr 1 (.tmp 1)⟩, ⟨(some 3), none, .load true 3 (.tmp 1)⟩] (
 .step ⟨(some 8), none, .bin .sub (.tmp 7) (.lit (.int .i64 1))⟩ (
 .ev ⟨(some 12), none, .call (.fn 102) [(.tmp 11)]⟩ [⟨(some 10), none, .load false 1 (.tmp 9)⟩, ⟨(some 9), none, .faddr 2 (.tmp 1)⟩, ⟨(some 6), none, .len (.tmp 5)⟩, ⟨(some 5), none, .load false 1 (.tmp 4)⟩, ⟨(some 4), none, .faddr 1 (.tmp 1)⟩, ⟨(some 3), none, .load true 3 (.tmp 1)⟩] (
 .step ⟨(some 13), none, .bin .sub (.tmp 12) (.lit (.int .i64 1))⟩ (
 .ev ⟨(some 14), none, .call (.fn 101) [(.tmp 3), (.tmp 8), (.tmp 13), (.lit (.slice none 0 0)), (.lit (.slice none 0 0))]⟩ [⟨(some 11), none, .len (.tmp 10)⟩, ⟨(some 10), none, .load false 1 (.tmp 9)⟩, ⟨(some 9), none, .faddr 2 (.tmp 1)⟩, ⟨(some 6), none, .len (.tmp 5)⟩, ⟨(some 5), none, .load false 1 (.tmp 4)⟩, ⟨(some 4), none, .faddr 1 (.tmp 1)⟩] (
 .step ⟨(some 2), none, .mov (.tmp 14)⟩ (
 .done))
 (.stop)))
 (.stop)))
 (.stop))))))))))
 (.ret))
theorem k96 : FnC Tryz.prog 96 15 [] [] [.tmp 2] c96 1 := ⟨Tryz.f96, _, Tryz.func96, rfl, by decide, rfl, by decide, by kernel_rfl, by kernel_rfl⟩
/-- dipworks/dipworksref06.truths -/
def c101 : AC :=
 .seq (.reg [⟨(some 5), none, .box (.tmp 0)⟩,
 ⟨(some 10), none, .mov (.lit (.slice none 0 0))⟩])
 (.seq (.seq (.reg [⟨(some 13), none, .mov (.tmp 3)⟩,
 ⟨(some 14), none, .len (.tmp 13)⟩,
 ⟨(some 15), none, .faddr 0 (.tmp 5)⟩,
 ⟨(some 16), none, .load false 1 (.tmp 15)⟩,
 ⟨(some 17), none, .len (.tmp 16)⟩,
 ⟨(some 18), none, .bin .eql (.tmp 14) (.tmp 17)⟩])
 (.cond (.tmp 18) (.seq (.seq (.reg [⟨(some 19), none, .load true 3 (.tmp 5)⟩,
 ⟨(some 20), none, .mov (.tmp 3)⟩,
 ⟨(some 21), none, .mov (.tmp 1)⟩,
 ⟨(some 22), none, .mov (.tmp 2)⟩,
 ⟨(some 23), none, .call (.fn 104) [(.tmp 19), (.tmp 20), (.tmp 21), (.tmp 22)]⟩])
 (.cond (.tmp 23) (.reg [⟨(some 24), none, .mov (.tmp 4)⟩,
 ⟨(some 25), none, .mov (.tmp 3)⟩,
 ⟨(some 26), none, .bslice 1 (.slice none 0 0) 1 [(0, (.tmp 25))]⟩,
 ⟨(some 27), none, .app 1 24 (.tmp 24) (.tmp 26)⟩,
 ⟨(some 4), none, .mov (.tmp 27)⟩])
 (.skip)))
 (.seq (.reg [⟨(some 28), none, .mov (.tmp 4)⟩,
 ⟨(some 10), none, .mov (.tmp 28)⟩])
 (.ret)))
 (.skip)))
 (.seq (.reg [⟨(some 29), none, .faddr 0 (.tmp 5)⟩,
 ⟨(some 30), none, .load false 1 (.tmp 29)⟩,
 ⟨(some 31), none, .mov (.tmp 3)⟩,
 ⟨(some 32), none, .len (.tmp 31)⟩,
 ⟨(some 33), none, .iaddr 6 (.tmp 30) (.tmp 32)⟩,
 ⟨(some 34), none, .load true 6 (.tmp 33)⟩,
 ⟨(some 35), none, .call (.fn 18) [(.tmp 34)]⟩,
 ⟨(some 11), none, .alloc [(.int .i64 0), (.int .i64 0)]⟩,
 ⟨none, none, .store 2 (.tmp 11) (.tmp 35)⟩])
 (.seq (.seq (.reg [⟨(some 36), none, .faddr 0 (.tmp 11)⟩,
 ⟨(some 37), none, .load false 1 (.tmp 36)⟩,
 ⟨(some 12), none, .mov (.tmp 37)⟩])
 (.block 0 (.loop (.seq (.seq (.reg [⟨(some 38), none, .mov (.tmp 12)⟩,
 ⟨(some 39), none, .faddr 1 (.tmp 11)⟩,
 ⟨(some 40), none, .load false 1 (.tmp 39)⟩,
 ⟨(some 41), none, .bin .leq (.tmp 38) (.tmp 40)⟩])
 (.cond (.tmp 41) (.skip)
 (.exit 0)))
 (.seq (.block 1 (.seq (.gcp)
 (.draw (.step ⟨(some 44), none, .load true 3 (.tmp 5)⟩ (
 .step ⟨(some 45), none, .mov (.tmp 1)⟩ (
 .step ⟨(some 46), none, .mov (.tmp 2)⟩ (
 .step ⟨(some 48), none, .mov (.tmp 3)⟩ (
 .step ⟨(some 50), none, .mov (.tmp 12)⟩ (
 .step ⟨(some 53), none, .mov (.tmp 4)⟩ (
 .ev ⟨(some 47), none, .bslice 1 (.int .i64 0) 0 []⟩ [⟨(some 44), none, .load true 3 (.tmp 5)⟩] (
 .ev ⟨(some 49), none, .app 1 8 (.tmp 47) (.tmp 48)⟩ [⟨(some 44), none, .load true 3 (.tmp 5)⟩] (
 .ev ⟨(some 51), none, .bslice 1 (.int .i64 0) 1 [(0, (.tmp 50))]⟩ [⟨(some 44), none, .load true 3 (.tmp 5)⟩] (
 .ev ⟨(some 52), none, .app 1 8 (.tmp 49) (.tmp 51)⟩ [⟨(some 44), none, .load true 3 (.tmp 5)⟩] (
 .ev ⟨(some 54), none, .call (.fn 101) [(.tmp 44), (.tmp 45), (.tmp 46), (.tmp 52), (.tmp 53)]⟩ [] (
 .step ⟨(some 4), none, .mov (.tmp 54)⟩ (
 .done))
 (.stop))
 (.stop))
 (.stop))
 (.ev ⟨(some 51), none, .bslice 1 (.int .i64 0) 1 [(0, (.tmp 50))]⟩ [⟨(some 44), none, .load true 3 (.tmp 5)⟩] (
 .ev ⟨(some 49), none, .app 1 8 (.tmp 47) (.tmp 48)⟩ [⟨(some 44), none, .load true 3 (.tmp 5)⟩] (
 .ev ⟨(some 52), none, .app 1 8 (.tmp 49) (.tmp 51)⟩ [⟨(some 44), none, .load true 3 (.tmp 5)⟩] (
 .ev ⟨(some 54), none, .call (.fn 101) [(.tmp 44), (.tmp 45), (.tmp 46), (.tmp 52), (.tmp 53)]⟩ [] (
 .step ⟨(some 4), none, .mov (.tmp 54)⟩ (
 .done))
 (.stop))
 (.stop))
 (.stop))
 (.stop)))
 (.ev ⟨(some 51), none, .bslice 1 (.int .i64 0) 1 [(0, (.tmp 50))]⟩ [⟨(some 44), none, .load true 3 (.tmp 5)⟩] (
 .ev ⟨(some 47), none, .bslice 1 (.int .i64 0) 0 []⟩ [⟨(some 44), none, .load true 3 (.tmp 5)⟩] (
 .ev ⟨(some 49), none, .app 1 8 (.tmp 47) (.tmp 48)⟩ [⟨(some 44), none, .load true 3 (.tmp 5)⟩] (
 .ev ⟨(some 52), none, .app 1 8 (.tmp 49) (.tmp 51)⟩ [⟨(some 44), none, .load true 3 (.tmp 5)⟩] (
 .ev ⟨(some 54), none, .call (.fn 101) [(.tmp 44), (.tmp 45), (.tmp 46), (.tmp 52), (.tmp 53)]⟩ [] (
 .step ⟨(some 4), none, .mov (.tmp 54)⟩ (
 .done))
 (.stop))
 (.stop))
 (.stop))
 (.stop))
 (.stop))))))))))))
 (.reg [⟨(some 42), none, .mov (.tmp 12)⟩,
 ⟨(some 43), none, .bin .add (.tmp 42) (.lit (.int .i64 1))⟩,
 ⟨(some 12), none, .mov (.tmp 43)⟩]))))))
 (.seq (.reg [⟨(some 55), none, .mov (.tmp 4)⟩,
 ⟨(some 10), none, .mov (.tmp 55)⟩])
 (.ret)))))
theorem k101 : FnC Tryz.prog 101 56 [] [9] [.tmp 10] c101 5 := ⟨Tryz.f101, _, Tryz.func101, rfl, by decide, rfl, by decide, by kernel_rfl, by kernel_rfl⟩
/-- dipworks/dipworksref06.Right -/
def c104 : AC :=
 .seq (.reg [⟨(some 4), none, .box (.tmp 0)⟩,
 ⟨(some 8), none, .mov (.lit (.bool false))⟩])
 (.seq (.seq (.reg [⟨(some 9), none, .mov (.lit (.int .i64 0))⟩])
 (.block 0 (.loop (.seq (.seq (.reg [⟨(some 11), none, .mov (.tmp 9)⟩,
 ⟨(some 12), none, .faddr 1 (.tmp 4)⟩,
 ⟨(some 13), none, .load false 1 (.tmp 12)⟩,
 ⟨(some 14), none, .len (.tmp 13)⟩,
 ⟨(some 15), none, .bin .lss (.tmp 11) (.tmp 14)⟩])
 (.cond (.tmp 15) (.skip)
 (.exit 0)))
 (.seq (.block 1 (.seq (.draw (.step ⟨(some 18), none, .mov (.tmp 2)⟩ (
 .step ⟨(some 19), none, .mov (.tmp 9)⟩ (
 .ev ⟨(some 20), none, .call (.fn 105) [(.tmp 18), (.tmp 19)]⟩ [] (
 .step ⟨(some 21), none, .mov (.tmp 20)⟩ (
 .step ⟨(some 22), (some (21, true)), .load true 3 (.tmp 4)⟩ (
 .step ⟨(some 23), (some (21, true)), .mov (.tmp 1)⟩ (
 .step ⟨(some 24), (some (21, true)), .mov (.tmp 9)⟩ (
 .step ⟨(some 26), (some (21, true)), .faddr 1 (.tmp 4)⟩ (
 .step ⟨(some 27), (some (21, true)), .load false 1 (.tmp 26)⟩ (
 .step ⟨(some 28), (some (21, true)), .mov (.tmp 9)⟩ (
 .step ⟨(some 29), (some (21, true)), .iaddr 2 (.tmp 27) (.tmp 28)⟩ (
 .step ⟨(some 30), (some (21, true)), .faddr 0 (.tmp 29)⟩ (
 .step ⟨(some 31), (some (21, true)), .load false 1 (.tmp 30)⟩ (
 .step ⟨(some 32), (some (21, true)), .faddr 1 (.tmp 4)⟩ (
 .step ⟨(some 33), (some (21, true)), .load false 1 (.tmp 32)⟩ (
 .step ⟨(some 34), (some (21, true)), .mov (.tmp 9)⟩ (
 .step ⟨(some 35), (some (21, true)), .iaddr 2 (.tmp 33) (.tmp 34)⟩ (
 .step ⟨(some 36), (some (21, true)), .faddr 1 (.tmp 35)⟩ (
 .step ⟨(some 37), (some (21, true)), .load false 1 (.tmp 36)⟩ (
 .ev ⟨(some 25), (some (21, true)), .call (.fn 106) [(.tmp 22), (.tmp 23), (.tmp 24)]⟩ [⟨(some 37), (some (21, true)), .load false 1 (.tmp 36)⟩, ⟨(some 36), (some (21, true)), .faddr 1 (.tmp 35)⟩, ⟨(some 35), (some (21, true)), .iaddr 2 (.tmp 33) (.tmp 34)⟩, ⟨(some 33), (some (21, true)), .load false 1 (.tmp 32)⟩, ⟨(some 32), (some (21, true)), .faddr 1 (.tmp 4)⟩, ⟨(some 31), (some (21, true)), .load false 1 (.tmp 30)⟩, ⟨(some 30), (some (21, true)), .faddr 0 (.tmp 29)⟩, ⟨(some 29), (some (21, true)), .iaddr 2 (.tmp 27) (.tmp 28)⟩, ⟨(some 27), (some (21, true)), .load false 1 (.tmp 26)⟩, ⟨(some 26), (some (21, true)), .faddr 1 (.tmp 4)⟩] (
 .ev ⟨(some 38), (some (21, true)), .call (.fn 75) [(.tmp 25), (.tmp 31), (.tmp 37)]⟩ [⟨(some 36), (some (21, true)), .faddr 1 (.tmp 35)⟩, ⟨(some 35), (some (21, true)), .iaddr 2 (.tmp 33) (.tmp 34)⟩, ⟨(some 33), (some (21, true)), .load false 1 (.tmp 32)⟩, ⟨(some 32), (some (21, true)), .faddr 1 (.tmp 4)⟩, ⟨(some 30), (some (21, true)), .faddr 0 (.tmp 29)⟩, ⟨(some 29), (some (21, true)), .iaddr 2 (.tmp 27) (.tmp 28)⟩, ⟨(some 27), (some (21, true)), .load false 1 (.tmp 26)⟩, ⟨(some 26), (some (21, true)), .faddr 1 (.tmp 4)⟩, ⟨(some 22), (some (21, true)), .load true 3 (.tmp 4)⟩] (
 .step ⟨(some 39), (some (21, true)), .un .not (.tmp 38)⟩ (
 .step ⟨(some 40), none, .pick (.tmp 21) (.tmp 39) (.lit (.bool false))⟩ (
 .done)))
 (.stop))
 (.stop))))))))))))))))))
 (.stop)))))
 (.cond (.tmp 40) (.seq (.reg [⟨(some 8), none, .mov (.lit (.bool false))⟩])
 (.ret))
 (.skip))))
 (.reg [⟨(some 16), none, .mov (.tmp 9)⟩,
 ⟨(some 17), none, .bin .add (.tmp 16) (.lit (.int .i64 1))⟩,
 ⟨(some 9), none, .mov (.tmp 17)⟩]))))))
 (.seq (.seq (.reg [⟨(some 10), none, .mov (.lit (.int .i64 0))⟩])
 (.block 2 (.loop (.seq (.seq (.reg [⟨(some 41), none, .mov (.tmp 10)⟩,
 ⟨(some 42), none, .faddr 2 (.tmp 4)⟩,
 ⟨(some 43), none, .load false 1 (.tmp 42)⟩,
 ⟨(some 44), none, .len (.tmp 43)⟩,
 ⟨(some 45), none, .bin .lss (.tmp 41) (.tmp 44)⟩])
 (.cond (.tmp 45) (.skip)
 (.exit 2)))
 (.seq (.block 3 (.seq (.draw (.step ⟨(some 48), none, .mov (.tmp 3)⟩ (
 .step ⟨(some 49), none, .mov (.tmp 10)⟩ (
 .ev ⟨(some 50), none, .call (.fn 105) [(.tmp 48), (.tmp 49)]⟩ [] (
 .step ⟨(some 51), none, .mov (.tmp 50)⟩ (
 .step ⟨(some 52), (some (51, true)), .load true 3 (.tmp 4)⟩ (
 .step ⟨(some 53), (some (51, true)), .mov (.tmp 1)⟩ (
 .step ⟨(some 54), (some (51, true)), .mov (.tmp 10)⟩ (
 .step ⟨(some 56), (some (51, true)), .faddr 2 (.tmp 4)⟩ (
 .step ⟨(some 57), (some (51, true)), .load false 1 (.tmp 56)⟩ (
 .step ⟨(some 58), (some (51, true)), .mov (.tmp 10)⟩ (
 .step ⟨(some 59), (some (51, true)), .iaddr 2 (.tmp 57) (.tmp 58)⟩ (
 .step ⟨(some 60), (some (51, true)), .faddr 0 (.tmp 59)⟩ (
 .step ⟨(some 61), (some (51, true)), .load false 1 (.tmp 60)⟩ (
 .step ⟨(some 62), (some (51, true)), .faddr 2 (.tmp 4)⟩ (
 .step ⟨(some 63), (some (51, true)), .load false 1 (.tmp 62)⟩ (
 .step ⟨(some 64), (some (51, true)), .mov (.tmp 10)⟩ (
 .step ⟨(some 65), (some (51, true)), .iaddr 2 (.tmp 63) (.tmp 64)⟩ (
 .step ⟨(some 66), (some (51, true)), .faddr 1 (.tmp 65)⟩ (
 .step ⟨(some 67), (some (51, true)), .load false 1 (.tmp 66)⟩ (
 .ev ⟨(some 55), (some (51, true)), .call (.fn 107) [(.tmp 52), (.tmp 53), (.tmp 54)]⟩ [⟨(some 67), (some (51, true)), .load false 1 (.tmp 66)⟩, ⟨(some 66), (some (51, true)), .faddr 1 (.tmp 65)⟩, ⟨(some 65), (some (51, true)), .iaddr 2 (.tmp 63) (.tmp 64)⟩, ⟨(some 63), (some (51, true)), .load false 1 (.tmp 62)⟩, ⟨(some 62), (some (51, true)), .faddr 2 (.tmp 4)⟩, ⟨(some 61), (some (51, true)), .load false 1 (.tmp 60)⟩, ⟨(some 60), (some (51, true)), .faddr 0 (.tmp 59)⟩, ⟨(some 59), (some (51, true)), .iaddr 2 (.tmp 57) (.tmp 58)⟩, ⟨(some 57), (some (51, true)), .load false 1 (.tmp 56)⟩, ⟨(some 56), (some (51, true)), .faddr 2 (.tmp 4)⟩] (
 .ev ⟨(some 68), (some (51, true)), .call (.fn 75) [(.tmp 55), (.tmp 61), (.tmp 67)]⟩ [⟨(some 66), (some (51, true)), .faddr 1 (.tmp 65)⟩, ⟨(some 65), (some (51, true)), .iaddr 2 (.tmp 63) (.tmp 64)⟩, ⟨(some 63), (some (51, true)), .load false 1 (.tmp 62)⟩, ⟨(some 62), (some (51, true)), .faddr 2 (.tmp 4)⟩, ⟨(some 60), (some (51, true)), .faddr 0 (.tmp 59)⟩, ⟨(some 59), (some (51, true)), .iaddr 2 (.tmp 57) (.tmp 58)⟩, ⟨(some 57), (some (51, true)), .load false 1 (.tmp 56)⟩, ⟨(some 56), (some (51, true)), .faddr 2 (.tmp 4)⟩, ⟨(some 52), (some (51, true)), .load true 3 (.tmp 4)⟩] (
 .step ⟨(some 69), (some (51, true)), .un .not (.tmp 68)⟩ (
 .step ⟨(some 70), none, .pick (.tmp 51) (.tmp 69) (.lit (.bool false))⟩ (
 .done)))
 (.stop))
 (.stop))))))))))))))))))
 (.stop)))))
 (.cond (.tmp 70) (.seq (.reg [⟨(some 8), none, .mov (.lit (.bool false))⟩])
 (.ret))
 (.skip))))
 (.reg [⟨(some 46), none, .mov (.tmp 10)⟩,
 ⟨(some 47), none, .bin .add (.tmp 46) (.lit (.int .i64 1))⟩,
 ⟨(some 10), none, .mov (.tmp 47)⟩]))))))
 (.seq (.reg [⟨(some 8), none, .mov (.lit (.bool true))⟩])
 (.ret))))
theorem k104 : FnC Tryz.prog 104 71 [] [] [.tmp 8] c104 4 := ⟨Tryz.f104, _, Tryz.func104, rfl, by decide, rfl, by decide, by kernel_rfl, by kernel_rfl⟩
/-- dipworks/dipworksref06.Has -/
def c105 : AC :=
 .seq (.reg [⟨(some 4), none, .mov (.lit (.bool false))⟩])
 (.seq (.reg [⟨(some 5), none, .mov (.tmp 0)⟩,
 ⟨(some 6), none, .mov (.tmp 1)⟩,
 ⟨(some 7), none, .call (.fn 102) [(.tmp 6)]⟩,
 ⟨(some 8), none, .bin .quo (.tmp 5) (.tmp 7)⟩,
 ⟨(some 9), none, .bin .rem (.tmp 8) (.lit (.int .i64 2))⟩,
 ⟨(some 10), none, .bin .eql (.tmp 9) (.lit (.int .i64 1))⟩,
 ⟨(some 4), none, .mov (.tmp 10)⟩])
 (.ret))
theorem k105 : FnC Tryz.prog 105 11 [] [] [.tmp 4] c105 2 := ⟨Tryz.f105, _, Tryz.func105, rfl, by decide, rfl, by decide, by kernel_rfl, by kernel_rfl⟩
/-- dipworks/dipworksref06.hut -/
def c106 : AC :=
 .seq (.reg [⟨(some 3), none, .box (.tmp 0)⟩,
 ⟨(some 6), none, .mov (.lit (.int .i64 0))⟩])
 (.seq (.reg [⟨(some 7), none, .mov (.lit (.int .i64 0))⟩])
 (.seq (.seq (.reg [⟨(some 8), none, .mov (.lit (.int .i64 0))⟩])
 (.block 0 (.loop (.seq (.seq (.reg [⟨(some 9), none, .mov (.tmp 8)⟩,
 ⟨(some 10), none, .mov (.tmp 1)⟩,
 ⟨(some 11), none, .len (.tmp 10)⟩,
 ⟨(some 12), none, .bin .lss (.tmp 9) (.tmp 11)⟩])
 (.cond (.tmp 12) (.skip)
 (.exit 0)))
 (.seq (.block 1 (.seq (.reg [⟨(some 15), none, .faddr 0 (.tmp 3)⟩,
 ⟨(some 16), none, .load false 1 (.tmp 15)⟩,
 ⟨(some 17), none, .mov (.tmp 8)⟩,
 ⟨(some 18), none, .iaddr 6 (.tmp 16) (.tmp 17)⟩,
 ⟨(some 19), none, .faddr 0 (.tmp 18)⟩,
 ⟨(some 20), none, .load false 1 (.tmp 19)⟩,
 ⟨(some 21), none, .mov (.tmp 2)⟩,
 ⟨(some 22), none, .bin .eql (.tmp 20) (.tmp 21)⟩])
 (.cond (.tmp 22) (.reg [⟨(some 23), none, .mov (.tmp 7)⟩,
 ⟨(some 24), none, .mov (.tmp 1)⟩,
 ⟨(some 25), none, .mov (.tmp 8)⟩,
 ⟨(some 26), none, .iaddr 1 (.tmp 24) (.tmp 25)⟩,
 ⟨(some 27), none, .load false 1 (.tmp 26)⟩,
 ⟨(some 28), none, .bin .add (.tmp 23) (.tmp 27)⟩,
 ⟨(some 7), none, .mov (.tmp 28)⟩])
 (.skip))))
 (.reg [⟨(some 13), none, .mov (.tmp 8)⟩,
 ⟨(some 14), none, .bin .add (.tmp 13) (.lit (.int .i64 1))⟩,
 ⟨(some 8), none, .mov (.tmp 14)⟩]))))))
 (.seq (.reg [⟨(some 29), none, .mov (.tmp 7)⟩,
 ⟨(some 6), none, .mov (.tmp 29)⟩])
 (.ret))))
theorem k106 : FnC Tryz.prog 106 30 [] [] [.tmp 6] c106 3 := ⟨Tryz.f106, _, Tryz.func106, rfl, by decide, rfl, by decide, by kernel_rfl, by kernel_rfl⟩
/-- dipworks/dipworksref06.half -/
def c107 : AC :=
 .seq (.reg [⟨(some 3), none, .box (.tmp 0)⟩,
 ⟨(some 6), none, .mov (.lit (.int .i64 0))⟩])
 (.seq (.reg [⟨(some 7), none, .mov (.lit (.int .i64 0))⟩])
 (.seq (.seq (.reg [⟨(some 8), none, .mov (.lit (.int .i64 0))⟩])
 (.block 0 (.loop (.seq (.seq (.reg [⟨(some 9), none, .mov (.tmp 8)⟩,
 ⟨(some 10), none, .mov (.tmp 1)⟩,
 ⟨(some 11), none, .len (.tmp 10)⟩,
 ⟨(some 12), none, .bin .lss (.tmp 9) (.tmp 11)⟩])
 (.cond (.tmp 12) (.skip)
 (.exit 0)))
 (.seq (.block 1 (.seq (.reg [⟨(some 15), none, .faddr 0 (.tmp 3)⟩,
 ⟨(some 16), none, .load false 1 (.tmp 15)⟩,
 ⟨(some 17), none, .mov (.tmp 8)⟩,
 ⟨(some 18), none, .iaddr 6 (.tmp 16) (.tmp 17)⟩,
 ⟨(some 19), none, .faddr 1 (.tmp 18)⟩,
 ⟨(some 20), none, .load false 1 (.tmp 19)⟩,
 ⟨(some 21), none, .mov (.tmp 2)⟩,
 ⟨(some 22), none, .bin .eql (.tmp 20) (.tmp 21)⟩])
 (.cond (.tmp 22) (.reg [⟨(some 23), none, .mov (.tmp 7)⟩,
 ⟨(some 24), none, .mov (.tmp 1)⟩,
 ⟨(some 25), none, .mov (.tmp 8)⟩,
 ⟨(some 26), none, .iaddr 1 (.tmp 24) (.tmp 25)⟩,
 ⟨(some 27), none, .load false 1 (.tmp 26)⟩,
 ⟨(some 28), none, .bin .add (.tmp 23) (.tmp 27)⟩,
 ⟨(some 7), none, .mov (.tmp 28)⟩])
 (.skip))))
 (.reg [⟨(some 13), none, .mov (.tmp 8)⟩,
 ⟨(some 14), none, .bin .add (.tmp 13) (.lit (.int .i64 1))⟩,
 ⟨(some 8), none, .mov (.tmp 14)⟩]))))))
 (.seq (.reg [⟨(some 29), none, .mov (.tmp 7)⟩,
 ⟨(some 6), none, .mov (.tmp 29)⟩])
 (.ret))))
theorem k107 : FnC Tryz.prog 107 30 [] [] [.tmp 6] c107 3 := ⟨Tryz.f107, _, Tryz.func107, rfl, by decide, rfl, by decide, by kernel_rfl, by kernel_rfl⟩
end Go.Proofs.YtcpkkjbkbdmopaaGreat

/- The document's towels: the small functions. -/
namespace Go.Proofs.YtcpkkjbkbdmopaaGreat
open Go Go.Ab

theorem rin_ok (n lo hi : Int) : ACall Tryz.prog 75 [.t (vi n), .t (vi lo), .t (vi hi)] [] (ret (vb (wI n lo hi))) := by
  refine ACall.walk k75 ?_
  unfold c75
  simp only [go_sem, Nat.reduceEqDiff, Nat.reduceAdd]
  refine BrL.mk (fun h => ?_) (fun h => ?_)
  all_goals simp only [h, go_sem, Nat.reduceEqDiff]
  all_goals refine finL_ret [] ⟨rfl, rfl, rfl, rfl, _, rfl, ret_mk ?_⟩
  all_goals simp at h
  all_goals simp [wI, h]
  omega

theorem rspan_ok (s : Int × Int) (n : Int) : ACall Tryz.prog 77 [.t (tS s), .t (vi n)] [] (ret (vb (okS s n))) := by
  refine ACall.walk k77 ?_
  unfold c77 tS
  simp only [go_sem, Nat.reduceEqDiff, Nat.reduceAdd, Nat.reduceLeDiff]
  refine BrL.mk (fun h => ?_) (fun h => ?_)
  all_goals simp only [h, go_sem, Nat.reduceEqDiff, Nat.reduceAdd, Nat.reduceLeDiff]
  · refine BrL.mk (fun h' => ?_) (fun h' => ?_)
    all_goals simp only [h', go_sem, Nat.reduceEqDiff, Nat.reduceAdd]
    all_goals refine finL_ret [] ⟨rfl, rfl, rfl, rfl, _, rfl, ret_mk ?_⟩
    all_goals simp at h h'
    all_goals simp [okS, h, h']
    omega
  · refine finL_ret [] ⟨rfl, rfl, rfl, rfl, _, rfl, ret_mk ?_⟩
    simp at h
    simp [okS]
    omega

theorem power_ok (n : Nat) (hn : n ≤ 40) : ACall Tryz.prog 102 [.t (vi n)] [] (ret (vi ((2 ^ n : Nat) : Int))) := by
  refine ACall.walk k102 ?_
  unfold c102
  have hp : ∀ k : Nat, k ≤ 40 → 2 ^ k ≤ 2 ^ 40 := fun k hk => Nat.pow_le_pow_right (by omega) hk
  simp only [go_sem]
  refine awpL_loopK n (fun k s => s = { env := [(4, .t (vi k)), (3, .t (vi ((2 ^ k : Nat) : Int))), (0, .t (vi n))], σ := [] }) ⟨_, Sub.gc [] [4, 3, 0] rfl rfl, rfl⟩ ?_
  rintro k s hk rfl
  simp only [go_sem, Nat.reduceEqDiff]
  refine BrL.mk (fun h => ?_) (fun h => ?_)
  · have hlt : k < n := by simpa using h
    have h1 := hp k (by omega)
    have e1 : IntKind.i64.wrap (2 * ((2 ^ k : Nat) : Int)) = ((2 ^ (k + 1) : Nat) : Int) := by
      rw [Nat.pow_succ]
      generalize 2 ^ k = q at *
      rw [wrap_id (by omega) (by omega)]; omega
    have e2 : IntKind.i64.wrap ((k : Int) + 1) = ((k + 1 : Nat) : Int) := by rw [wrap_id (by omega) (by omega)]; omega
    simp only [h, go_sem, Nat.reduceEqDiff, e1, e2]
    exact ⟨hlt, _, Sub.gc [] [4, 3, 0] rfl rfl, rfl⟩
  · have : k = n := by have : ¬ (k : Int) < n := by simpa using h
                       omega
    subst this
    simp only [h, go_sem, Nat.reduceEqDiff]
    exact finL_ret [] ⟨rfl, rfl, rfl, rfl, _, rfl, res_mk rfl⟩

theorem thas_ok (a n : Nat) (ha : a < 4096) (hn : n ≤ 40) : ACall Tryz.prog 105 [.t (vi a), .t (vi n)] [] (ret (vb (a.testBit n))) := by
  refine ACall.walk k105 ?_
  unfold c105
  simp only [go_sem, Nat.reduceEqDiff]
  refine ACallL.quiet1 (power_ok n hn) rfl rfl rfl ?_
  have hp := Nat.two_pow_pos n
  have n0 : ¬ (((2 ^ n : Nat) : Int) = 0) := by omega
  have e1 : (a : Int).tdiv ((2 ^ n : Nat) : Int) = ((a / 2 ^ n : Nat) : Int) := by rw [Int.tdiv_eq_ediv_of_nonneg (by omega)]; norm_cast
  have hd : a / 2 ^ n ≤ a := Nat.div_le_self _ _
  have e2 : IntKind.i64.wrap ((a / 2 ^ n : Nat) : Int) = ((a / 2 ^ n : Nat) : Int) := i64_nat (by omega)
  have e3 : ((a / 2 ^ n : Nat) : Int).tmod 2 = ((a / 2 ^ n % 2 : Nat) : Int) := by
    generalize a / 2 ^ n = q at *
    rw [Int.tmod_eq_emod_of_nonneg (by omega)]; norm_cast
  have e4 : ¬ ((2 : Int) = 0) := by omega
  simp only [go_sem, Nat.reduceEqDiff, n0, e1, e2, e3, e4]
  refine finL_ret [] ⟨rfl, rfl, rfl, rfl, _, rfl, res_mk (congrArg (fun x => Out.ret (.t (vb x))) ?_)⟩
  rw [Nat.testBit_eq_decide_div_mod_eq]
  by_cases h : a / 2 ^ n % 2 = 1
  · simp [h]
  · have : a / 2 ^ n % 2 = 0 := by omega
    simp [this]

theorem rwords_ok (t : Tw) (ht : t.OK) (b : B) (hb : b ∈ t.bs) : ACall Tryz.prog 18 [.t (tB b)] [] (ret (tS (words b))) := by
  refine ACall.walk k18 ?_
  unfold c18 tB
  have hq := ht.bs b hb
  have e1 : IntKind.i64.wrap (b.ll - b.bh) = b.ll - b.bh := wrap_id (by omega) (by omega)
  have e2 : IntKind.i64.wrap (b.lh - b.bl) = b.lh - b.bl := wrap_id (by omega) (by omega)
  simp only [go_sem, Nat.reduceEqDiff, Nat.reduceAdd, Nat.reduceLeDiff, e1, e2]
  exact finL_ret [] ⟨rfl, rfl, rfl, rfl, _, rfl, res_mk rfl⟩

theorem rbather_ok (t : Tw) (i : Int) (hL : t.bs.length < 9223372036854775808) : ACall Tryz.prog 46 [.t (.agg (tw3 t)), .t (vi i)] [] (ret (vb (t.isB i))) := by
  refine ACall.walk k46 ?_
  unfold c46 tw3
  have e1 : IntKind.i64.wrap ((t.bs.length : Int) - 1) = t.bs.length - 1 := wrap_id (by omega) (by omega)
  simp only [go_sem, Nat.reduceEqDiff, Nat.reduceAdd, Nat.reduceLeDiff, List.length_map, e1]
  refine ACallL.quiet1 (rin_ok _ _ _) rfl rfl rfl ?_
  simp only [go_sem, Nat.reduceEqDiff]
  exact finL_ret [] ⟨rfl, rfl, rfl, rfl, _, rfl, res_mk rfl⟩

/-- Of whom a sum is taken. -/
def sumSel (p : B → Bool) (bs : List B) (l : List Int) : Int := ((bs.zip l).map fun x => if p x.1 then x.2 else 0).sum

theorem zip_take {α β : Type} : ∀ (a : List α) (b : List β) (k : Nat), a.zip (b.take k) = (a.zip b).take k
  | [], _, _ => by simp
  | _ :: _, [], _ => by simp
  | _ :: _, _ :: _, 0 => by simp
  | x :: a, y :: b, k + 1 => by simp [zip_take a b k]

theorem sumSel_take (p : B → Bool) (bs : List B) (l : List Int) (k : Nat) (b : B) (x : Int) (hb : bs[k]? = some b) (hx : l[k]? = some x) : sumSel p bs (l.take (k + 1)) = sumSel p bs (l.take k) + if p b then x else 0 := by
  unfold sumSel
  have h1 := zip_take bs l (k + 1)
  have h2 := zip_take bs l k
  have h3 : (bs.zip l)[k]? = some (b, x) := by rw [List.getElem?_zip_eq_some]; exact ⟨hb, hx⟩
  obtain ⟨hlt, e⟩ := List.getElem?_eq_some_iff.1 h3
  rw [h1, h2, List.take_succ_eq_append_getElem hlt, e, List.map_append, List.sum_append]
  simp

theorem sumSel_bound (p : B → Bool) (bs : List B) (l : List Int) (hr : ∀ x ∈ l, 0 ≤ x ∧ x ≤ 4) : 0 ≤ sumSel p bs l ∧ sumSel p bs l ≤ 4 * l.length := by
  unfold sumSel
  induction l generalizing bs with
  | nil => simp
  | cons x l ih =>
    cases bs with
    | nil => simp; omega
    | cons b bs =>
      have h1 := ih bs fun y hy => hr y (by simp [hy])
      have h2 := hr x (by simp)
      simp only [List.zip_cons_cons, List.map_cons, List.sum_cons, List.length_cons]
      split <;> omega

theorem rhut_ok (t : Tw) (ht : t.OK) (l : List Int) (hl : l.length = t.bs.length) (hr : ∀ x ∈ l, 0 ≤ x ∧ x ≤ 4) (n : Int) : ACall Tryz.prog 106 [.t (.agg (tw3 t)), .t (.slice 1 (l.map vi)), .t (vi n)] [] (ret (vi (sumSel (fun b => b.hut == n) t.bs l))) := by
  refine ACall.walk k106 ?_
  unfold c106 tw3
  have hnb := ht.nb
  simp only [go_sem, Nat.reduceEqDiff, Nat.reduceAdd]
  refine awpL_loopK l.length (fun k s => s = { env := [(8, .t (vi k)), (7, .t (vi (sumSel (fun b => b.hut == n) t.bs (l.take k)))), (3, .t (.ptr (.agg (tw3 t)) 0)), (1, .t (.slice 1 (l.map vi))), (2, .t (vi n))], σ := [] }) ⟨_, Sub.gc [] [8, 7, 3, 1, 2] rfl rfl, by simp [sumSel]; rfl⟩ ?_
  rintro k s hk rfl
  simp only [tw3, go_sem, Nat.reduceEqDiff, List.length_map]
  refine BrL.mk (fun h => ?_) (fun h => ?_)
  · have hlt : k < l.length := by simpa using h
    have hx : l[k]? = some l[k] := List.getElem?_eq_getElem hlt
    have hb : t.bs[k]? = some (t.bs[k]'(by omega)) := List.getElem?_eq_getElem _
    have hs := sumSel_take (fun b => b.hut == n) t.bs l k _ _ hb hx
    have hbd := sumSel_bound (fun b => b.hut == n) t.bs (l.take k) fun x hx => hr x (List.mem_of_mem_take hx)
    have hxb := hr _ (List.mem_of_getElem? hx)
    rw [List.length_take] at hbd
    have e2 : IntKind.i64.wrap ((k : Int) + 1) = ((k + 1 : Nat) : Int) := by rw [wrap_id (by omega) (by omega)]; omega
    generalize l[k] = x at *
    generalize t.bs[k]'(by omega) = b at *
    have e3 : IntKind.i64.wrap (sumSel (fun b => b.hut == n) t.bs (l.take k) + x) = sumSel (fun b => b.hut == n) t.bs (l.take k) + x := wrap_id (by omega) (by omega)
    simp only [h, go_sem, Nat.reduceEqDiff, List.getElem?_map, hb, tB]
    refine BrL.mk (fun h' => ?_) (fun h' => ?_)
    · simp only [h', go_sem, Nat.reduceEqDiff, List.getElem?_map, hx, e2, e3]
      refine ⟨hlt, _, Sub.gc [] [8, 7, 3, 1, 2] rfl rfl, ?_⟩
      rw [hs, h']; rfl
    · simp only [h', go_sem, Nat.reduceEqDiff, e2]
      refine ⟨hlt, _, Sub.gc [] [8, 7, 3, 1, 2] rfl rfl, ?_⟩
      rw [hs, h']; simp; rfl
  · have : k = l.length := by have : ¬ (k : Int) < l.length := by simpa using h
                              omega
    subst this
    rw [List.take_length]
    simp only [h, go_sem, Nat.reduceEqDiff]
    exact finL_ret [] ⟨rfl, rfl, rfl, rfl, _, rfl, res_mk rfl⟩

theorem rhalf_ok (t : Tw) (ht : t.OK) (l : List Int) (hl : l.length = t.bs.length) (hr : ∀ x ∈ l, 0 ≤ x ∧ x ≤ 4) (n : Int) : ACall Tryz.prog 107 [.t (.agg (tw3 t)), .t (.slice 1 (l.map vi)), .t (vi n)] [] (ret (vi (sumSel (fun b => b.half == n) t.bs l))) := by
  refine ACall.walk k107 ?_
  unfold c107 tw3
  have hnb := ht.nb
  simp only [go_sem, Nat.reduceEqDiff, Nat.reduceAdd]
  refine awpL_loopK l.length (fun k s => s = { env := [(8, .t (vi k)), (7, .t (vi (sumSel (fun b => b.half == n) t.bs (l.take k)))), (3, .t (.ptr (.agg (tw3 t)) 0)), (1, .t (.slice 1 (l.map vi))), (2, .t (vi n))], σ := [] }) ⟨_, Sub.gc [] [8, 7, 3, 1, 2] rfl rfl, by simp [sumSel]; rfl⟩ ?_
  rintro k s hk rfl
  simp only [tw3, go_sem, Nat.reduceEqDiff, List.length_map]
  refine BrL.mk (fun h => ?_) (fun h => ?_)
  · have hlt : k < l.length := by simpa using h
    have hx : l[k]? = some l[k] := List.getElem?_eq_getElem hlt
    have hb : t.bs[k]? = some (t.bs[k]'(by omega)) := List.getElem?_eq_getElem _
    have hs := sumSel_take (fun b => b.half == n) t.bs l k _ _ hb hx
    have hbd := sumSel_bound (fun b => b.half == n) t.bs (l.take k) fun x hx => hr x (List.mem_of_mem_take hx)
    have hxb := hr _ (List.mem_of_getElem? hx)
    rw [List.length_take] at hbd
    have e2 : IntKind.i64.wrap ((k : Int) + 1) = ((k + 1 : Nat) : Int) := by rw [wrap_id (by omega) (by omega)]; omega
    generalize l[k] = x at *
    generalize t.bs[k]'(by omega) = b at *
    have e3 : IntKind.i64.wrap (sumSel (fun b => b.half == n) t.bs (l.take k) + x) = sumSel (fun b => b.half == n) t.bs (l.take k) + x := wrap_id (by omega) (by omega)
    simp only [h, go_sem, Nat.reduceEqDiff, Nat.reduceAdd, List.getElem?_map, hb, tB]
    refine BrL.mk (fun h' => ?_) (fun h' => ?_)
    · simp only [h', go_sem, Nat.reduceEqDiff, List.getElem?_map, hx, e2, e3]
      refine ⟨hlt, _, Sub.gc [] [8, 7, 3, 1, 2] rfl rfl, ?_⟩
      rw [hs, h']; rfl
    · simp only [h', go_sem, Nat.reduceEqDiff, e2]
      refine ⟨hlt, _, Sub.gc [] [8, 7, 3, 1, 2] rfl rfl, ?_⟩
      rw [hs, h']; simp; rfl
  · have : k = l.length := by have : ¬ (k : Int) < l.length := by simpa using h
                              omega
    subst this
    rw [List.take_length]
    simp only [h, go_sem, Nat.reduceEqDiff]
    exact finL_ret [] ⟨rfl, rfl, rfl, rfl, _, rfl, res_mk rfl⟩
end Go.Proofs.YtcpkkjbkbdmopaaGreat

/- The document's towels: are counts right, are towels valid. -/
namespace Go.Proofs.YtcpkkjbkbdmopaaGreat
open Go Go.Ab

theorem brF {A B : Prop} : Br false A B = B := by simp [Br]
theorem brT {A B : Prop} : Br true A B = A := by simp [Br]
attribute [go_sem] brF brT

def rightH (t : Tw) (l : List Int) (a : Nat) (i : Nat) (s : Int × Int) : Bool := !(a.testBit i) || wI (sumSel (fun b => b.hut == (i : Int)) t.bs l) s.1 s.2
def rightV (t : Tw) (l : List Int) (a : Nat) (i : Nat) (s : Int × Int) : Bool := !(a.testBit i) || wI (sumSel (fun b => b.half == (i : Int)) t.bs l) s.1 s.2
def allIx (f : Nat → Int × Int → Bool) (l : List (Int × Int)) : Bool := l.zipIdx.all fun p => f p.2 p.1
def rightL (t : Tw) (l : List Int) (a b : Nat) : Bool := allIx (rightH t l a) t.hs && allIx (rightV t l b) t.vs

theorem allIx_succ (f : Nat → Int × Int → Bool) (l : List (Int × Int)) (k : Nat) (s : Int × Int) (hs : l[k]? = some s) : allIx f (l.take (k + 1)) = (allIx f (l.take k) && f k s) := by
  unfold allIx
  obtain ⟨hk, e⟩ := List.getElem?_eq_some_iff.1 hs
  have hlen : (l.take k).length = k := by simp; omega
  rw [List.take_succ_eq_append_getElem hk, List.zipIdx_append, List.all_append, hlen, e]
  simp

theorem allIx_false (f : Nat → Int × Int → Bool) (l : List (Int × Int)) (k : Nat) (s : Int × Int) (hs : l[k]? = some s) (hf : f k s = false) : allIx f l = false := by
  unfold allIx
  refine List.all_eq_false.2 ⟨(s, k), ?_, by simp [hf]⟩
  rw [List.mem_iff_getElem?]
  exact ⟨k, by simp [List.getElem?_zipIdx, hs]⟩

set_option maxRecDepth 4000 in
set_option maxHeartbeats 1000000 in
theorem right_ok (t : Tw) (ht : t.OK) (l : List Int) (hl : l.length = t.bs.length) (hr : ∀ x ∈ l, 0 ≤ x ∧ x ≤ 4) (a b : Nat) (ha : a < 8) (hb : b < 8) :
    ACall Tryz.prog 104 [.t (.agg (tw3 t)), .t (.slice 1 (l.map vi)), .t (vi a), .t (vi b)] [] (ret (vb (rightL t l a b))) := by
  refine ACall.walk k104 ?_
  unfold c104 tw3
  have hnh := ht.nh
  have hnv := ht.nv
  simp only [go_sem, Nat.reduceEqDiff, Nat.reduceAdd]
  refine awpL_loopK t.hs.length (fun k s => allIx (rightH t l a) (t.hs.take k) = true ∧ s = { env := [(9, .t (vi k)), (4, .t (.ptr (.agg (tw3 t)) 0)), (1, .t (.slice 1 (l.map vi))), (2, .t (vi a)), (3, .t (vi b))], σ := [] }) ⟨_, Sub.gc [] [9, 4, 1, 2, 3] rfl rfl, rfl, rfl⟩ ?_
  rintro k s hk ⟨hal, rfl⟩
  simp only [tw3, go_sem, Nat.reduceEqDiff, Nat.reduceAdd, List.length_map]
  refine BrL.mk (fun h => ?_) (fun h => ?_)
  · have hlt : k < t.hs.length := by simpa using h
    have hx : t.hs[k]? = some t.hs[k] := List.getElem?_eq_getElem hlt
    have hsucc := allIx_succ (rightH t l a) t.hs k _ hx
    have hfalse := allIx_false (rightH t l a) t.hs k _ hx
    have e2 : IntKind.i64.wrap ((k : Int) + 1) = ((k + 1 : Nat) : Int) := by rw [wrap_id (by omega) (by omega)]; omega
    generalize t.hs[k] = sp at *
    simp only [h, go_sem, Nat.reduceEqDiff]
    refine ACallL.quiet1 (thas_ok a k (by omega) (by omega)) rfl rfl rfl ?_
    cases hbit : a.testBit k
    · simp only [tw3, go_sem, Nat.reduceEqDiff, Nat.reduceAdd, undef, e2]
      refine ⟨hlt, _, Sub.gc [] [9, 4, 1, 2, 3] rfl rfl, ?_, rfl⟩
      rw [hsucc, hal]; simp [rightH, hbit]
    · simp only [go_sem, Nat.reduceEqDiff, Nat.reduceAdd, List.getElem?_map, hx, tS]
      refine ACallL.quiet1 (rhut_ok t ht l hl hr k) rfl rfl rfl ?_
      simp only [go_sem, Nat.reduceEqDiff, Nat.reduceAdd, List.getElem?_map, hx, tS]
      refine ACallL.quiet1 (rin_ok _ _ _) rfl rfl rfl ?_
      have hf : rightH t l a k sp = wI (sumSel (fun b => b.hut == (k : Int)) t.bs l) sp.1 sp.2 := by simp [rightH, hbit]
      cases hw : wI (sumSel (fun b => b.hut == (k : Int)) t.bs l) sp.1 sp.2
      · simp only [go_sem, Nat.reduceEqDiff, Nat.reduceAdd, Bool.not_false, List.getElem?_map, hx, tS]
        refine finL_ret [] ⟨rfl, rfl, rfl, rfl, _, rfl, res_mk ?_⟩
        rw [show rightL t l a b = false from by unfold rightL; rw [hfalse (by rw [hf, hw])]; rfl]
        rfl
      · simp only [tw3, go_sem, Nat.reduceEqDiff, Nat.reduceAdd, Bool.not_true, List.getElem?_map, hx, tS, e2]
        refine ⟨hlt, _, Sub.gc [] [9, 4, 1, 2, 3] rfl rfl, ?_, rfl⟩
        rw [hsucc, hal, hf, hw]; rfl
  · have : k = t.hs.length := by have : ¬ (k : Int) < t.hs.length := by simpa using h
                                 omega
    subst this
    rw [List.take_length] at hal
    simp only [h, go_sem]
    refine awpL_loopK t.vs.length (fun k s => allIx (rightV t l b) (t.vs.take k) = true ∧ s = { env := [(10, .t (vi k)), (4, .t (.ptr (.agg (tw3 t)) 0)), (1, .t (.slice 1 (l.map vi))), (3, .t (vi b))], σ := [] }) ⟨_, Sub.gc [] [10, 4, 1, 3] rfl rfl, rfl, rfl⟩ ?_
    rintro k s hk ⟨hal2, rfl⟩
    simp only [tw3, go_sem, Nat.reduceEqDiff, Nat.reduceAdd, List.length_map]
    refine BrL.mk (fun h => ?_) (fun h => ?_)
    · have hlt : k < t.vs.length := by simpa using h
      have hx : t.vs[k]? = some t.vs[k] := List.getElem?_eq_getElem hlt
      have hsucc := allIx_succ (rightV t l b) t.vs k _ hx
      have hfalse := allIx_false (rightV t l b) t.vs k _ hx
      have e2 : IntKind.i64.wrap ((k : Int) + 1) = ((k + 1 : Nat) : Int) := by rw [wrap_id (by omega) (by omega)]; omega
      generalize t.vs[k] = sp at *
      simp only [h, go_sem, Nat.reduceEqDiff]
      refine ACallL.quiet1 (thas_ok b k (by omega) (by omega)) rfl rfl rfl ?_
      cases hbit : b.testBit k
      · simp only [tw3, go_sem, Nat.reduceEqDiff, Nat.reduceAdd, undef, e2]
        refine ⟨hlt, _, Sub.gc [] [10, 4, 1, 3] rfl rfl, ?_, rfl⟩
        rw [hsucc, hal2]; simp [rightV, hbit]
      · simp only [go_sem, Nat.reduceEqDiff, Nat.reduceAdd, List.getElem?_map, hx, tS]
        refine ACallL.quiet1 (rhalf_ok t ht l hl hr k) rfl rfl rfl ?_
        simp only [go_sem, Nat.reduceEqDiff, Nat.reduceAdd, List.getElem?_map, hx, tS]
        refine ACallL.quiet1 (rin_ok _ _ _) rfl rfl rfl ?_
        have hf : rightV t l b k sp = wI (sumSel (fun b => b.half == (k : Int)) t.bs l) sp.1 sp.2 := by simp [rightV, hbit]
        cases hw : wI (sumSel (fun b => b.half == (k : Int)) t.bs l) sp.1 sp.2
        · simp only [go_sem, Nat.reduceEqDiff, Nat.reduceAdd, Bool.not_false, List.getElem?_map, hx, tS]
          refine finL_ret [] ⟨rfl, rfl, rfl, rfl, _, rfl, res_mk ?_⟩
          rw [show rightL t l a b = false from by unfold rightL; rw [hfalse (by rw [hf, hw]), Bool.and_false]]
          rfl
        · simp only [tw3, go_sem, Nat.reduceEqDiff, Nat.reduceAdd, Bool.not_true, List.getElem?_map, hx, tS, e2]
          refine ⟨hlt, _, Sub.gc [] [10, 4, 1, 3] rfl rfl, ?_, rfl⟩
          rw [hsucc, hal2, hf, hw]; rfl
    · have : k = t.vs.length := by have : ¬ (k : Int) < t.vs.length := by simpa using h
                                   omega
      subst this
      rw [List.take_length] at hal2
      simp only [h, go_sem]
      refine finL_ret [] ⟨rfl, rfl, rfl, rfl, _, rfl, res_mk ?_⟩
      rw [show rightL t l a b = true from by unfold rightL; rw [hal, hal2]; rfl]
      rfl

/-! ### Are towels valid? -/
set_option maxRecDepth 8000 in
set_option maxHeartbeats 2000000 in
theorem rtowels_ok (t : Tw) : ACall Tryz.prog 48 [.t (.agg (tw3 t))] [] (ret (vb t.ok)) := by
  refine ACall.walk k48 ?_
  unfold c48 tw3
  have fail : ∀ {s : St}, t.ok = false → s.df = [] → s.k = 0 → lk s.env 2 = .t (vb false) → @finL 0 0 ⟨[.tmp 2]⟩ ⟨ret (vb t.ok)⟩ .ret s := fun h h1 h2 h3 =>
    finL_ret [] ⟨by rw [h1]; rfl, h2, rfl, rfl, .t (vb false), by simp only [resV, resEs, h3], res_mk (by rw [h]; rfl)⟩
  cases hA : decide ((t.hs.length : Int) > 3)
  rotate_left
  · simp only [go_sem, Nat.reduceEqDiff, Nat.reduceAdd, Nat.reduceLeDiff, Bool.not_true, List.length_map, hA]
    exact fail (by simp [Tw.ok] at hA ⊢; omega) rfl rfl rfl
  cases hB : decide ((t.vs.length : Int) > 3)
  rotate_left
  · simp only [go_sem, Nat.reduceEqDiff, Nat.reduceAdd, Nat.reduceLeDiff, Bool.not_true, Bool.not_false, List.length_map, hA, hB]
    exact fail (by simp [Tw.ok] at hB ⊢; omega) rfl rfl rfl
  cases hC : decide ((t.bs.length : Int) > 6)
  rotate_left
  · simp only [go_sem, Nat.reduceEqDiff, Nat.reduceAdd, Nat.reduceLeDiff, Bool.not_false, List.length_map, hA, hB, hC]
    exact fail (by simp [Tw.ok] at hC ⊢; omega) rfl rfl rfl
  have hl : t.bs.length ≤ 6 ∧ t.hs.length ≤ 3 ∧ t.vs.length ≤ 3 := by simp at hA hB hC; omega
  simp only [go_sem, Nat.reduceEqDiff, Nat.reduceAdd, Nat.reduceLeDiff, Bool.not_false, List.length_map, hA, hB, hC]
  clear hA hB hC
  -- huts
  refine awpL_loopK t.hs.length (fun k s => (t.hs.take k).all (okS · 24) = true ∧ s = { env := [(3, .t (vi k)), (1, .t (.ptr (.agg (tw3 t)) 0))], σ := [] }) ⟨_, Sub.gc [] [3, 1] rfl rfl, rfl, rfl⟩ ?_
  rintro k s hk ⟨hal, rfl⟩
  simp only [tw3, go_sem, Nat.reduceEqDiff, Nat.reduceAdd, List.length_map]
  refine BrL.mk (fun h => ?_) (fun h => ?_)
  · have hlt : k < t.hs.length := by simpa using h
    have hx : t.hs[k]? = some t.hs[k] := List.getElem?_eq_getElem hlt
    have htk : t.hs.take (k + 1) = t.hs.take k ++ [t.hs[k]] := List.take_succ_eq_append_getElem hlt
    have hmem := List.getElem_mem hlt
    have e2 : IntKind.i64.wrap ((k : Int) + 1) = ((k + 1 : Nat) : Int) := by rw [wrap_id (by omega) (by omega)]; omega
    generalize t.hs[k] = sp at *
    simp only [h, go_sem, Nat.reduceEqDiff, Nat.reduceAdd, List.getElem?_map, hx, tS]
    refine ACallL.quiet1 (rspan_ok sp 24) rfl rfl rfl ?_
    cases hs : okS sp 24
    · simp only [go_sem, Nat.reduceEqDiff, Bool.not_false]
      refine fail ?_ rfl rfl rfl
      have : t.hs.all (okS · 24) = false := List.all_eq_false.2 ⟨sp, hmem, by simp [hs]⟩
      simp only [Tw.ok, this, Bool.and_false, Bool.false_and]
    · simp only [go_sem, Nat.reduceEqDiff, Bool.not_true, e2]
      exact ⟨hlt, _, Sub.gc [] [3, 1] rfl rfl, by rw [htk, List.all_append, hal]; simp only [List.all_cons, List.all_nil, hs, Bool.and_true], rfl⟩
  have hkh : k = t.hs.length := by have : ¬ (k : Int) < t.hs.length := by simpa using h
                                   omega
  subst hkh
  rw [List.take_length] at hal
  simp only [h, go_sem]
  -- half hours
  refine awpL_loopK t.vs.length (fun k s => (t.vs.take k).all (okS · 24) = true ∧ s = { env := [(4, .t (vi k)), (1, .t (.ptr (.agg (tw3 t)) 0))], σ := [] }) ⟨_, Sub.gc [] [4, 1] rfl rfl, rfl, rfl⟩ ?_
  clear h
  rintro k s hk ⟨hal2, rfl⟩
  simp only [tw3, go_sem, Nat.reduceEqDiff, Nat.reduceAdd, List.length_map]
  refine BrL.mk (fun h => ?_) (fun h => ?_)
  · have hlt : k < t.vs.length := by simpa using h
    have hx : t.vs[k]? = some t.vs[k] := List.getElem?_eq_getElem hlt
    have htk : t.vs.take (k + 1) = t.vs.take k ++ [t.vs[k]] := List.take_succ_eq_append_getElem hlt
    have hmem := List.getElem_mem hlt
    have e2 : IntKind.i64.wrap ((k : Int) + 1) = ((k + 1 : Nat) : Int) := by rw [wrap_id (by omega) (by omega)]; omega
    generalize t.vs[k] = sp at *
    simp only [h, go_sem, Nat.reduceEqDiff, Nat.reduceAdd, List.getElem?_map, hx, tS]
    refine ACallL.quiet1 (rspan_ok sp 24) rfl rfl rfl ?_
    cases hs : okS sp 24
    · simp only [go_sem, Nat.reduceEqDiff, Bool.not_false]
      refine fail ?_ rfl rfl rfl
      have : t.vs.all (okS · 24) = false := List.all_eq_false.2 ⟨sp, hmem, by simp [hs]⟩
      simp only [Tw.ok, this, Bool.and_false, Bool.false_and]
    · simp only [go_sem, Nat.reduceEqDiff, Bool.not_true, e2]
      exact ⟨hlt, _, Sub.gc [] [4, 1] rfl rfl, by rw [htk, List.all_append, hal2]; simp only [List.all_cons, List.all_nil, hs, Bool.and_true], rfl⟩
  have hkv : k = t.vs.length := by have : ¬ (k : Int) < t.vs.length := by simpa using h
                                   omega
  subst hkv
  rw [List.take_length] at hal2
  simp only [h, go_sem]
  -- bathers
  refine awpL_loopK t.bs.length (fun k s => (t.ok = okBs t (t.bs.take k) (t.bs.drop k)) ∧ s = { env := [(5, .t (vi k)), (1, .t (.ptr (.agg (tw3 t)) 0))], σ := [] }) ⟨_, Sub.gc [] [5, 1] rfl rfl, by simp [Tw.ok, hal, hal2, hl], rfl⟩ ?_
  clear h
  rintro k s hk ⟨hok, rfl⟩
  simp only [tw3, go_sem, Nat.reduceEqDiff, List.length_map]
  refine BrL.mk (fun h => ?_) (fun h => ?_)
  · have hlt : k < t.bs.length := by simpa using h
    have hx : t.bs[k]? = some t.bs[k] := List.getElem?_eq_getElem hlt
    have htk : t.bs.take (k + 1) = t.bs.take k ++ [t.bs[k]] := List.take_succ_eq_append_getElem hlt
    have hdr : t.bs.drop k = t.bs[k] :: t.bs.drop (k + 1) := List.drop_eq_getElem_cons hlt
    have hseen : ∀ j : Nat, j < k → (t.bs.take k)[j]? = t.bs[j]? := fun j hj => by rw [List.getElem?_take, if_pos hj]
    have hseenl : (t.bs.take k).length = k := by simp; omega
    have e1 : IntKind.i64.wrap ((t.hs.length : Int) - 1) = t.hs.length - 1 := wrap_id (by omega) (by omega)
    have e0 : IntKind.i64.wrap ((t.vs.length : Int) - 1) = t.vs.length - 1 := wrap_id (by omega) (by omega)
    have e2 : IntKind.i64.wrap ((k : Int) + 1) = ((k + 1 : Nat) : Int) := by rw [wrap_id (by omega) (by omega)]; omega
    rw [hdr] at hok
    generalize t.bs[k] = b at *
    generalize t.bs.take k = seen at *
    have bad : (okB t b && !(seen.any (sameP b))) = false → t.ok = false := fun h => by rw [hok]; simp only [okBs, h, Bool.false_and]
    have no : okB t b = false → t.ok = false := fun h => bad (by rw [h]; rfl)
    simp only [h, go_sem, Nat.reduceEqDiff, Nat.reduceAdd, Nat.reduceLeDiff, List.getElem?_map, hx, tB, List.length_map, e1]
    refine ACallL.quiet1 (rin_ok _ _ _) rfl rfl rfl ?_
    cases g1 : wI b.hut 0 (t.hs.length - 1)
    · simp only [go_sem, Nat.reduceEqDiff, Bool.not_true, Bool.not_false, undef]
      exact fail (no (by simp [okB, g1])) rfl rfl rfl
    simp only [go_sem, Nat.reduceEqDiff, Nat.reduceAdd, Nat.reduceLeDiff, Bool.not_true, Bool.not_false, List.length_map, e0]
    refine ACallL.quiet1 (rin_ok _ _ _) rfl rfl rfl ?_
    cases g2 : wI b.half 0 (t.vs.length - 1)
    · simp only [go_sem, Nat.reduceEqDiff, Bool.not_true, Bool.not_false, undef]
      exact fail (no (by simp [okB, g2])) rfl rfl rfl
    simp only [go_sem, Nat.reduceEqDiff, Nat.reduceAdd, Nat.reduceLeDiff, Bool.not_true, Bool.not_false]
    refine ACallL.quiet1 (rspan_ok (b.ll, b.lh) 4) rfl rfl rfl ?_
    cases g3 : okS (b.ll, b.lh) 4
    · simp only [go_sem, Nat.reduceEqDiff, Bool.not_true, Bool.not_false, undef]
      exact fail (no (by simp [okB, g3])) rfl rfl rfl
    simp only [go_sem, Nat.reduceEqDiff, Nat.reduceAdd, Bool.not_true, Bool.not_false]
    refine ACallL.quiet1 (rspan_ok (b.bl, b.bh) 4) rfl rfl rfl ?_
    cases g4 : okS (b.bl, b.bh) 4
    · simp only [go_sem, Nat.reduceEqDiff, Bool.not_true, Bool.not_false, undef]
      exact fail (no (by simp [okB, g4])) rfl rfl rfl
    simp only [go_sem, Nat.reduceEqDiff, Nat.reduceAdd, Nat.reduceLeDiff, Bool.not_true, Bool.not_false]
    cases g5 : decide (b.bl > b.lh)
    rotate_left
    · simp only [go_sem]
      exact fail (no (by have : ¬ b.bl ≤ b.lh := by simp at g5; omega
                         simp [okB, this])) rfl rfl rfl
    have hokb : okB t b = true := by
      have : b.bl ≤ b.lh := by simp at g5; omega
      simp [okB, g1, g2, g3, g4, this]
    simp only [go_sem]
    refine awpL_loopK k (fun j s => (seen.take j).any (sameP b) = false ∧ s = { env := [(7, .t (vi j)), (5, .t (vi k)), (6, .t (.ptr (.agg [vi b.hut, vi b.half, vi b.ll, vi b.lh, vi b.bl, vi b.bh]) 0)), (1, .t (.ptr (.agg (tw3 t)) 0))], σ := [] }) ⟨_, Sub.gc [] [7, 5, 6, 1] rfl rfl, rfl, rfl⟩ ?_
    clear h
    rintro j s hj ⟨hany, rfl⟩
    simp only [tw3, go_sem, Nat.reduceEqDiff]
    refine BrL.mk (fun h => ?_) (fun h => ?_)
    · have hlt' : j < k := by simpa using h
      have hjb : t.bs[j]? = some (t.bs[j]'(by omega)) := List.getElem?_eq_getElem _
      have hsj := hseen j hlt'
      rw [hjb] at hsj
      have e3 : IntKind.i64.wrap ((j : Int) + 1) = ((j + 1 : Nat) : Int) := by rw [wrap_id (by omega) (by omega)]; omega
      generalize t.bs[j]'(by omega) = x at *
      have hsm := List.mem_of_getElem? hsj
      obtain ⟨hjl, hje⟩ := List.getElem?_eq_some_iff.1 hsj
      have htj : seen.take (j + 1) = seen.take j ++ [x] := by rw [List.take_succ_eq_append_getElem hjl, hje]
      have hsame : sameP b x = ((x.hut == b.hut) && (x.half == b.half)) := by
        unfold sameP
        rw [Bool.beq_comm (a := b.hut), Bool.beq_comm (a := b.half)]
      simp only [h, go_sem, Nat.reduceEqDiff, List.getElem?_map, hjb, tB]
      have close1 : sameP b x = true → t.ok = false := fun hs => bad (by
        have : seen.any (sameP b) = true := List.any_eq_true.2 ⟨x, hsm, hs⟩
        rw [this]; simp)
      cases q1 : (x.hut == b.hut) <;> cases q2 : (x.half == b.half) <;> simp only [go_sem, Nat.reduceEqDiff, Nat.reduceAdd, undef, q2, List.getElem?_map, hjb, e3, tB, tw3]
      · exact ⟨hlt', _, Sub.gc [] [7, 5, 6, 1] rfl rfl, by rw [htj, List.any_append, hany]; simp [hsame, q1, q2], rfl⟩
      · exact ⟨hlt', _, Sub.gc [] [7, 5, 6, 1] rfl rfl, by rw [htj, List.any_append, hany]; simp [hsame, q1, q2], rfl⟩
      · exact ⟨hlt', _, Sub.gc [] [7, 5, 6, 1] rfl rfl, by rw [htj, List.any_append, hany]; simp [hsame, q1, q2], rfl⟩
      · exact fail (close1 (by rw [hsame, q1, q2]; rfl)) rfl rfl rfl
    · have hjk : j = k := by have : ¬ (j : Int) < k := by simpa using h
                             omega
      subst hjk
      rw [List.take_of_length_le (by omega)] at hany
      simp only [h, go_sem, Nat.reduceEqDiff, e2]
      refine ⟨hlt, _, Sub.gc [] [5, 1] rfl rfl, ?_, rfl⟩
      rw [htk, hok]
      simp only [okBs, hokb, hany, Bool.not_false, Bool.true_and]
  · have hkb : k = t.bs.length := by have : ¬ (k : Int) < t.bs.length := by simpa using h
                                     omega
    subst hkb
    rw [List.drop_length] at hok
    simp only [okBs] at hok
    simp only [h, go_sem]
    exact finL_ret [] ⟨rfl, rfl, rfl, rfl, _, rfl, res_mk (by rw [hok]; rfl)⟩
end Go.Proofs.YtcpkkjbkbdmopaaGreat

/- The document's truths. -/
namespace Go.Proofs.YtcpkkjbkbdmopaaGreat
open Go Go.Ab

def tL (l : List Int) : T := .slice 1 (l.map vi)
/-- All that goes on from some. -/
def extL (t : Tw) (a b : Nat) : Nat → List Int → List (List Int)
  | 0, l => if rightL t l a b then [l] else []
  | k + 1, l => match t.bs[l.length]? with
    | some x => (rangeI (words x).1 (words x).2).flatMap fun n => extL t a b k (l ++ [n])
    | none => []

theorem rens_t (ρ : Nat → Nat) (xs : List T) : E.rens ρ (xs.map E.t) = xs.map E.t := by
  rw [E.rens_map, List.map_map]; rfl
theorem rens_tf {α : Type} (ρ : Nat → Nat) (f : α → T) (xs : List α) : E.rens ρ (xs.map fun x => E.t (f x)) = xs.map fun x => E.t (f x) := by
  rw [E.rens_map, List.map_map]; rfl

/-- What is put behind the list: of the last one the list itself. -/
def newsE (t : Tw) (a b : Nat) : Nat → List Int → Nat → List E
  | 0, l, id => if rightL t l a b then [.loc id l.length] else []
  | k + 1, l, _ => (extL t a b (k + 1) l).map fun l => .t (tL l)

theorem newsE_len (t : Tw) (a b k : Nat) (l : List Int) (id : Nat) : (newsE t a b k l id).length = (extL t a b k l).length := by
  cases k with
  | zero => simp only [newsE, extL]; split <;> rfl
  | succ k => simp [newsE]

theorem newsE_ren (t : Tw) (a b k : Nat) (l : List Int) (id : Nat) (ρ : Nat → Nat) : E.rens ρ (newsE t a b k l id) = newsE t a b k l (ρ id) := by
  cases k with
  | zero =>
    simp only [newsE]
    split
    · simp only [E.rens, E.ren]
    · rfl
  | succ k => exact rens_tf ρ _ _

theorem newsE_gc (t : Tw) (a b k : Nat) (l : List Int) (id : Nat) (kp : List Nat) (σ : List AO) (h : pos? kp id = none) (ho : σ[id]? = some (.row 1 (l.map fun x => .t (vi x)))) : (newsE t a b k l id).map (E.gc kp σ 12) = (extL t a b k l).map fun l => .t (tL l) := by
  cases k with
  | zero =>
    simp only [newsE, extL]
    split
    · simp only [List.map_cons, List.map_nil]
      rw [gc_loc (xs := l.map vi) h (by rw [List.map_map]; exact ho) (by simp)]
      rfl
    · rfl
  | succ k => simp only [newsE]; rw [List.map_map]; rfl

def truR (t : Tw) (a b k : Nat) (l : List Int) (outs : List T) (o : Out) (σ : List AO) : Prop :=
  o = .ret (.loc 0 (outs.length + (extL t a b k l).length)) ∧ σ = [.row 1 (outs.map .t ++ newsE t a b k l 1), .row 1 (l.map fun x => .t (vi x))]

set_option maxRecDepth 8000 in
set_option maxHeartbeats 2000000 in
theorem rtruths_ok (t : Tw) (ht : t.OK) (a b : Nat) (ha : a < 8) (hb : b < 8) : ∀ (k : Nat) (l : List Int) (outs : List T), l.length + k = t.bs.length → (∀ x ∈ l, 0 ≤ x ∧ x ≤ 4) → outs.length + (extL t a b k l).length ≤ 1000000 →
    ACall Tryz.prog 101 [.t (.agg (tw3 t)), .t (vi a), .t (vi b), .loc 1 l.length, .loc 0 outs.length] [.row 1 (outs.map .t), .row 1 (l.map fun x => .t (vi x))] (truR t a b k l outs)
  | 0, l, outs, hl, hr, hout => by
    refine ACall.walk k101 ?_
    unfold c101
    have hnb := ht.nb
    have hgc : ∀ (σ0 : AO) (rest : List AO), E.gc [] (σ0 :: AO.row 1 (l.map fun x => E.t (vi x)) :: rest) 12 (.loc 1 l.length) = .t (.slice 1 (l.map vi)) := fun σ0 rest => gc_loc rfl (by rw [List.map_map]; rfl) (by simp)
    have heq : ((l.length : Int) == (t.bs.length : Int)) = true := by simp; omega
    simp only [tw3, go_sem, Nat.reduceEqDiff, Nat.reduceAdd, Nat.reduceLeDiff, List.length_map, heq]
    refine ACallL.quiet1 (right_ok t ht l (by omega) hr a b ha hb) rfl (by simp only [List.map_cons, List.map_nil, hgc]; rfl) rfl ?_
    have hnews : newsE t a b 0 l 1 = if rightL t l a b then [.loc 1 l.length] else [] := rfl
    have hext : extL t a b 0 l = if rightL t l a b then [l] else [] := rfl
    cases hR : rightL t l a b
    · simp only [go_sem, Nat.reduceEqDiff, Nat.reduceAdd]
      refine finL_ret [0, 1] ⟨rfl, rfl, rfl, rfl, _, rfl, ?_, ?_⟩
      · rw [hext, hR]; rfl
      · rw [hnews, hR]; simp only [σgc, AO.gc, List.map_cons, List.map_nil, List.getD_cons_zero, List.getD_cons_succ, List.map_map, gc_comp, gc_comp', Bool.false_eq_true, if_false, List.append_nil]
    · simp only [go_sem, Nat.reduceEqDiff, Nat.reduceAdd, Nat.reduceLT, List.length_map, maxLen]
      refine ⟨by rw [hext, hR] at hout; simp at hout; omega, ?_⟩
      refine finL_ret [0, 1] ⟨rfl, rfl, rfl, rfl, _, rfl, ?_, ?_⟩
      · rw [hext, hR]; rfl
      · rw [hnews, hR]; simp only [σgc, AO.gc, List.map_cons, List.map_nil, List.getD_cons_zero, List.getD_cons_succ, List.map_append, List.map_map, gc_comp, gc_comp', if_true]; rfl
  | k + 1, l, outs, hl, hr, hout => by
    refine ACall.walk k101 ?_
    unfold c101
    have hnb := ht.nb
    have hbx : t.bs[l.length]? = some (t.bs[l.length]'(by omega)) := List.getElem?_eq_getElem _
    have hbm := List.mem_of_getElem? hbx
    have hext : extL t a b (k + 1) l = (rangeI (words (t.bs[l.length]'(by omega))).1 (words (t.bs[l.length]'(by omega))).2).flatMap fun n => extL t a b k (l ++ [n]) := by rw [extL, hbx]
    generalize t.bs[l.length]'(by omega) = x at *
    have hwb := words_bound t ht hbm
    have heq : ((l.length : Int) == (t.bs.length : Int)) = false := by simp; omega
    have hwok := rwords_ok t ht x hbm
    have htS : tS (words x) = .agg [vi (words x).1, vi (words x).2] := rfl
    rw [htS] at hwok
    simp only [tw3, go_sem, Nat.reduceEqDiff, Nat.reduceAdd, Nat.reduceLeDiff, List.length_map, heq, List.getElem?_map, hbx]
    simp only [tB, go_sem, Nat.reduceEqDiff, Nat.reduceAdd]
    refine ACallL.quiet1 hwok rfl rfl rfl ?_
    generalize (words x).1 = lo at *
    generalize (words x).2 = hi at *
    simp only [go_sem, Nat.reduceEqDiff, Nat.reduceAdd, Nat.reduceLeDiff]
    obtain ⟨nw, hnw⟩ : ∃ nw : Nat → List (List Int), ∀ j, nw j = ((List.range j).map fun j : Nat => lo + (j : Int)).flatMap fun n => extL t a b k (l ++ [n]) := ⟨_, fun _ => rfl⟩
    have nw0 : nw 0 = [] := by rw [hnw]; rfl
    have nwS : ∀ j, nw (j + 1) = nw j ++ extL t a b k (l ++ [lo + (j : Int)]) := fun j => by rw [hnw, hnw, List.range_succ, List.map_append, List.flatMap_append]; simp
    have nwN : nw (hi - lo + 1).toNat = extL t a b (k + 1) l := by rw [hnw, hext]; rfl
    have nwB : ∀ j, j ≤ (hi - lo + 1).toNat → (nw j).length ≤ (extL t a b (k + 1) l).length := fun j hj => by
      rw [← nwN]
      obtain ⟨m, hm⟩ := Nat.exists_eq_add_of_le hj
      rw [hm]
      clear hm hj
      induction m with
      | zero => exact Nat.le_refl _
      | succ m ih => rw [← Nat.add_assoc, nwS, List.length_append]; omega
    refine awpL_loopK (hi - lo + 1).toNat (fun j s => s = { env := [(12, .t (vi (lo + j))), (11, .t (.ptr (.agg [vi lo, vi hi]) 0)), (4, .loc 0 (outs ++ (nw j).map tL).length), (5, .t (.ptr (.agg (tw3 t)) 0)), (3, .loc 1 l.length), (1, .t (vi a)), (2, .t (vi b))], σ := [.row 1 ((outs ++ (nw j).map tL).map .t), .row 1 (l.map fun x => .t (vi x))] })
      ⟨_, Sub.gc [0, 1] [12, 11, 4, 5, 3, 1, 2] rfl rfl, St.gc_mk (by rw [nw0]; simp; exact ⟨rfl, rfl, rfl, rfl, rfl, rfl, rfl⟩) (by simp only [σgc, AO.gc, List.map_cons, List.map_nil, List.getD_cons_zero, List.getD_cons_succ, List.map_append, List.map_map, gc_comp, gc_comp', nw0]; simp) rfl rfl⟩ ?_
    rintro j s hj rfl
    have hbn := nwB j hj
    have hS := nwS j
    generalize hnj : nw j = nj at *
    simp only [tw3, go_sem, Nat.reduceEqDiff, Nat.reduceAdd]
    refine BrL.mk (fun h => ?_) (fun h => ?_)
    · have hle : lo + (j : Int) ≤ hi := by simpa using h
      have hjN : j < (hi - lo + 1).toNat := by omega
      have hb1 := nwB (j + 1) (by omega)
      have hw : IntKind.i64.wrap (lo + (j : Int) + 1) = lo + ((j + 1 : Nat) : Int) := by rw [wrap_id (by omega) (by omega)]; omega
      rw [hS, List.length_append] at hb1
      have hrec := rtruths_ok t ht a b ha hb k (l ++ [lo + (j : Int)]) (outs ++ nj.map tL) (by simp; omega) (fun x hx => by
        rcases List.mem_append.1 hx with hx | hx
        · exact hr x hx
        · simp at hx; subst hx; omega) (by simp; omega)
      generalize hosq : outs ++ nj.map tL = os at *
      simp only [h, go_sem]
      refine awpL_gcpE [0, 1] [12, 11, 4, 5, 3, 1, 2] { env := [(12, .t (vi (lo + j))), (11, .t (.ptr (.agg [vi lo, vi hi]) 0)), (4, .loc 0 os.length), (5, .t (.ptr (.agg (tw3 t)) 0)), (3, .loc 1 l.length), (1, .t (vi a)), (2, .t (vi b))], σ := [.row 1 (os.map .t), .row 1 (l.map fun x => .t (vi x))] } (St.gc_mk rfl (by simp only [σgc, AO.gc, List.map_cons, List.map_nil, List.getD_cons_zero, List.getD_cons_succ, List.map_map, gc_comp, gc_comp']) rfl rfl) rfl rfl ?_
      simp only [tw3, go_sem, Nat.reduceEqDiff, Nat.reduceAdd]
      have hlen' : (l ++ [lo + (j : Int)]).length = l.length + 1 := by simp
      rw [hlen'] at hrec
      have hmapl : (l ++ [lo + (j : Int)]).map (fun x => E.t (vi x)) = l.map (fun x => E.t (vi x)) ++ [.t (vi (lo + (j : Int)))] := by simp
      have callA : ∀ {R : Lz (Out → List AO → Prop)}, R.get (.ret (.loc 0 (os.length + (extL t a b k (l ++ [lo + (j : Int)])).length))) [.row 1 (os.map .t ++ newsE t a b k (l ++ [lo + (j : Int)]) 2), .row 1 (l.map fun x => .t (vi x)), .row 1 (l.map (fun x => .t (vi x)) ++ [.t (vi (lo + (j : Int)))]), .row 1 [.t (vi (lo + (j : Int)))]] →
          @ACallL Tryz.prog 101 [.t (.agg (tw3 t)), .t (vi a), .t (vi b), .loc 2 (l.length + 1), .loc 0 os.length] [.row 1 (os.map .t), .row 1 (l.map fun x => .t (vi x)), .row 1 (l.map (fun x => .t (vi x)) ++ [.t (vi (lo + (j : Int)))]), .row 1 [.t (vi (lo + (j : Int)))]] R := fun {R} hR => by
        refine ACall.mono (ACall.lend [0, 2] hrec (by decide) (by simp) rfl (fun i o ho => ?_) rfl) ?_
        · match i, ho with
          | 0, ho => simp at ho; subst ho; simp only [AO.ren, rens_t]; rfl
          | 1, ho => simp at ho; subst ho; simp only [AO.ren, E.rens_map]; simp [lendR, E.ren]
          | i + 2, ho => simp at ho
        · rintro o σ1 ⟨o0, σ0', ⟨rfl, rfl⟩, _, rfl, rfl⟩
          simp only [List.map_cons, List.map_nil, AO.ren, E.rens_map, List.map_append, hmapl, lendB, Out.ren, E.ren]
          have hn := newsE_ren t a b k (l ++ [lo + (j : Int)]) 1 (lendR [0, 2] 4)
          rw [E.rens_map] at hn
          have h4 : [AO.row 1 (os.map E.t), AO.row 1 (l.map fun x => E.t (vi x)), AO.row 1 (l.map (fun x => E.t (vi x)) ++ [E.t (vi (lo + (j : Int)))]), AO.row 1 [E.t (vi (lo + (j : Int)))]].length = 4 := rfl
          rw [h4, hn]
          have hos : (os.map E.t).map (E.ren (lendR [0, 2] 4)) = os.map E.t := by rw [List.map_map]; rfl
          have hll : (l.map fun x => E.t (vi x)).map (E.ren (lendR [0, 2] 4)) = l.map fun x => E.t (vi x) := by rw [List.map_map]; rfl
          rw [hos, hll]
          exact hR
      have callB : ∀ {R : Lz (Out → List AO → Prop)}, R.get (.ret (.loc 0 (os.length + (extL t a b k (l ++ [lo + (j : Int)])).length))) [.row 1 (os.map .t ++ newsE t a b k (l ++ [lo + (j : Int)]) 3), .row 1 (l.map fun x => .t (vi x)), .row 1 [.t (vi (lo + (j : Int)))], .row 1 (l.map (fun x => .t (vi x)) ++ [.t (vi (lo + (j : Int)))])] →
          @ACallL Tryz.prog 101 [.t (.agg (tw3 t)), .t (vi a), .t (vi b), .loc 3 (l.length + 1), .loc 0 os.length] [.row 1 (os.map .t), .row 1 (l.map fun x => .t (vi x)), .row 1 [.t (vi (lo + (j : Int)))], .row 1 (l.map (fun x => .t (vi x)) ++ [.t (vi (lo + (j : Int)))])] R := fun {R} hR => by
        refine ACall.mono (ACall.lend [0, 3] hrec (by decide) (by simp) rfl (fun i o ho => ?_) rfl) ?_
        · match i, ho with
          | 0, ho => simp at ho; subst ho; simp only [AO.ren, rens_t]; rfl
          | 1, ho => simp at ho; subst ho; simp only [AO.ren, E.rens_map]; simp [lendR, E.ren]
          | i + 2, ho => simp at ho
        · rintro o σ1 ⟨o0, σ0', ⟨rfl, rfl⟩, _, rfl, rfl⟩
          simp only [List.map_cons, List.map_nil, AO.ren, E.rens_map, List.map_append, hmapl, lendB, Out.ren, E.ren]
          have hn := newsE_ren t a b k (l ++ [lo + (j : Int)]) 1 (lendR [0, 3] 4)
          rw [E.rens_map] at hn
          have h4 : [AO.row 1 (os.map E.t), AO.row 1 (l.map fun x => E.t (vi x)), AO.row 1 [E.t (vi (lo + (j : Int)))], AO.row 1 (l.map (fun x => E.t (vi x)) ++ [E.t (vi (lo + (j : Int)))])].length = 4 := rfl
          rw [h4, hn]
          have hos : (os.map E.t).map (E.ren (lendR [0, 3] 4)) = os.map E.t := by rw [List.map_map]; rfl
          have hll : (l.map fun x => E.t (vi x)).map (E.ren (lendR [0, 3] 4)) = l.map fun x => E.t (vi x) := by rw [List.map_map]; rfl
          rw [hos, hll]
          exact hR
      have hgA := newsE_gc t a b k (l ++ [lo + (j : Int)]) 2 [0, 1] [.row 1 (os.map .t ++ newsE t a b k (l ++ [lo + (j : Int)]) 2), .row 1 (l.map fun x => .t (vi x)), .row 1 (l.map (fun x => .t (vi x)) ++ [.t (vi (lo + (j : Int)))]), .row 1 [.t (vi (lo + (j : Int)))]] rfl (by rw [hmapl]; rfl)
      have hgB := newsE_gc t a b k (l ++ [lo + (j : Int)]) 3 [0, 1] [.row 1 (os.map .t ++ newsE t a b k (l ++ [lo + (j : Int)]) 3), .row 1 (l.map fun x => .t (vi x)), .row 1 [.t (vi (lo + (j : Int)))], .row 1 (l.map (fun x => .t (vi x)) ++ [.t (vi (lo + (j : Int)))])] rfl (by rw [hmapl]; rfl)
      have hsucc : outs ++ (nw (j + 1)).map tL = os ++ (extL t a b k (l ++ [lo + (j : Int)])).map tL := by rw [hS, List.map_append, ← List.append_assoc, hosq]
      have nb1 : l.length ≤ 2 ^ 63 - 1 ∧ l.length * 8 ≤ 140737488355328 := by omega
      have nb2 : l.length + 1 ≤ 2 ^ 63 - 1 ∧ (l.length + 1) * 8 ≤ 140737488355328 := by omega
      refine AndL.mk ?_ ?_
      · simp only [go_sem, Nat.reduceEqDiff, Nat.reduceAdd]
        refine AndL.mk ?_ ?_
        · simp only [go_sem, Nat.reduceEqDiff, Nat.reduceAdd, Nat.reduceLT, List.length_map, maxLen]
          refine ⟨nb1, nb2, callA ?_⟩
          simp only [go_sem, Nat.reduceEqDiff, hw]
          refine ⟨hjN, _, Sub.gc [0, 1] [12, 11, 4, 5, 3, 1, 2] rfl rfl, ?_⟩
          rw [hsucc]
          refine St.gc_mk (by simp; exact ⟨rfl, rfl, rfl, rfl, rfl, rfl, rfl⟩) ?_ rfl rfl
          simp only [σgc, AO.gc, List.map_cons, List.map_nil, List.getD_cons_zero, List.getD_cons_succ, List.map_append, hgA, gc_row]
          simp only [List.map_map, gc_comp]; rfl
        · simp only [go_sem, Nat.reduceEqDiff, Nat.reduceAdd, Nat.reduceLT, List.length_map, maxLen]
          refine ⟨nb1, nb2, callA ?_⟩
          simp only [go_sem, Nat.reduceEqDiff, hw]
          refine ⟨hjN, _, Sub.gc [0, 1] [12, 11, 4, 5, 3, 1, 2] rfl rfl, ?_⟩
          rw [hsucc]
          refine St.gc_mk (by simp; exact ⟨rfl, rfl, rfl, rfl, rfl, rfl, rfl⟩) ?_ rfl rfl
          simp only [σgc, AO.gc, List.map_cons, List.map_nil, List.getD_cons_zero, List.getD_cons_succ, List.map_append, hgA, gc_row]
          simp only [List.map_map, gc_comp]; rfl
      · simp only [go_sem, Nat.reduceEqDiff, Nat.reduceAdd, Nat.reduceLT, List.length_map, maxLen]
        refine ⟨nb1, nb2, callB ?_⟩
        simp only [go_sem, Nat.reduceEqDiff, hw]
        refine ⟨hjN, _, Sub.gc [0, 1] [12, 11, 4, 5, 3, 1, 2] rfl rfl, ?_⟩
        rw [hsucc]
        refine St.gc_mk (by simp; exact ⟨rfl, rfl, rfl, rfl, rfl, rfl, rfl⟩) ?_ rfl rfl
        simp only [σgc, AO.gc, List.map_cons, List.map_nil, List.getD_cons_zero, List.getD_cons_succ, List.map_append, hgB, gc_row]
        simp only [List.map_map, gc_comp]; rfl
    · have hjN : j = (hi - lo + 1).toNat := by have : ¬ lo + (j : Int) ≤ hi := by simpa using h
                                               omega
      simp only [h, go_sem, Nat.reduceEqDiff, Nat.reduceAdd]
      have hfin : nj = extL t a b (k + 1) l := by rw [← nwN, ← hjN]; exact hnj.symm
      refine finL_ret [0, 1] ⟨rfl, rfl, rfl, rfl, _, rfl, ?_, ?_⟩
      · rw [hfin]; simp; rfl
      · rw [hfin]; simp only [newsE, σgc, AO.gc, List.map_cons, List.map_nil, List.getD_cons_zero, List.getD_cons_succ, List.map_append, List.map_map, gc_comp, gc_comp']; rfl
end Go.Proofs.YtcpkkjbkbdmopaaGreat
