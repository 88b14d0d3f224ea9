/- Proved here: laws that the statements need (RaC2, RaC3, RaO, RaP1, RaQ). No conditions but those that each law states. -/
import Derived.Test.YtcpkkjbkbdmopaaFL
import Derived.Test.YtcpkkjbkbdmopaaFP
import Derived.Test.YtcpkkjbkbdmopaaProg
import Derived.Test.YtcpkkjbkbdmopaaDE
import Derived.Test.YtcpkkjbkbdmopaaDD

set_option linter.unusedSimpArgs false
set_option linter.unusedVariables false

/- Compiled code of functions, printed by program; each is checked to be the program's. No conditions. -/
namespace Go.Proofs.Ytcpkkjbkbdmopaa
open Go Go.Ab
/-- dipworks/dipworksref11.Rail -/
def c12 : AC :=
 .seq (.reg [⟨(some 1), none, .box (.tmp 0)⟩,
 ⟨(some 2), none, .mov (.lit (.bool false))⟩])
 (.seq (.seq (.reg [⟨(some 6), none, .faddr 0 (.tmp 1)⟩,
 ⟨(some 7), none, .load true 3 (.tmp 6)⟩,
 ⟨(some 8), none, .call (.fn 19) [(.tmp 7)]⟩,
 ⟨(some 9), none, .un .not (.tmp 8)⟩,
 ⟨(some 10), none, .mov (.tmp 9)⟩,
 ⟨(some 11), (some (10, false)), .faddr 3 (.tmp 1)⟩,
 ⟨(some 12), (some (10, false)), .load false 1 (.tmp 11)⟩,
 ⟨(some 13), (some (10, false)), .call (.fn 43) [(.tmp 12), (.lit (.int .i64 0)), (.lit (.int .i64 60))]⟩,
 ⟨(some 14), (some (10, false)), .un .not (.tmp 13)⟩,
 ⟨(some 15), none, .pick (.tmp 10) (.lit (.bool true)) (.tmp 14)⟩,
 ⟨(some 16), none, .mov (.tmp 15)⟩,
 ⟨(some 17), (some (16, false)), .faddr 4 (.tmp 1)⟩,
 ⟨(some 18), (some (16, false)), .load false 1 (.tmp 17)⟩,
 ⟨(some 19), (some (16, false)), .call (.fn 43) [(.tmp 18), (.lit (.int .i64 1)), (.lit (.int .i64 12))]⟩,
 ⟨(some 20), (some (16, false)), .un .not (.tmp 19)⟩,
 ⟨(some 21), none, .pick (.tmp 16) (.lit (.bool true)) (.tmp 20)⟩,
 ⟨(some 22), none, .mov (.tmp 21)⟩,
 ⟨(some 23), (some (22, false)), .faddr 9 (.tmp 1)⟩,
 ⟨(some 24), (some (22, false)), .load false 1 (.tmp 23)⟩,
 ⟨(some 25), (some (22, false)), .call (.fn 43) [(.tmp 24), (.lit (.int .i64 0)), (.lit (.int .i64 20))]⟩,
 ⟨(some 26), (some (22, false)), .un .not (.tmp 25)⟩,
 ⟨(some 27), none, .pick (.tmp 22) (.lit (.bool true)) (.tmp 26)⟩,
 ⟨(some 28), none, .mov (.tmp 27)⟩,
 ⟨(some 29), (some (28, false)), .faddr 8 (.tmp 1)⟩,
 ⟨(some 30), (some (28, false)), .load false 1 (.tmp 29)⟩,
 ⟨(some 31), (some (28, false)), .len (.tmp 30)⟩,
 ⟨(some 32), (some (28, false)), .bin .gtr (.tmp 31) (.lit (.int .i64 4))⟩,
 ⟨(some 33), none, .pick (.tmp 28) (.lit (.bool true)) (.tmp 32)⟩])
 (.cond (.tmp 33) (.seq (.reg [⟨(some 2), none, .mov (.lit (.bool false))⟩])
 (.ret))
 (.skip)))
 (.seq (.reg [⟨(some 34), none, .faddr 4 (.tmp 1)⟩,
 ⟨(some 35), none, .load false 1 (.tmp 34)⟩,
 ⟨(some 36), none, .call (.fn 44) [(.tmp 35)]⟩,
 ⟨(some 37), none, .bin .sub (.tmp 36) (.lit (.int .i64 1))⟩,
 ⟨(some 3), none, .mov (.tmp 37)⟩])
 (.seq (.seq (.reg [⟨(some 38), none, .faddr 5 (.tmp 1)⟩,
 ⟨(some 39), none, .load false 1 (.tmp 38)⟩,
 ⟨(some 40), none, .mov (.tmp 3)⟩,
 ⟨(some 41), none, .call (.fn 43) [(.tmp 39), (.lit (.int .i64 0)), (.tmp 40)]⟩,
 ⟨(some 42), none, .un .not (.tmp 41)⟩,
 ⟨(some 43), none, .mov (.tmp 42)⟩,
 ⟨(some 44), (some (43, false)), .faddr 6 (.tmp 1)⟩,
 ⟨(some 45), (some (43, false)), .load false 1 (.tmp 44)⟩,
 ⟨(some 46), (some (43, false)), .mov (.tmp 3)⟩,
 ⟨(some 47), (some (43, false)), .call (.fn 43) [(.tmp 45), (.lit (.int .i64 0)), (.tmp 46)]⟩,
 ⟨(some 48), (some (43, false)), .un .not (.tmp 47)⟩,
 ⟨(some 49), none, .pick (.tmp 43) (.lit (.bool true)) (.tmp 48)⟩,
 ⟨(some 50), none, .mov (.tmp 49)⟩,
 ⟨(some 51), (some (50, false)), .faddr 7 (.tmp 1)⟩,
 ⟨(some 52), (some (50, false)), .load false 1 (.tmp 51)⟩,
 ⟨(some 53), (some (50, false)), .mov (.tmp 3)⟩,
 ⟨(some 54), (some (50, false)), .call (.fn 43) [(.tmp 52), (.lit (.int .i64 0)), (.tmp 53)]⟩,
 ⟨(some 55), (some (50, false)), .un .not (.tmp 54)⟩,
 ⟨(some 56), none, .pick (.tmp 50) (.lit (.bool true)) (.tmp 55)⟩])
 (.cond (.tmp 56) (.seq (.reg [⟨(some 2), none, .mov (.lit (.bool false))⟩])
 (.ret))
 (.skip)))
 (.seq (.seq (.reg [⟨(some 4), none, .mov (.lit (.int .i64 0))⟩])
 (.block 0 (.loop (.seq (.seq (.reg [⟨(some 57), none, .mov (.tmp 4)⟩,
 ⟨(some 58), none, .faddr 8 (.tmp 1)⟩,
 ⟨(some 59), none, .load false 1 (.tmp 58)⟩,
 ⟨(some 60), none, .len (.tmp 59)⟩,
 ⟨(some 61), none, .bin .lss (.tmp 57) (.tmp 60)⟩])
 (.cond (.tmp 61) (.skip)
 (.exit 0)))
 (.seq (.block 1 (.seq (.reg [⟨(some 64), none, .faddr 8 (.tmp 1)⟩,
 ⟨(some 65), none, .load false 1 (.tmp 64)⟩,
 ⟨(some 66), none, .mov (.tmp 4)⟩,
 ⟨(some 67), none, .iaddr 4 (.tmp 65) (.tmp 66)⟩,
 ⟨(some 68), none, .load true 4 (.tmp 67)⟩,
 ⟨(some 5), none, .alloc [(.int .i64 0), (.int .i64 0), (.int .i64 0), (.int .i64 0)]⟩,
 ⟨none, none, .store 4 (.tmp 5) (.tmp 68)⟩])
 (.seq (.reg [⟨(some 69), none, .faddr 0 (.tmp 5)⟩,
 ⟨(some 70), none, .load false 1 (.tmp 69)⟩,
 ⟨(some 71), none, .call (.fn 43) [(.tmp 70), (.lit (.int .i64 1)), (.lit (.int .i64 6))]⟩,
 ⟨(some 72), none, .un .not (.tmp 71)⟩,
 ⟨(some 73), none, .mov (.tmp 72)⟩,
 ⟨(some 74), (some (73, false)), .faddr 1 (.tmp 5)⟩,
 ⟨(some 75), (some (73, false)), .load false 1 (.tmp 74)⟩,
 ⟨(some 76), (some (73, false)), .faddr 4 (.tmp 1)⟩,
 ⟨(some 77), (some (73, false)), .load false 1 (.tmp 76)⟩,
 ⟨(some 78), (some (73, false)), .bin .sub (.tmp 77) (.lit (.int .i64 1))⟩,
 ⟨(some 79), (some (73, false)), .call (.fn 43) [(.tmp 75), (.lit (.int .i64 0)), (.tmp 78)]⟩,
 ⟨(some 80), (some (73, false)), .un .not (.tmp 79)⟩,
 ⟨(some 81), none, .pick (.tmp 73) (.lit (.bool true)) (.tmp 80)⟩,
 ⟨(some 82), none, .mov (.tmp 81)⟩,
 ⟨(some 83), (some (82, false)), .faddr 2 (.tmp 5)⟩,
 ⟨(some 84), (some (82, false)), .faddr 0 (.tmp 83)⟩,
 ⟨(some 85), (some (82, false)), .load false 1 (.tmp 84)⟩,
 ⟨(some 86), (some (82, false)), .bin .lss (.tmp 85) (.lit (.int .i64 1))⟩,
 ⟨(some 87), none, .pick (.tmp 82) (.lit (.bool true)) (.tmp 86)⟩,
 ⟨(some 88), none, .mov (.tmp 87)⟩,
 ⟨(some 89), (some (88, false)), .faddr 2 (.tmp 5)⟩,
 ⟨(some 90), (some (88, false)), .faddr 0 (.tmp 89)⟩,
 ⟨(some 91), (some (88, false)), .load false 1 (.tmp 90)⟩,
 ⟨(some 92), (some (88, false)), .faddr 2 (.tmp 5)⟩,
 ⟨(some 93), (some (88, false)), .faddr 1 (.tmp 92)⟩,
 ⟨(some 94), (some (88, false)), .load false 1 (.tmp 93)⟩,
 ⟨(some 95), (some (88, false)), .bin .gtr (.tmp 91) (.tmp 94)⟩,
 ⟨(some 96), none, .pick (.tmp 88) (.lit (.bool true)) (.tmp 95)⟩,
 ⟨(some 97), none, .mov (.tmp 96)⟩,
 ⟨(some 98), (some (97, false)), .faddr 2 (.tmp 5)⟩,
 ⟨(some 99), (some (97, false)), .faddr 1 (.tmp 98)⟩,
 ⟨(some 100), (some (97, false)), .load false 1 (.tmp 99)⟩,
 ⟨(some 101), (some (97, false)), .bin .gtr (.tmp 100) (.lit (.int .i64 8))⟩,
 ⟨(some 102), none, .pick (.tmp 97) (.lit (.bool true)) (.tmp 101)⟩])
 (.cond (.tmp 102) (.seq (.reg [⟨(some 2), none, .mov (.lit (.bool false))⟩])
 (.ret))
 (.skip)))))
 (.reg [⟨(some 62), none, .mov (.tmp 4)⟩,
 ⟨(some 63), none, .bin .add (.tmp 62) (.lit (.int .i64 1))⟩,
 ⟨(some 4), none, .mov (.tmp 63)⟩]))))))
 (.seq (.reg [⟨(some 2), none, .mov (.lit (.bool true))⟩])
 (.ret))))))
theorem k12 : FnC Try.prog 12 103 [] [] [.tmp 2] c12 1 := ⟨Try.f12, _, Try.func12, rfl, by decide, rfl, by decide, by kernel_rfl, by kernel_rfl⟩
/-- dipworks/dipworksref11.in -/
def c43 : AC :=
 .seq (.reg [⟨(some 6), none, .mov (.lit (.bool false))⟩])
 (.seq (.reg [⟨(some 7), none, .mov (.tmp 1)⟩,
 ⟨(some 8), none, .mov (.tmp 0)⟩,
 ⟨(some 9), none, .bin .leq (.tmp 7) (.tmp 8)⟩,
 ⟨(some 10), none, .mov (.tmp 9)⟩,
 ⟨(some 11), (some (10, true)), .mov (.tmp 0)⟩,
 ⟨(some 12), (some (10, true)), .mov (.tmp 2)⟩,
 ⟨(some 13), (some (10, true)), .bin .leq (.tmp 11) (.tmp 12)⟩,
 ⟨(some 14), none, .pick (.tmp 10) (.tmp 13) (.lit (.bool false))⟩,
 ⟨(some 6), none, .mov (.tmp 14)⟩])
 (.ret))
theorem k43 : FnC Try.prog 43 15 [] [] [.tmp 6] c43 3 := ⟨Try.f43, _, Try.func43, rfl, by decide, rfl, by decide, by kernel_rfl, by kernel_rfl⟩
/-- dipworks/dipworksref11.power -/
def c44 : AC :=
 .seq (.reg [⟨(some 2), none, .mov (.lit (.int .i64 0))⟩])
 (.seq (.reg [⟨(some 3), none, .mov (.lit (.int .i64 1))⟩])
 (.seq (.seq (.reg [⟨(some 4), none, .mov (.lit (.int .i64 0))⟩])
 (.block 0 (.loop (.seq (.seq (.reg [⟨(some 5), none, .mov (.tmp 4)⟩,
 ⟨(some 6), none, .mov (.tmp 0)⟩,
 ⟨(some 7), none, .bin .lss (.tmp 5) (.tmp 6)⟩])
 (.cond (.tmp 7) (.skip)
 (.exit 0)))
 (.seq (.block 1 (.reg [⟨(some 10), none, .mov (.tmp 3)⟩,
 ⟨(some 11), none, .bin .mul (.lit (.int .i64 2)) (.tmp 10)⟩,
 ⟨(some 3), none, .mov (.tmp 11)⟩]))
 (.reg [⟨(some 8), none, .mov (.tmp 4)⟩,
 ⟨(some 9), none, .bin .add (.tmp 8) (.lit (.int .i64 1))⟩,
 ⟨(some 4), none, .mov (.tmp 9)⟩]))))))
 (.seq (.reg [⟨(some 12), none, .mov (.tmp 3)⟩,
 ⟨(some 2), none, .mov (.tmp 12)⟩])
 (.ret))))
theorem k44 : FnC Try.prog 44 13 [] [] [.tmp 2] c44 1 := ⟨Try.f44, _, Try.func44, rfl, by decide, rfl, by decide, by kernel_rfl, by kernel_rfl⟩
end Go.Proofs.Ytcpkkjbkbdmopaa

/- Compiled code of functions, printed by program; each is checked to be the program's. No conditions. -/
namespace Go.Proofs.Ytcpkkjbkbdmopaa
open Go Go.Ab
/-- dipworks/dipworkslaw11.alive -/
def c24 : AC :=
 .seq (.reg [⟨(some 0), none, .mov (.lit (.bool false))⟩])
 (.seq (.reg [⟨(some 20), none, .call (.fn 31) []⟩,
 ⟨(some 21), none, .call (.fn 25) [(.tmp 20), (.lit (.int .i64 0))]⟩,
 ⟨(some 19), none, .mov (.tmp 21)⟩,
 ⟨(some 22), none, .ext (.tmp 19) 0⟩,
 ⟨(some 23), none, .ext (.tmp 19) 1⟩,
 ⟨(some 1), none, .alloc [(.int .i64 0), (.int .i64 0)]⟩,
 ⟨none, none, .store 2 (.tmp 1) (.tmp 22)⟩,
 ⟨(some 2), none, .mov (.tmp 23)⟩])
 (.seq (.reg [⟨(some 25), none, .call (.fn 31) []⟩,
 ⟨(some 26), none, .call (.fn 27) [(.tmp 25), (.lit (.int .i64 3))]⟩,
 ⟨(some 24), none, .mov (.tmp 26)⟩,
 ⟨(some 27), none, .ext (.tmp 24) 0⟩,
 ⟨(some 28), none, .ext (.tmp 24) 1⟩,
 ⟨(some 3), none, .alloc [(.int .i64 0), (.int .i64 0)]⟩,
 ⟨none, none, .store 2 (.tmp 3) (.tmp 27)⟩,
 ⟨(some 4), none, .mov (.tmp 28)⟩])
 (.seq (.reg [⟨(some 30), none, .call (.fn 31) []⟩,
 ⟨(some 31), none, .call (.fn 29) [(.tmp 30), (.lit (.int .i64 4)), (.lit (.int .i64 6))]⟩,
 ⟨(some 29), none, .mov (.tmp 31)⟩,
 ⟨(some 32), none, .ext (.tmp 29) 0⟩,
 ⟨(some 33), none, .ext (.tmp 29) 1⟩,
 ⟨(some 5), none, .mov (.tmp 32)⟩,
 ⟨(some 6), none, .mov (.tmp 33)⟩])
 (.seq (.reg [⟨(some 35), none, .call (.fn 31) []⟩,
 ⟨(some 36), none, .call (.fn 14) [(.tmp 35), (.lit (.int .i64 3))]⟩,
 ⟨(some 34), none, .mov (.tmp 36)⟩,
 ⟨(some 37), none, .ext (.tmp 34) 0⟩,
 ⟨(some 38), none, .ext (.tmp 34) 1⟩,
 ⟨(some 7), none, .alloc [(.int .i64 0), (.int .i64 0)]⟩,
 ⟨none, none, .store 2 (.tmp 7) (.tmp 37)⟩,
 ⟨(some 8), none, .mov (.tmp 38)⟩])
 (.seq (.reg [⟨(some 40), none, .call (.fn 31) []⟩,
 ⟨(some 41), none, .call (.fn 32) [(.tmp 40), (.lit (.int .i64 3)), (.lit (.int .i64 10))]⟩,
 ⟨(some 39), none, .mov (.tmp 41)⟩,
 ⟨(some 42), none, .ext (.tmp 39) 0⟩,
 ⟨(some 43), none, .ext (.tmp 39) 1⟩,
 ⟨(some 9), none, .mov (.tmp 42)⟩,
 ⟨(some 10), none, .mov (.tmp 43)⟩])
 (.seq (.reg [⟨(some 45), none, .call (.fn 31) []⟩,
 ⟨(some 46), none, .call (.fn 33) [(.tmp 45), (.lit (.int .i64 16))]⟩,
 ⟨(some 44), none, .mov (.tmp 46)⟩,
 ⟨(some 47), none, .ext (.tmp 44) 0⟩,
 ⟨(some 48), none, .ext (.tmp 44) 1⟩,
 ⟨(some 11), none, .mov (.tmp 47)⟩,
 ⟨(some 12), none, .mov (.tmp 48)⟩])
 (.seq (.reg [⟨(some 50), none, .call (.fn 31) []⟩,
 ⟨(some 51), none, .call (.fn 34) [(.tmp 50), (.lit (.int .i64 3)), (.lit (.int .i64 10))]⟩,
 ⟨(some 49), none, .mov (.tmp 51)⟩,
 ⟨(some 52), none, .ext (.tmp 49) 0⟩,
 ⟨(some 53), none, .ext (.tmp 49) 1⟩,
 ⟨(some 13), none, .mov (.tmp 52)⟩,
 ⟨(some 14), none, .mov (.tmp 53)⟩])
 (.seq (.reg [⟨(some 55), none, .call (.fn 31) []⟩,
 ⟨(some 56), none, .call (.fn 20) [(.tmp 55), (.lit (.int .i64 1))]⟩,
 ⟨(some 54), none, .mov (.tmp 56)⟩,
 ⟨(some 57), none, .ext (.tmp 54) 0⟩,
 ⟨(some 58), none, .ext (.tmp 54) 1⟩,
 ⟨(some 15), none, .alloc [(.int .i64 0), (.int .i64 0)]⟩,
 ⟨none, none, .store 2 (.tmp 15) (.tmp 57)⟩,
 ⟨(some 16), none, .mov (.tmp 58)⟩])
 (.seq (.reg [⟨(some 60), none, .call (.fn 31) []⟩,
 ⟨(some 61), none, .call (.fn 32) [(.tmp 60), (.lit (.int .i64 3)), (.lit (.int .i64 7))]⟩,
 ⟨(some 59), none, .mov (.tmp 61)⟩,
 ⟨(some 62), none, .ext (.tmp 59) 0⟩,
 ⟨(some 63), none, .ext (.tmp 59) 1⟩,
 ⟨(some 17), none, .mov (.tmp 62)⟩,
 ⟨(some 18), none, .mov (.tmp 63)⟩])
 (.seq (.draw (.step ⟨(some 64), none, .load true 2 (.tmp 1)⟩ (
 .ev ⟨(some 65), none, .call (.fn 36) [(.lit (.int .i64 3)), (.lit (.int .i64 4))]⟩ [⟨(some 64), none, .load true 2 (.tmp 1)⟩] (
 .step ⟨(some 66), none, .eqs false [(some .i64), (some .i64)] (.tmp 64) (.tmp 65)⟩ (
 .step ⟨(some 67), none, .mov (.tmp 66)⟩ (
 .step ⟨(some 68), (some (67, true)), .mov (.tmp 2)⟩ (
 .step ⟨(some 69), (some (67, true)), .bin .eql (.tmp 68) (.lit (.int .i64 0))⟩ (
 .step ⟨(some 70), none, .pick (.tmp 67) (.tmp 69) (.lit (.bool false))⟩ (
 .step ⟨(some 71), none, .mov (.tmp 70)⟩ (
 .step ⟨(some 72), (some (71, true)), .load true 2 (.tmp 3)⟩ (
 .ev ⟨(some 73), (some (71, true)), .call (.fn 36) [(.lit (.int .i64 4)), (.lit (.int .i64 9))]⟩ [⟨(some 72), (some (71, true)), .load true 2 (.tmp 3)⟩, ⟨(some 66), none, .eqs false [(some .i64), (some .i64)] (.tmp 64) (.tmp 65)⟩, ⟨(some 64), none, .load true 2 (.tmp 1)⟩] (
 .step ⟨(some 74), (some (71, true)), .eqs false [(some .i64), (some .i64)] (.tmp 72) (.tmp 73)⟩ (
 .step ⟨(some 75), none, .pick (.tmp 71) (.tmp 74) (.lit (.bool false))⟩ (
 .step ⟨(some 76), none, .mov (.tmp 75)⟩ (
 .step ⟨(some 77), (some (76, true)), .mov (.tmp 4)⟩ (
 .step ⟨(some 78), (some (76, true)), .bin .eql (.tmp 77) (.lit (.int .i64 0))⟩ (
 .step ⟨(some 79), none, .pick (.tmp 76) (.tmp 78) (.lit (.bool false))⟩ (
 .step ⟨(some 80), none, .mov (.tmp 79)⟩ (
 .step ⟨(some 81), (some (80, true)), .mov (.tmp 5)⟩ (
 .step ⟨(some 82), (some (80, true)), .bin .eql (.tmp 81) (.lit (.int .i64 2))⟩ (
 .step ⟨(some 83), none, .pick (.tmp 80) (.tmp 82) (.lit (.bool false))⟩ (
 .step ⟨(some 84), none, .mov (.tmp 83)⟩ (
 .step ⟨(some 85), (some (84, true)), .mov (.tmp 6)⟩ (
 .step ⟨(some 86), (some (84, true)), .bin .eql (.tmp 85) (.lit (.int .i64 0))⟩ (
 .step ⟨(some 87), none, .pick (.tmp 84) (.tmp 86) (.lit (.bool false))⟩ (
 .step ⟨(some 88), none, .mov (.tmp 87)⟩ (
 .step ⟨(some 89), (some (88, true)), .load true 2 (.tmp 7)⟩ (
 .ev ⟨(some 90), (some (88, true)), .call (.fn 36) [(.lit (.int .i64 7)), (.lit (.int .i64 13))]⟩ [⟨(some 89), (some (88, true)), .load true 2 (.tmp 7)⟩, ⟨(some 74), (some (71, true)), .eqs false [(some .i64), (some .i64)] (.tmp 72) (.tmp 73)⟩, ⟨(some 72), (some (71, true)), .load true 2 (.tmp 3)⟩, ⟨(some 66), none, .eqs false [(some .i64), (some .i64)] (.tmp 64) (.tmp 65)⟩, ⟨(some 64), none, .load true 2 (.tmp 1)⟩] (
 .step ⟨(some 91), (some (88, true)), .eqs false [(some .i64), (some .i64)] (.tmp 89) (.tmp 90)⟩ (
 .step ⟨(some 92), none, .pick (.tmp 88) (.tmp 91) (.lit (.bool false))⟩ (
 .step ⟨(some 93), none, .mov (.tmp 92)⟩ (
 .step ⟨(some 94), (some (93, true)), .mov (.tmp 8)⟩ (
 .step ⟨(some 95), (some (93, true)), .bin .eql (.tmp 94) (.lit (.int .i64 0))⟩ (
 .step ⟨(some 96), none, .pick (.tmp 93) (.tmp 95) (.lit (.bool false))⟩ (
 .step ⟨(some 97), none, .mov (.tmp 96)⟩ (
 .step ⟨(some 98), (some (97, true)), .mov (.tmp 9)⟩ (
 .step ⟨(some 99), (some (97, true)), .bin .eql (.tmp 98) (.lit (.int .i64 1))⟩ (
 .step ⟨(some 100), none, .pick (.tmp 97) (.tmp 99) (.lit (.bool false))⟩ (
 .step ⟨(some 101), none, .mov (.tmp 100)⟩ (
 .step ⟨(some 102), (some (101, true)), .mov (.tmp 10)⟩ (
 .step ⟨(some 103), (some (101, true)), .bin .eql (.tmp 102) (.lit (.int .i64 0))⟩ (
 .step ⟨(some 104), none, .pick (.tmp 101) (.tmp 103) (.lit (.bool false))⟩ (
 .step ⟨(some 105), none, .mov (.tmp 104)⟩ (
 .step ⟨(some 106), (some (105, true)), .mov (.tmp 11)⟩ (
 .step ⟨(some 107), (some (105, true)), .bin .eql (.tmp 106) (.lit (.int .i64 4))⟩ (
 .step ⟨(some 108), none, .pick (.tmp 105) (.tmp 107) (.lit (.bool false))⟩ (
 .step ⟨(some 109), none, .mov (.tmp 108)⟩ (
 .step ⟨(some 110), (some (109, true)), .mov (.tmp 12)⟩ (
 .step ⟨(some 111), (some (109, true)), .bin .eql (.tmp 110) (.lit (.int .i64 0))⟩ (
 .step ⟨(some 112), none, .pick (.tmp 109) (.tmp 111) (.lit (.bool false))⟩ (
 .step ⟨(some 113), none, .mov (.tmp 112)⟩ (
 .step ⟨(some 114), (some (113, true)), .mov (.tmp 13)⟩ (
 .step ⟨(some 115), (some (113, true)), .bin .eql (.tmp 114) (.lit (.int .i64 3))⟩ (
 .step ⟨(some 116), none, .pick (.tmp 113) (.tmp 115) (.lit (.bool false))⟩ (
 .step ⟨(some 117), none, .mov (.tmp 116)⟩ (
 .step ⟨(some 118), (some (117, true)), .mov (.tmp 14)⟩ (
 .step ⟨(some 119), (some (117, true)), .bin .eql (.tmp 118) (.lit (.int .i64 0))⟩ (
 .step ⟨(some 120), none, .pick (.tmp 117) (.tmp 119) (.lit (.bool false))⟩ (
 .step ⟨(some 121), none, .mov (.tmp 120)⟩ (
 .step ⟨(some 122), (some (121, true)), .load true 2 (.tmp 15)⟩ (
 .ev ⟨(some 123), (some (121, true)), .call (.fn 36) [(.lit (.int .i64 6)), (.lit (.int .i64 12))]⟩ [⟨(some 122), (some (121, true)), .load true 2 (.tmp 15)⟩, ⟨(some 91), (some (88, true)), .eqs false [(some .i64), (some .i64)] (.tmp 89) (.tmp 90)⟩, ⟨(some 89), (some (88, true)), .load true 2 (.tmp 7)⟩, ⟨(some 74), (some (71, true)), .eqs false [(some .i64), (some .i64)] (.tmp 72) (.tmp 73)⟩, ⟨(some 72), (some (71, true)), .load true 2 (.tmp 3)⟩, ⟨(some 66), none, .eqs false [(some .i64), (some .i64)] (.tmp 64) (.tmp 65)⟩, ⟨(some 64), none, .load true 2 (.tmp 1)⟩] (
 .step ⟨(some 124), (some (121, true)), .eqs false [(some .i64), (some .i64)] (.tmp 122) (.tmp 123)⟩ (
 .step ⟨(some 125), none, .pick (.tmp 121) (.tmp 124) (.lit (.bool false))⟩ (
 .step ⟨(some 126), none, .mov (.tmp 125)⟩ (
 .step ⟨(some 127), (some (126, true)), .mov (.tmp 16)⟩ (
 .step ⟨(some 128), (some (126, true)), .bin .eql (.tmp 127) (.lit (.int .i64 0))⟩ (
 .step ⟨(some 129), none, .pick (.tmp 126) (.tmp 128) (.lit (.bool false))⟩ (
 .step ⟨(some 130), none, .mov (.tmp 129)⟩ (
 .step ⟨(some 131), (some (130, true)), .mov (.tmp 17)⟩ (
 .step ⟨(some 132), (some (130, true)), .bin .eql (.tmp 131) (.lit (.int .i64 2))⟩ (
 .step ⟨(some 133), none, .pick (.tmp 130) (.tmp 132) (.lit (.bool false))⟩ (
 .step ⟨(some 134), none, .mov (.tmp 133)⟩ (
 .step ⟨(some 135), (some (134, true)), .mov (.tmp 18)⟩ (
 .step ⟨(some 136), (some (134, true)), .bin .eql (.tmp 135) (.lit (.int .i64 0))⟩ (
 .step ⟨(some 137), none, .pick (.tmp 134) (.tmp 136) (.lit (.bool false))⟩ (
 .step ⟨(some 0), none, .mov (.tmp 137)⟩ (
 .done))))))))))))))))
 (.stop))))))))))))))))))))))))))))))))))
 (.stop))))))))))))))))))
 (.stop)))))))))
 (.stop))))
 (.ret)))))))))))
theorem k24 : FnC Try.prog 24 138 [] [] [.tmp 0] c24 0 := ⟨Try.f24, _, Try.func24, rfl, by decide, rfl, by decide, by kernel_rfl, by kernel_rfl⟩
/-- dipworks/dipworkslaw11.whole -/
def c31 : AC :=
 .seq (.reg [⟨(some 0), none, .alloc [(.slice none 0 0), (.slice none 0 0), (.slice none 0 0), (.int .i64 0), (.int .i64 0), (.int .i64 0), (.int .i64 0), (.int .i64 0), (.slice none 0 0), (.int .i64 0)]⟩])
 (.seq (.reg [⟨(some 1), none, .call (.fn 36) [(.lit (.int .i64 2)), (.lit (.int .i64 3))]⟩,
 ⟨(some 2), none, .call (.fn 35) [(.tmp 1)]⟩,
 ⟨none, none, .store 10 (.tmp 0) (.tmp 2)⟩])
 (.ret))
theorem k31 : FnC Try.prog 31 3 [0] [] [.cell 0 true 10] c31 0 := ⟨Try.f31, _, Try.func31, rfl, by decide, rfl, by decide, by kernel_rfl, by kernel_rfl⟩
/-- dipworks/dipworkslaw11.sample -/
def c35 : AC :=
 .seq (.reg [⟨(some 1), none, .box (.tmp 0)⟩,
 ⟨(some 2), none, .alloc [(.slice none 0 0), (.slice none 0 0), (.slice none 0 0), (.int .i64 0), (.int .i64 0), (.int .i64 0), (.int .i64 0), (.int .i64 0), (.slice none 0 0), (.int .i64 0)]⟩])
 (.seq (.drawI [⟨(some 4), none, .call (.fn 36) [(.lit (.int .i64 2)), (.lit (.int .i64 2))]⟩,
 ⟨(some 5), none, .call (.fn 36) [(.lit (.int .i64 1)), (.lit (.int .i64 2))]⟩,
 ⟨(some 6), none, .build [(.int .i64 0), (.int .i64 0), (.int .i64 0), (.int .i64 0), (.int .i64 0), (.int .i64 0)] [(2, 2, (.tmp 4)), (4, 2, (.tmp 5))]⟩,
 ⟨(some 7), none, .call (.fn 36) [(.lit (.int .i64 2)), (.lit (.int .i64 3))]⟩,
 ⟨(some 8), none, .call (.fn 36) [(.lit (.int .i64 1)), (.lit (.int .i64 1))]⟩,
 ⟨(some 9), none, .build [(.int .i64 0), (.int .i64 0), (.int .i64 0), (.int .i64 0), (.int .i64 0), (.int .i64 0)] [(1, 1, (.lit (.int .i64 1))), (2, 2, (.tmp 7)), (4, 2, (.tmp 8))]⟩,
 ⟨(some 10), none, .call (.fn 36) [(.lit (.int .i64 1)), (.lit (.int .i64 1))]⟩,
 ⟨(some 11), none, .call (.fn 36) [(.lit (.int .i64 0)), (.lit (.int .i64 1))]⟩,
 ⟨(some 12), none, .build [(.int .i64 0), (.int .i64 0), (.int .i64 0), (.int .i64 0), (.int .i64 0), (.int .i64 0)] [(0, 1, (.lit (.int .i64 1))), (2, 2, (.tmp 10)), (4, 2, (.tmp 11))]⟩,
 ⟨(some 13), none, .call (.fn 36) [(.lit (.int .i64 3)), (.lit (.int .i64 3))]⟩,
 ⟨(some 14), none, .call (.fn 36) [(.lit (.int .i64 0)), (.lit (.int .i64 3))]⟩,
 ⟨(some 15), none, .build [(.int .i64 0), (.int .i64 0), (.int .i64 0), (.int .i64 0), (.int .i64 0), (.int .i64 0)] [(0, 1, (.lit (.int .i64 1))), (1, 1, (.lit (.int .i64 1))), (2, 2, (.tmp 13)), (4, 2, (.tmp 14))]⟩,
 ⟨(some 16), none, .bslice 6 (.agg #[(.int .i64 0), (.int .i64 0), (.int .i64 0), (.int .i64 0), (.int .i64 0), (.int .i64 0)]) 4 [(0, (.tmp 6)), (1, (.tmp 9)), (2, (.tmp 12)), (3, (.tmp 15))]⟩,
 ⟨(some 17), none, .call (.fn 36) [(.lit (.int .i64 2)), (.lit (.int .i64 2))]⟩,
 ⟨(some 18), none, .call (.fn 36) [(.lit (.int .i64 1)), (.lit (.int .i64 2))]⟩,
 ⟨(some 19), none, .bslice 2 (.agg #[(.int .i64 0), (.int .i64 0)]) 2 [(0, (.tmp 17)), (1, (.tmp 18))]⟩,
 ⟨(some 20), none, .call (.fn 36) [(.lit (.int .i64 1)), (.lit (.int .i64 1))]⟩,
 ⟨(some 21), none, .load true 2 (.tmp 1)⟩,
 ⟨(some 22), none, .bslice 2 (.agg #[(.int .i64 0), (.int .i64 0)]) 2 [(0, (.tmp 20)), (1, (.tmp 21))]⟩,
 ⟨(some 23), none, .build [(.slice none 0 0), (.slice none 0 0), (.slice none 0 0)] [(0, 1, (.tmp 16)), (1, 1, (.tmp 19)), (2, 1, (.tmp 22))]⟩,
 ⟨(some 3), none, .alloc [(.slice none 0 0), (.slice none 0 0), (.slice none 0 0)]⟩,
 ⟨none, none, .store 3 (.tmp 3) (.tmp 23)⟩] [[], [0], [0, 1], [1], [3], [3, 4], [4], [6], [6, 7], [7], [9], [9, 10], [2, 5, 8, 11], [10], [13], [13, 14], [14], [], [16, 17], [12, 15, 18], [], [20, 19, 16, 0, 1, 2, 3, 4, 5, 6, 7, 8, 9, 10, 11, 12, 13, 14, 15, 16, 17, 18, 19, 20]])
 (.seq (.draw (.step ⟨(some 24), none, .load true 3 (.tmp 3)⟩ (
 .ev ⟨(some 25), none, .call (.fn 41) [(.lit (.int .i64 5)), (.lit (.int .i64 0)), (.lit (.int .i64 3)), (.lit (.int .i64 4))]⟩ [⟨(some 24), none, .load true 3 (.tmp 3)⟩] (
 .ev ⟨(some 26), none, .call (.fn 41) [(.lit (.int .i64 4)), (.lit (.int .i64 3)), (.lit (.int .i64 2)), (.lit (.int .i64 2))]⟩ [⟨(some 24), none, .load true 3 (.tmp 3)⟩] (
 .ev ⟨(some 27), none, .bslice 4 (.agg #[(.int .i64 0), (.int .i64 0), (.int .i64 0), (.int .i64 0)]) 2 [(0, (.tmp 25)), (1, (.tmp 26))]⟩ [⟨(some 24), none, .load true 3 (.tmp 3)⟩] (
 .step ⟨(some 28), none, .build [(.slice none 0 0), (.slice none 0 0), (.slice none 0 0), (.int .i64 0), (.int .i64 0), (.int .i64 0), (.int .i64 0), (.int .i64 0), (.slice none 0 0), (.int .i64 0)] [(0, 3, (.tmp 24)), (3, 1, (.lit (.int .i64 20))), (4, 1, (.lit (.int .i64 8))), (5, 1, (.lit (.int .i64 12))), (6, 1, (.lit (.int .i64 16))), (7, 1, (.lit (.int .i64 2))), (8, 1, (.tmp 27)), (9, 1, (.lit (.int .i64 6)))]⟩ (
 .ev ⟨none, none, .store 10 (.tmp 2) (.tmp 28)⟩ [] (
 .done)
 (.stop)))
 (.stop))
 (.stop))
 (.stop))))
 (.ret)))
theorem k35 : FnC Try.prog 35 29 [2] [2000001] [.cell 2 true 10] c35 1 := ⟨Try.f35, _, Try.func35, rfl, by decide, rfl, by decide, by kernel_rfl, by kernel_rfl⟩
/-- dipworks/dipworkslaw11.span -/
def c36 : AC :=
 .seq (.reg [⟨(some 4), none, .alloc [(.int .i64 0), (.int .i64 0)]⟩])
 (.seq (.reg [⟨(some 5), none, .mov (.tmp 0)⟩,
 ⟨(some 6), none, .mov (.tmp 1)⟩,
 ⟨(some 7), none, .build [(.int .i64 0), (.int .i64 0)] [(0, 1, (.tmp 5)), (1, 1, (.tmp 6))]⟩,
 ⟨none, none, .store 2 (.tmp 4) (.tmp 7)⟩])
 (.ret))
theorem k36 : FnC Try.prog 36 8 [4] [] [.cell 4 true 2] c36 2 := ⟨Try.f36, _, Try.func36, rfl, by decide, rfl, by decide, by kernel_rfl, by kernel_rfl⟩
/-- dipworks/dipworkslaw11.long -/
def c37 : AC :=
 .seq (.reg [⟨(some 1), none, .box (.tmp 0)⟩,
 ⟨(some 2), none, .mov (.lit (.bool false))⟩])
 (.seq (.reg [⟨(some 3), none, .faddr 8 (.tmp 1)⟩,
 ⟨(some 4), none, .load false 1 (.tmp 3)⟩,
 ⟨(some 5), none, .len (.tmp 4)⟩,
 ⟨(some 6), none, .faddr 0 (.tmp 1)⟩,
 ⟨(some 7), none, .faddr 0 (.tmp 6)⟩,
 ⟨(some 8), none, .load false 1 (.tmp 7)⟩,
 ⟨(some 9), none, .len (.tmp 8)⟩,
 ⟨(some 10), none, .faddr 0 (.tmp 1)⟩,
 ⟨(some 11), none, .faddr 1 (.tmp 10)⟩,
 ⟨(some 12), none, .load false 1 (.tmp 11)⟩,
 ⟨(some 13), none, .len (.tmp 12)⟩,
 ⟨(some 14), none, .faddr 0 (.tmp 1)⟩,
 ⟨(some 15), none, .faddr 2 (.tmp 14)⟩,
 ⟨(some 16), none, .load false 1 (.tmp 15)⟩,
 ⟨(some 17), none, .len (.tmp 16)⟩,
 ⟨(some 18), none, .mxmn true (.tmp 5) [(.tmp 9), (.tmp 13), (.tmp 17)]⟩,
 ⟨(some 19), none, .bin .gtr (.tmp 18) (.lit (.int .i64 40))⟩,
 ⟨(some 2), none, .mov (.tmp 19)⟩])
 (.ret))
theorem k37 : FnC Try.prog 37 20 [] [] [.tmp 2] c37 1 := ⟨Try.f37, _, Try.func37, rfl, by decide, rfl, by decide, by kernel_rfl, by kernel_rfl⟩
/-- dipworks/dipworkslaw11.line -/
def c41 : AC :=
 .seq (.reg [⟨(some 8), none, .alloc [(.int .i64 0), (.int .i64 0), (.int .i64 0), (.int .i64 0)]⟩])
 (.seq (.reg [⟨(some 9), none, .mov (.tmp 0)⟩,
 ⟨(some 10), none, .mov (.tmp 1)⟩,
 ⟨(some 11), none, .mov (.tmp 2)⟩,
 ⟨(some 12), none, .mov (.tmp 3)⟩,
 ⟨(some 13), none, .call (.fn 36) [(.tmp 11), (.tmp 12)]⟩,
 ⟨(some 14), none, .build [(.int .i64 0), (.int .i64 0), (.int .i64 0), (.int .i64 0)] [(0, 1, (.tmp 9)), (1, 1, (.tmp 10)), (2, 2, (.tmp 13))]⟩,
 ⟨none, none, .store 4 (.tmp 8) (.tmp 14)⟩])
 (.ret))
theorem k41 : FnC Try.prog 41 15 [8] [] [.cell 8 true 4] c41 4 := ⟨Try.f41, _, Try.func41, rfl, by decide, rfl, by decide, by kernel_rfl, by kernel_rfl⟩
end Go.Proofs.Ytcpkkjbkbdmopaa

/- The document: is a rail valid? The small functions of the laws. -/
namespace Go.Proofs.Ytcpkkjbkbdmopaa
open Go Go.Ab

theorem qin_ok (n lo hi : Int) : ACall Try.prog 43 [.t (vi n), .t (vi lo), .t (vi hi)] [] (ret (vb (wI n lo hi))) := by
  refine ACall.walk k43 ?_
  unfold c43
  simp only [go_sem, Nat.reduceEqDiff, Nat.reduceAdd]
  refine BrL.mk (fun h => ?_) (fun h => ?_)
  all_goals simp only [h, go_sem, Nat.reduceEqDiff]
  all_goals refine finL_ret [] ⟨rfl, rfl, rfl, rfl, _, rfl, ret_mk ?_⟩
  all_goals simp at h
  all_goals simp [wI, h]
  omega

theorem pow_bd {n : Nat} (h : n ≤ 60) : (2 : Nat) ^ n ≤ 1152921504606846976 := Nat.le_trans (Nat.pow_le_pow_right (by decide) h) (by decide)
theorem qpower_ok (n : Nat) (hn : n ≤ 60) : ACall Try.prog 44 [.t (vi n)] [] (ret (vi ((2 ^ n : Nat) : Int))) := by
  refine ACall.walk k44 ?_
  unfold c44
  simp only [go_sem]
  refine awpL_loopK n (fun i s' => s' = { env := [(4, .t (vi i)), (3, .t (vi (2 ^ i : Nat))), (0, .t (vi n))], σ := [] }) ⟨_, Sub.gc [] [4, 3, 0] rfl rfl, rfl⟩ ?_
  rintro i s' hi rfl
  have hb := pow_bd (n := i) (by omega)
  cases g : decide ((i : Int) < (n : Int))
  · have : i = n := by have := of_decide_eq_false g; omega
    subst this
    simp only [go_sem, Nat.reduceEqDiff, g]
    exact finL_ret [] ⟨rfl, rfl, rfl, rfl, _, rfl, ret_mk rfl⟩
  have hil : i < n := by have := of_decide_eq_true g; omega
  have hb2 := pow_bd (n := i + 1) (by omega)
  have hw : IntKind.i64.wrap ((i : Int) + 1) = ((i + 1 : Nat) : Int) := by rw [wrap_id (by omega) (by omega)]; omega
  have hw2 : IntKind.i64.wrap (2 * ((2 ^ i : Nat) : Int)) = ((2 ^ (i + 1) : Nat) : Int) := by
    have e : (2 : Nat) ^ (i + 1) = 2 * 2 ^ i := by rw [Nat.pow_succ]; omega
    rw [e, wrap_id (by omega) (by omega)]; omega
  simp only [go_sem, Nat.reduceEqDiff, g, hw, hw2]
  exact ⟨hil, _, Sub.gc [] [4, 3, 0] rfl rfl, rfl⟩

theorem span_ok (a b : Int) : ACall Try.prog 36 [.t (vi a), .t (vi b)] [] (ret (tS (a, b))) := by
  refine ACall.walk k36 ?_
  unfold c36
  simp only [go_sem, Nat.reduceEqDiff, Nat.reduceAdd, Nat.reduceLeDiff, undef]
  exact finL_ret [] ⟨rfl, rfl, rfl, rfl, _, rfl, ret_mk rfl⟩
theorem line_ok (a b c d : Int) : ACall Try.prog 41 [.t (vi a), .t (vi b), .t (vi c), .t (vi d)] [] (ret (tLn ⟨a, b, c, d⟩)) := by
  have h := span_ok c d
  refine ACall.walk k41 ?_
  unfold c41
  simp only [go_sem, Nat.reduceEqDiff, Nat.reduceAdd]
  refine ACallL.fresh1 h rfl ?_
  simp only [tS, go_sem, Nat.reduceEqDiff, Nat.reduceAdd, Nat.reduceLeDiff, undef]
  exact finL_ret [] ⟨rfl, rfl, rfl, rfl, _, rfl, ret_mk rfl⟩

/-- Far too much of something. -/
def Ra.long (r : Ra) : Bool := decide (max (max (max (r.lines.length : Int) r.tw.bs.length) r.tw.hs.length) r.tw.vs.length > 40)
theorem long_ok (r : Ra) : ACall Try.prog 37 [.t (tRa r)] [] (ret (vb r.long)) := by
  refine ACall.walk k37 ?_
  unfold c37 tRa tw3 ra7
  simp only [go_sem, Nat.reduceEqDiff, Nat.reduceAdd, Nat.reduceLeDiff, List.length_map]
  exact finL_ret [] ⟨rfl, rfl, rfl, rfl, _, rfl, ret_mk rfl⟩

set_option maxRecDepth 8000 in
set_option maxHeartbeats 8000000 in
theorem rrail_ok (r : Ra) (hL2 : r.lines.length < 9223372036854775808) : ACall Try.prog 12 [.t (tRa r)] [] (ret (vb r.ok)) := by
  refine ACall.walk k12 ?_
  have fail : ∀ {s : St}, r.ok = false → lk s.env 2 = .t (vb false) → s.df = [] → s.k = 0 → @finL 0 0 ⟨[.tmp 2]⟩ ⟨ret (vb r.ok)⟩ .ret s := fun {s} h h0 h1 h2 => by
    obtain ⟨env, σ, df, k⟩ := s
    simp only at h0 h1 h2
    subst h1 h2
    exact finL_ret [] ⟨rfl, rfl, rfl, rfl, .t (vb false), by simp only [resV, resEs, h0], ret_mk (by rw [h])⟩
  have htw := rtowels_ok r.tw
  have hf1 : ok1 r = false → r.ok = false := fun h => by unfold Ra.ok; rw [h]; rfl
  have hf2 : ok2 r = false → r.ok = false := fun h => by unfold Ra.ok; rw [h]; simp
  have hf3 : ∀ l ∈ r.lines, okLn r.hours l = false → r.ok = false := fun l hl h => by
    unfold Ra.ok
    have : r.lines.all (okLn r.hours) = false := List.all_eq_false.2 ⟨l, hl, by rw [h]; simp⟩
    rw [this]; simp
  unfold c12
  refine awpL_chop 2 (c1 := ?a1) (c2 := ?a2) (fun st => ok1 r = true ∧ lk st.env 1 = .ptr 0 0 ∧ lk st.env 2 = .t (vb false) ∧ st.σ = [.cells ((tw3 r.tw ++ ra7 r).map .t)] ∧ st.df = [] ∧ st.k = 0) ?hc ?_ ?_
  case hc => simp only [chop]; rfl
  · have ho1 : ok1 r = (r.tw.ok && wI r.stock 0 60 && wI r.hours 1 12 && wI r.price 0 20 && decide (r.lines.length ≤ 4)) := rfl
    generalize ok1 r = O1 at *
    unfold tRa
    unfold tw3 at htw
    unfold tw3 ra7
    have w1 := qin_ok r.stock 0 60
    have w2 := qin_ok r.hours 1 12
    have w3 := qin_ok r.price 0 20
    have hdec : decide ((r.lines.length : Int) > 4) = !decide (r.lines.length ≤ 4) := by rw [← decide_not]; apply decide_eq_decide.2; omega
    simp only [go_sem, Nat.reduceEqDiff, Nat.reduceAdd, Nat.reduceLeDiff]
    refine ACallL.quiet1 htw rfl rfl rfl ?_
    cases k1 : r.tw.ok
    · simp only [go_sem, Nat.reduceEqDiff, Bool.not_true, Bool.not_false, undef]
      exact fail (hf1 (by rw [ho1, k1]; rfl)) rfl rfl rfl
    simp only [go_sem, Nat.reduceEqDiff, Nat.reduceAdd, Nat.reduceLeDiff, Bool.not_true, beq_self_eq_true]
    refine ACallL.quiet1 w1 rfl rfl rfl ?_
    cases k2 : wI r.stock 0 60
    · simp only [go_sem, Nat.reduceEqDiff, Bool.not_true, Bool.not_false, undef, beq_self_eq_true]
      exact fail (hf1 (by rw [ho1, k1, k2]; rfl)) rfl rfl rfl
    simp only [go_sem, Nat.reduceEqDiff, Nat.reduceAdd, Nat.reduceLeDiff, Bool.not_true, beq_self_eq_true]
    refine ACallL.quiet1 w2 rfl rfl rfl ?_
    cases k3 : wI r.hours 1 12
    · simp only [go_sem, Nat.reduceEqDiff, Bool.not_true, Bool.not_false, undef, beq_self_eq_true]
      exact fail (hf1 (by rw [ho1, k1, k2, k3]; rfl)) rfl rfl rfl
    simp only [go_sem, Nat.reduceEqDiff, Nat.reduceAdd, Bool.not_true, beq_self_eq_true]
    refine ACallL.quiet1 w3 rfl rfl rfl ?_
    cases k4 : wI r.price 0 20
    · simp only [go_sem, Nat.reduceEqDiff, Bool.not_true, Bool.not_false, undef, beq_self_eq_true]
      exact fail (hf1 (by rw [ho1, k1, k2, k3, k4]; rfl)) rfl rfl rfl
    cases k5 : decide (r.lines.length ≤ 4)
    · simp only [go_sem, Nat.reduceEqDiff, Nat.reduceAdd, Nat.reduceLeDiff, Bool.not_true, Bool.not_false, beq_self_eq_true, List.length_map, hdec, k5]
      exact fail (hf1 (by rw [ho1, k1, k2, k3, k4, k5]; rfl)) rfl rfl rfl
    simp only [go_sem, Nat.reduceEqDiff, Nat.reduceAdd, Nat.reduceLeDiff, Bool.not_true, beq_self_eq_true, List.length_map, hdec, k5]
    rw [ho1, k1, k2, k3, k4, k5]; rfl
  rintro ⟨env, σ, df, k⟩ ⟨o1, q1, q2, hσ, hdf, hk⟩
  simp only at q1 q2 hσ hdf hk
  subst hσ hdf hk
  have o1' := o1
  simp only [ok1, Bool.and_eq_true, decide_eq_true_eq, wI] at o1'
  obtain ⟨⟨⟨⟨t1, t2⟩, t3⟩, t4⟩, t5⟩ := o1'
  refine awpL_chop 2 (c1 := ?b1) (c2 := ?b2) (fun st => ok2 r = true ∧ lk st.env 1 = .ptr 0 0 ∧ lk st.env 2 = .t (vb false) ∧ st.σ = [.cells ((tw3 r.tw ++ ra7 r).map .t)] ∧ st.df = [] ∧ st.k = 0) ?hc2 ?_ ?_
  case hc2 => simp only [chop]; rfl
  · have ho2 : ok2 r = (isSetI r.hours r.sun && isSetI r.hours r.rain && isSetI r.hours r.perhaps) := rfl
    have hpw := qpower_ok r.hours.toNat (by omega)
    rw [show ((r.hours.toNat : Nat) : Int) = r.hours by omega] at hpw
    have hb := pow_bd (n := r.hours.toNat) (by omega)
    have hpos := Nat.two_pow_pos r.hours.toNat
    have e1 : IntKind.i64.wrap (((2 ^ r.hours.toNat : Nat) : Int) - 1) = ((2 ^ r.hours.toNat : Nat) : Int) - 1 := wrap_id (by omega) (by omega)
    have hset : ∀ s, isSetI r.hours s = wI s 0 (((2 ^ r.hours.toNat : Nat) : Int) - 1) := fun _ => rfl
    simp only [hset] at ho2
    generalize ((2 ^ r.hours.toNat : Nat) : Int) = PW at *
    generalize ok2 r = O2 at *
    have w1 := qin_ok r.sun 0 (PW - 1)
    have w2 := qin_ok r.rain 0 (PW - 1)
    have w3 := qin_ok r.perhaps 0 (PW - 1)
    unfold tw3 ra7
    simp only [go_sem, Nat.reduceEqDiff, Nat.reduceAdd, Nat.reduceLeDiff, q1]
    refine ACallL.quiet1 hpw rfl rfl rfl ?_
    simp only [go_sem, Nat.reduceEqDiff, Nat.reduceAdd, Nat.reduceLeDiff, q1, e1]
    refine ACallL.quiet1 w1 rfl rfl rfl ?_
    cases k1 : wI r.sun 0 (PW - 1)
    · simp only [go_sem, Nat.reduceEqDiff, Bool.not_true, Bool.not_false, undef]
      exact fail (hf2 (by rw [ho2, k1]; rfl)) rfl rfl rfl
    simp only [go_sem, Nat.reduceEqDiff, Nat.reduceAdd, Nat.reduceLeDiff, Bool.not_true, beq_self_eq_true, q1]
    refine ACallL.quiet1 w2 rfl rfl rfl ?_
    cases k2 : wI r.rain 0 (PW - 1)
    · simp only [go_sem, Nat.reduceEqDiff, Bool.not_true, Bool.not_false, undef, beq_self_eq_true]
      exact fail (hf2 (by rw [ho2, k1, k2]; rfl)) rfl rfl rfl
    simp only [go_sem, Nat.reduceEqDiff, Nat.reduceAdd, Nat.reduceLeDiff, Bool.not_true, beq_self_eq_true, q1]
    refine ACallL.quiet1 w3 rfl rfl rfl ?_
    cases k3 : wI r.perhaps 0 (PW - 1)
    · simp only [go_sem, Nat.reduceEqDiff, Bool.not_false, beq_self_eq_true]
      exact fail (hf2 (by rw [ho2, k1, k2, k3]; rfl)) rfl rfl rfl
    simp only [go_sem, Nat.reduceEqDiff, Bool.not_true, beq_self_eq_true, q1, q2]
    rw [ho2, k1, k2, k3]; rfl
  clear q1 q2
  rintro ⟨env, σ, df, k⟩ ⟨o2, q1, q2, hσ, hdf, hk⟩
  simp only at q1 q2 hσ hdf hk
  subst hσ hdf hk
  refine awpL_chop 1 (c1 := ?d1) (c2 := ?d2) (fun st => r.lines.all (okLn r.hours) = true ∧ st.df = [] ∧ st.k = 0) ?hc3 ?_ ?_
  case hc3 => simp only [chop]; rfl
  · simp only [go_sem]
    have e11 : IntKind.i64.wrap (r.hours - 1) = r.hours - 1 := wrap_id (by omega) (by omega)
    refine awpL_loopK r.lines.length (fun j st => (∀ l ∈ r.lines.take j, okLn r.hours l = true) ∧ st = { env := [(4, .t (vi j)), (1, .ptr 0 0), (2, .t (vb false))], σ := [.cells ((tw3 r.tw ++ ra7 r).map .t)] })
      ⟨_, Sub.gc [0] [4, 1, 2] rfl rfl, by simp, ?_⟩ ?_
    · exact St.gc_mk (by simp only [List.map_cons, List.map_nil, lk, Nat.reduceEqDiff, reduceIte, q1, q2]; rfl) rfl rfl rfl
    · rintro j st hj ⟨hK, rfl⟩
      unfold tw3 ra7
      simp only [go_sem, Nat.reduceEqDiff, Nat.reduceAdd, Nat.reduceLeDiff, List.length_map]
      cases g : decide ((j : Int) < (r.lines.length : Int))
      · have hje : j = r.lines.length := by have := of_decide_eq_false g; omega
        rw [hje, List.take_length] at hK
        simp only [go_sem]
        exact List.all_eq_true.2 hK
      have hj : j < r.lines.length := by have := of_decide_eq_true g; omega
      have hw : IntKind.i64.wrap ((j : Int) + 1) = ((j + 1 : Nat) : Int) := by rw [wrap_id (by omega) (by omega)]; omega
      have hx : r.lines[j]? = some r.lines[j] := List.getElem?_eq_getElem hj
      have tx : r.lines.take (j + 1) = r.lines.take j ++ [r.lines[j]] := by rw [List.take_add_one, hx]; rfl
      have hmem : r.lines[j] ∈ r.lines := List.getElem_mem hj
      rw [tx]
      generalize r.lines[j] = l at *
      have w1 := qin_ok l.many 1 6
      have w2 := qin_ok l.from_ 0 (r.hours - 1)
      have hol : okLn r.hours l = (wI l.many 1 6 && wI l.from_ 0 (r.hours - 1) && decide (1 ≤ l.lo ∧ l.lo ≤ l.hi ∧ l.hi ≤ 8)) := rfl
      have hff := hf3 l hmem
      generalize hgl : okLn r.hours l = OL at *
      have htl : tLn l = .agg [vi l.many, vi l.from_, vi l.lo, vi l.hi] := rfl
      simp only [go_sem, Nat.reduceEqDiff, Nat.reduceAdd, Nat.reduceLeDiff, undef, List.getElem?_map, hx, Option.map_some, htl]
      refine ACallL.quiet1 w1 rfl rfl rfl ?_
      cases k1 : wI l.many 1 6
      · simp only [go_sem, Nat.reduceEqDiff, Bool.not_true, Bool.not_false, undef]
        exact fail (hff (by rw [hol, k1]; rfl)) rfl rfl rfl
      simp only [go_sem, Nat.reduceEqDiff, Nat.reduceAdd, Nat.reduceLeDiff, Bool.not_true, beq_self_eq_true, e11]
      refine ACallL.quiet1 w2 rfl rfl rfl ?_
      cases k2 : wI l.from_ 0 (r.hours - 1)
      · simp only [go_sem, Nat.reduceEqDiff, Bool.not_true, Bool.not_false, undef, beq_self_eq_true]
        exact fail (hff (by rw [hol, k1, k2]; rfl)) rfl rfl rfl
      cases k3 : decide (l.lo < 1)
      rotate_left
      · simp only [go_sem, Nat.reduceEqDiff, Nat.reduceAdd, Nat.reduceLeDiff, Bool.not_true, undef, beq_self_eq_true, k3]
        exact fail (hff (by rw [hol, k1, k2]; simp at k3; simp; omega)) rfl rfl rfl
      cases k4 : decide (l.lo > l.hi)
      rotate_left
      · simp only [go_sem, Nat.reduceEqDiff, Nat.reduceAdd, Nat.reduceLeDiff, Bool.not_true, undef, beq_self_eq_true, k3, k4]
        exact fail (hff (by rw [hol, k1, k2]; simp at k4; simp; omega)) rfl rfl rfl
      cases k5 : decide (l.hi > 8)
      rotate_left
      · simp only [go_sem, Nat.reduceEqDiff, Nat.reduceAdd, Nat.reduceLeDiff, Bool.not_true, beq_self_eq_true, k3, k4, k5]
        exact fail (hff (by rw [hol, k1, k2]; simp at k5; simp; omega)) rfl rfl rfl
      simp only [go_sem, Nat.reduceEqDiff, Nat.reduceAdd, Nat.reduceLeDiff, Bool.not_true, beq_self_eq_true, k3, k4, k5, hw]
      refine ⟨hj, _, Sub.gc [0] [4, 1, 2] rfl rfl, ?_, St.gc_mk rfl rfl rfl rfl⟩
      intro y hy
      rcases List.mem_append.1 hy with h | h
      · exact hK y h
      · simp at h
        rw [h, hgl, hol, k1, k2]
        simp at k3 k4 k5
        simp; omega
  clear q1 q2
  rintro ⟨env, σ, df, k⟩ ⟨o3, hdf, hk⟩
  simp only at hdf hk
  subst hdf hk
  have hok : r.ok = true := by unfold Ra.ok; rw [o1, o2, o3]; rfl
  simp only [go_sem]
  exact finL_ret [] ⟨rfl, rfl, rfl, rfl, _, rfl, res_mk (by rw [hok]; rfl)⟩
end Go.Proofs.Ytcpkkjbkbdmopaa

/- The rail of the document's examples. -/
namespace Go.Proofs.Ytcpkkjbkbdmopaa
open Go Go.Ab

def smpTw (h : Int × Int) : Tw := ⟨[⟨0, 0, 2, 2, 1, 2⟩, ⟨0, 1, 2, 3, 1, 1⟩, ⟨1, 0, 1, 1, 0, 1⟩, ⟨1, 1, 3, 3, 0, 3⟩], [(2, 2), (1, 2)], [(1, 1), h]⟩
def smp (h : Int × Int) : Ra := ⟨smpTw h, 20, 8, 12, 16, 2, [⟨5, 0, 3, 4⟩, ⟨4, 3, 2, 2⟩], 6⟩

def rowB : AO := .row 6 [.t (tB ⟨0, 0, 2, 2, 1, 2⟩), .t (tB ⟨0, 1, 2, 3, 1, 1⟩), .t (tB ⟨1, 0, 1, 1, 0, 1⟩), .t (tB ⟨1, 1, 3, 3, 0, 3⟩)]
def rowS (a b : Int × Int) : AO := .row 2 [.t (tS a), .t (tS b)]
/-- What is so of each operation that is done. -/
def smP (h : Int × Int) (s : St) : Nat → Prop
  | 0 => lk s.env 4 = .t (tS (2, 2))
  | 1 => lk s.env 5 = .t (tS (1, 2))
  | 2 => lk s.env 6 = .t (tB ⟨0, 0, 2, 2, 1, 2⟩)
  | 3 => lk s.env 7 = .t (tS (2, 3))
  | 4 => lk s.env 8 = .t (tS (1, 1))
  | 5 => lk s.env 9 = .t (tB ⟨0, 1, 2, 3, 1, 1⟩)
  | 6 => lk s.env 10 = .t (tS (1, 1))
  | 7 => lk s.env 11 = .t (tS (0, 1))
  | 8 => lk s.env 12 = .t (tB ⟨1, 0, 1, 1, 0, 1⟩)
  | 9 => lk s.env 13 = .t (tS (3, 3))
  | 10 => lk s.env 14 = .t (tS (0, 3))
  | 11 => lk s.env 15 = .t (tB ⟨1, 1, 3, 3, 0, 3⟩)
  | 12 => ∃ id, lk s.env 16 = .loc id 4 ∧ s.σ[id]? = some rowB
  | 13 => lk s.env 17 = .t (tS (2, 2))
  | 14 => lk s.env 18 = .t (tS (1, 2))
  | 15 => ∃ id, lk s.env 19 = .loc id 2 ∧ s.σ[id]? = some (rowS (2, 2) (1, 2))
  | 16 => lk s.env 20 = .t (tS (1, 1))
  | 17 => lk s.env 21 = .t (tS h)
  | 18 => ∃ id, lk s.env 22 = .loc id 2 ∧ s.σ[id]? = some (rowS (1, 1) h)
  | 19 => ∃ a b c, lk s.env 23 = .agg [.loc a 4, .loc b 2, .loc c 2] ∧ s.σ[a]? = some rowB ∧ s.σ[b]? = some (rowS (2, 2) (1, 2)) ∧ s.σ[c]? = some (rowS (1, 1) h)
  | 20 => ∃ id, lk s.env 3 = .ptr id 0 ∧ 1 < id ∧ s.σ[id]? = some (.cells [.t (.lit (.slice none 0 0)), .t (.lit (.slice none 0 0)), .t (.lit (.slice none 0 0))])
  | 21 => ∃ id a b c, lk s.env 3 = .ptr id 0 ∧ s.σ[id]? = some (.cells [.loc a 4, .loc b 2, .loc c 2]) ∧ s.σ[a]? = some rowB ∧ s.σ[b]? = some (rowS (2, 2) (1, 2)) ∧ s.σ[c]? = some (rowS (1, 1) h)
  | _ => True
def smD : List Nat := [4, 5, 6, 7, 8, 9, 10, 11, 12, 13, 14, 15, 16, 17, 18, 19, 20, 21, 22, 23, 3]
def zer10 : List E := [.t (.lit (.slice none 0 0)), .t (.lit (.slice none 0 0)), .t (.lit (.slice none 0 0)), .t (vi 0), .t (vi 0), .t (vi 0), .t (vi 0), .t (vi 0), .t (.lit (.slice none 0 0)), .t (vi 0)]
structure SmB (h : Int × Int) (s : St) : Prop where
  e1 : lk s.env 1 = .ptr 0 0
  e2 : lk s.env 2 = .ptr 1 0
  s0 : s.σ[0]? = some (.cells [.t (vi h.1), .t (vi h.2)])
  s1 : s.σ[1]? = some (.cells zer10)
  df : s.df = []
  k : s.k = 0
def smI (h : Int × Int) (L : Nat → Bool) (s : St) : Prop := SmB h s ∧ (L 21 = true → (∀ j, j < 21 → L j = true) ∧ smP h s 21) ∧ (L 21 = false → ∀ j, j < 21 → L j = true → smP h s j)

theorem smP_keep {h : Int × Int} {s : St} {e : E} {d : Nat} {σ' : List AO} (hσ : ∀ (id : Nat) o, s.σ[id]? = some o → σ'[id]? = some o) : ∀ j, j < 21 → smD[j]? ≠ some d → smP h s j → smP h { env := (d, e) :: s.env, σ := σ', df := s.df, k := s.k } j := by
  intro j hj hd hp
  have key : ∀ n, n ≠ d → lk ((d, e) :: s.env) n = lk s.env n := fun n hn => by simp only [lk, if_neg hn]
  match j, hj, hd, hp with
  | 0, _, hd, hp | 1, _, hd, hp | 2, _, hd, hp | 3, _, hd, hp | 4, _, hd, hp | 5, _, hd, hp | 6, _, hd, hp | 7, _, hd, hp | 8, _, hd, hp | 9, _, hd, hp | 10, _, hd, hp | 11, _, hd, hp | 13, _, hd, hp | 14, _, hd, hp | 16, _, hd, hp | 17, _, hd, hp =>
    simp only [smD, List.getElem?_cons_zero, List.getElem?_cons_succ, ne_eq, Option.some.injEq] at hd
    simp only [smP] at hp ⊢
    rw [key _ hd]; exact hp
  | 12, _, hd, hp | 15, _, hd, hp | 18, _, hd, hp =>
    simp only [smD, List.getElem?_cons_zero, List.getElem?_cons_succ, ne_eq, Option.some.injEq] at hd
    simp only [smP] at hp ⊢
    obtain ⟨id, h1, h2⟩ := hp
    rw [key _ hd]; exact ⟨id, h1, hσ _ _ h2⟩
  | 19, _, hd, hp =>
    simp only [smD, List.getElem?_cons_zero, List.getElem?_cons_succ, ne_eq, Option.some.injEq] at hd
    simp only [smP] at hp ⊢
    obtain ⟨a, b, c, h1, h2, h3, h4⟩ := hp
    rw [key _ hd]; exact ⟨a, b, c, h1, hσ _ _ h2, hσ _ _ h3, hσ _ _ h4⟩
  | 20, _, hd, hp =>
    simp only [smD, List.getElem?_cons_zero, List.getElem?_cons_succ, ne_eq, Option.some.injEq] at hd
    simp only [smP] at hp ⊢
    obtain ⟨id, h1, h3, h2⟩ := hp
    rw [key _ hd]; exact ⟨id, h1, h3, hσ _ _ h2⟩
  | n + 21, hj, _, _ => omega

/-- An operation is done. -/
theorem smI_put {h : Int × Int} {L : Nat → Bool} {s : St} (hI : smI h L s) {j d : Nat} (hj : j < 21) (hd : smD[j]? = some d) (hL : L 21 = false) {e : E} {σ' : List AO} (hσ : ∀ (id : Nat) o, s.σ[id]? = some o → σ'[id]? = some o) (hp : smP h { env := (d, e) :: s.env, σ := σ', df := s.df, k := s.k } j) :
    smI h (fun x => x == j || L x) { env := (d, e) :: s.env, σ := σ', df := s.df, k := s.k } := by
  obtain ⟨hB, _, h2⟩ := hI
  have hd3 : 3 ≤ d := by
    have : ∀ x ∈ smD, 3 ≤ x := by decide
    exact this d (List.mem_of_getElem? hd)
  have key : ∀ n, n ≠ d → lk ((d, e) :: s.env) n = lk s.env n := fun n hn => by simp only [lk, if_neg hn]
  have h21 : ((21 : Nat) == j || L 21) = false := by rw [hL]; simp; omega
  refine ⟨⟨by rw [key 1 (by omega)]; exact hB.e1, by rw [key 2 (by omega)]; exact hB.e2, hσ _ _ hB.s0, hσ _ _ hB.s1, hB.df, hB.k⟩, fun c => ?_, fun _ i hi hc => ?_⟩
  · have c' : ((21 : Nat) == j || L 21) = true := c
    rw [h21] at c'; cases c'
  · by_cases hij : i = j
    · rw [hij]; exact hp
    · have hc' : L i = true := by simpa [hij] using hc
      refine smP_keep hσ i hi ?_ (h2 hL i hi hc')
      intro e2
      have hnd : smD.Nodup := by decide
      obtain ⟨a1, a2⟩ := List.getElem?_eq_some_iff.1 hd
      obtain ⟨b1, b2⟩ := List.getElem?_eq_some_iff.1 e2
      exact hij ((List.getElem_inj hnd).1 (b2.trans a2.symm))
theorem app_keep {σ : List AO} {o : AO} : ∀ (id : Nat) p, σ[id]? = some p → (σ ++ [o])[id]? = some p := fun id p h => by
  rw [List.getElem?_append_left (List.getElem?_eq_some_iff.1 h).1]; exact h
theorem app_new {σ : List AO} {o : AO} : (σ ++ [o])[σ.length]? = some o := by simp


/-- A span is made, whatever the store. -/
theorem spanL {a b : Int} {σ : List AO} {R : Lz (Out → List AO → Prop)} (hk : R.get (.ret (.t (tS (a, b)))) σ) : @ACallL Try.prog 36 [.t (vi a), .t (vi b)] σ R := ACallL.fresh1 (span_ok a b) rfl hk

set_option maxRecDepth 8000 in
set_option maxHeartbeats 8000000 in
theorem sample_ok (h : Int × Int) : ACall Try.prog 35 [.t (tS h)] [] (ret (tRa (smp h))) := by
  refine ACall.walk k35 ?_
  unfold c35
  refine awpL_chop 2 (c1 := ?a1) (c2 := ?a2) (fun s => SmB h s ∧ smP h s 21) ?hc ?_ ?_
  case hc => simp only [chop]; rfl
  · simp only [tS, go_sem]
    refine awpL_drawI (smI h) ?_ ?_ ?_
    · refine ⟨⟨rfl, rfl, rfl, rfl, rfl, rfl⟩, fun c => (by cases c), fun _ j _ c => (by cases c)⟩
    · intro L s j i hI hi hL hd
      have hL21 : L 21 = false := by
        cases hc : L 21 with
        | false => rfl
        | true =>
          by_cases hj : j < 21
          · have := (hI.2.1 hc).1 j hj
            rw [hL] at this; cases this
          · by_cases hj2 : j = 21
            · rw [hj2, hc] at hL; cases hL
            · rw [List.getElem?_eq_none (by simp; omega)] at hi; cases hi
      have hP := hI.2.2 hL21
      have hB := hI.1
      have same : ∀ (id : Nat) o, s.σ[id]? = some o → s.σ[id]? = some o := fun _ _ h => h
      obtain ⟨env, σ, df, k⟩ := s
      match j, hi, hL, hd with
      | 0, hi, _, _ | 1, hi, _, _ | 3, hi, _, _ | 4, hi, _, _ | 6, hi, _, _ | 7, hi, _, _ | 9, hi, _, _ | 10, hi, _, _ | 13, hi, _, _ | 14, hi, _, _ | 16, hi, _, _ =>
        cases hi
        simp only [go_sem]
        refine spanL ?_
        exact smI_put hI (by decide) rfl hL21 same rfl
      | 2, hi, _, hd =>
        cases hi
        have q1 : lk env 4 = _ := hP 0 (by decide) (hd 0 (by decide))
        have q2 : lk env 5 = _ := hP 1 (by decide) (hd 1 (by decide))
        simp only [go_sem, Nat.reduceAdd, Nat.reduceLeDiff, q1, q2, tS]
        exact smI_put hI (by decide) rfl hL21 same rfl
      | 5, hi, _, hd =>
        cases hi
        have q1 : lk env 7 = _ := hP 3 (by decide) (hd 3 (by decide))
        have q2 : lk env 8 = _ := hP 4 (by decide) (hd 4 (by decide))
        simp only [go_sem, Nat.reduceAdd, Nat.reduceLeDiff, q1, q2, tS]
        exact smI_put hI (by decide) rfl hL21 same rfl
      | 8, hi, _, hd =>
        cases hi
        have q1 : lk env 10 = _ := hP 6 (by decide) (hd 6 (by decide))
        have q2 : lk env 11 = _ := hP 7 (by decide) (hd 7 (by decide))
        simp only [go_sem, Nat.reduceAdd, Nat.reduceLeDiff, q1, q2, tS]
        exact smI_put hI (by decide) rfl hL21 same rfl
      | 11, hi, _, hd =>
        cases hi
        have q1 : lk env 13 = _ := hP 9 (by decide) (hd 9 (by decide))
        have q2 : lk env 14 = _ := hP 10 (by decide) (hd 10 (by decide))
        simp only [go_sem, Nat.reduceAdd, Nat.reduceLeDiff, q1, q2, tS]
        exact smI_put hI (by decide) rfl hL21 same rfl
      | 12, hi, _, hd =>
        cases hi
        have q1 : lk env 6 = _ := hP 2 (by decide) (hd 2 (by decide))
        have q2 : lk env 9 = _ := hP 5 (by decide) (hd 5 (by decide))
        have q3 : lk env 12 = _ := hP 8 (by decide) (hd 8 (by decide))
        have q4 : lk env 15 = _ := hP 11 (by decide) (hd 11 (by decide))
        simp only [go_sem, Nat.reduceAdd, Nat.reduceLT, q1, q2, q3, q4, tB]
        exact smI_put hI (by decide) rfl hL21 app_keep ⟨σ.length, rfl, app_new⟩
      | 15, hi, _, hd =>
        cases hi
        have q1 : lk env 17 = _ := hP 13 (by decide) (hd 13 (by decide))
        have q2 : lk env 18 = _ := hP 14 (by decide) (hd 14 (by decide))
        simp only [go_sem, Nat.reduceAdd, Nat.reduceLT, q1, q2, tS]
        exact smI_put hI (by decide) rfl hL21 app_keep ⟨σ.length, rfl, app_new⟩
      | 17, hi, _, hd =>
        cases hi
        have q1 : lk env 1 = _ := hB.e1
        have q2 : σ[0]? = _ := hB.s0
        simp only [go_sem, Nat.reduceAdd, q1, q2]
        exact smI_put hI (by decide) rfl hL21 same rfl
      | 18, hi, _, hd =>
        cases hi
        have q1 : lk env 20 = _ := hP 16 (by decide) (hd 16 (by decide))
        have q2 : lk env 21 = _ := hP 17 (by decide) (hd 17 (by decide))
        simp only [go_sem, Nat.reduceAdd, Nat.reduceLT, q1, q2, tS]
        exact smI_put hI (by decide) rfl hL21 app_keep ⟨σ.length, rfl, app_new⟩
      | 19, hi, _, hd =>
        cases hi
        obtain ⟨a, q1, a1⟩ := hP 12 (by decide) (hd 12 (by decide))
        obtain ⟨b, q2, b1⟩ := hP 15 (by decide) (hd 15 (by decide))
        obtain ⟨c, q3, c1⟩ := hP 18 (by decide) (hd 18 (by decide))
        simp only at q1 q2 q3 a1 b1 c1
        simp only [go_sem, Nat.reduceAdd, Nat.reduceLeDiff, q1, q2, q3]
        exact smI_put hI (by decide) rfl hL21 same ⟨a, b, c, rfl, a1, b1, c1⟩
      | 20, hi, _, hd =>
        cases hi
        simp only [go_sem]
        refine smI_put hI (by decide) rfl hL21 app_keep ⟨σ.length, rfl, ?_, app_new⟩
        have := (List.getElem?_eq_some_iff.1 hB.s1).1
        exact this
      | 21, hi, _, hd =>
        cases hi
        obtain ⟨a, b, c, q1, a1, b1, c1⟩ := hP 19 (by decide) (hd 19 (by decide))
        obtain ⟨id, q2, i0, i1⟩ := hP 20 (by decide) (hd 20 (by decide))
        simp only at q1 q2 a1 b1 c1 i1
        have hid := (List.getElem?_eq_some_iff.1 i1).1
        have ne : ∀ (x : Nat) (o : AO), σ[x]? = some o → (∀ cs, o ≠ .cells cs) → id ≠ x := fun x o hx ho e => by
          rw [← e, i1] at hx
          cases hx
          exact ho _ rfl
        simp only [go_sem, Nat.reduceAdd, undef, q1, q2, i1]
        refine ⟨⟨hB.e1, hB.e2, by rw [List.getElem?_set_ne (by omega)]; exact hB.s0, by rw [List.getElem?_set_ne (by omega)]; exact hB.s1, hB.df, hB.k⟩, fun _ => ⟨fun j hj => ?_, id, a, b, c, q2, by rw [List.getElem?_set_self hid], ?_, ?_, ?_⟩, fun c => (by cases c)⟩
        · have : j ∈ ([20, 19, 16, 0, 1, 2, 3, 4, 5, 6, 7, 8, 9, 10, 11, 12, 13, 14, 15, 16, 17, 18, 19, 20] : List Nat) := by
            have key : ∀ j < 21, j ∈ ([20, 19, 16, 0, 1, 2, 3, 4, 5, 6, 7, 8, 9, 10, 11, 12, 13, 14, 15, 16, 17, 18, 19, 20] : List Nat) := by decide
            exact key j hj
          have := hd j this
          simp [this]
        · rw [List.getElem?_set_ne (ne a _ a1 (by intro cs; simp [rowB]))]; exact a1
        · rw [List.getElem?_set_ne (ne b _ b1 (by intro cs; simp [rowS]))]; exact b1
        · rw [List.getElem?_set_ne (ne c _ c1 (by intro cs; simp [rowS]))]; exact c1
      | n + 22, hi, _, _ => cases hi
    · intro L s hI hall
      exact ⟨hI.1, (hI.2.1 (hall 21 (by decide))).2⟩
  rintro ⟨env, σ, df, k⟩ ⟨hB, id, a, b, c, q3, i1, a1, b1, c1⟩
  obtain ⟨e1, e2, s0, s1, hdf, hk⟩ := hB
  simp only at e1 e2 s0 s1 hdf hk q3 i1 a1 b1 c1
  subst hdf hk
  have l1 := line_ok 5 0 3 4
  have l2 := line_ok 4 3 2 2
  have hlen : 1 < σ.length := (List.getElem?_eq_some_iff.1 s1).1
  have ap : ∀ {id : Nat} {o p : AO}, σ[id]? = some p → (σ ++ [o])[id]? = some p := fun h => app_keep _ _ h
  have i1' := fun {o} => ap (o := o) i1
  have s1' := fun {o} => ap (o := o) s1
  simp only [go_sem, Nat.reduceAdd, q3, i1]
  refine ACallL.fresh1 l1 rfl ?_
  simp only [go_sem, Nat.reduceEqDiff, Nat.reduceAdd, q3, i1]
  refine ACallL.fresh1 l2 rfl ?_
  simp only [tLn, go_sem, Nat.reduceEqDiff, Nat.reduceAdd, Nat.reduceLT, Nat.reduceLeDiff, undef, q3, i1, i1', e2, s1', zer10]
  have gR : ∀ {τ : List AO} {id n : Nat} (xs : List T) {es : Nat}, τ[id]? = some (.row es (xs.map E.t)) → n = xs.length → E.gc [] τ 11 (.loc id n) = .t (.slice es xs) := fun xs _ h1 h2 => gc_loc (n := 9) rfl h1 h2
  have ne1 : ∀ {x : Nat} {es : Nat} {xs : List E}, σ[x]? = some (.row es xs) → (1 : Nat) ≠ x := fun hx e => by
    rw [← e, s1] at hx; cases hx
  have hR : ∀ {x : Nat} {es : Nat} {xs : List E} {o p : AO}, σ[x]? = some (.row es xs) → ((σ ++ [o]).set 1 p)[x]? = some (.row es xs) := fun hx => by
    rw [List.getElem?_set_ne (ne1 hx)]; exact ap hx
  have hN : ∀ {o p : AO}, ((σ ++ [o]).set 1 p)[σ.length]? = some o := by
    intro o p
    rw [List.getElem?_set_ne (by omega)]; simp
  have hS : ∀ {o p : AO}, ((σ ++ [o]).set 1 p)[1]? = some p := by
    intro o p
    rw [List.getElem?_set_self (by rw [List.length_append]; omega)]
  refine finL_ret [] ⟨rfl, rfl, rfl, rfl, .agg [.loc a 4, .loc b 2, .loc c 2, .t (vi 20), .t (vi 8), .t (vi 12), .t (vi 16), .t (vi 2), .loc σ.length 2, .t (vi 6)], ?_, res_mk ?_⟩
  · simp only [resV, resEs, go_sem, Nat.reduceEqDiff, Nat.reduceAdd, e2, hS]
  · have q1 := gR [tB ⟨0, 0, 2, 2, 1, 2⟩, tB ⟨0, 1, 2, 3, 1, 1⟩, tB ⟨1, 0, 1, 1, 0, 1⟩, tB ⟨1, 1, 3, 3, 0, 3⟩] (hR (o := AO.row 4 [.t (tLn ⟨5, 0, 3, 4⟩), .t (tLn ⟨4, 3, 2, 2⟩)]) (p := AO.cells [.loc a 4, .loc b 2, .loc c 2, .t (vi 20), .t (vi 8), .t (vi 12), .t (vi 16), .t (vi 2), .loc σ.length 2, .t (vi 6)]) a1) (n := 4) rfl
    have q2 := gR [tS (2, 2), tS (1, 2)] (hR (o := AO.row 4 [.t (tLn ⟨5, 0, 3, 4⟩), .t (tLn ⟨4, 3, 2, 2⟩)]) (p := AO.cells [.loc a 4, .loc b 2, .loc c 2, .t (vi 20), .t (vi 8), .t (vi 12), .t (vi 16), .t (vi 2), .loc σ.length 2, .t (vi 6)]) b1) (n := 2) rfl
    have q3 := gR [tS (1, 1), tS h] (hR (o := AO.row 4 [.t (tLn ⟨5, 0, 3, 4⟩), .t (tLn ⟨4, 3, 2, 2⟩)]) (p := AO.cells [.loc a 4, .loc b 2, .loc c 2, .t (vi 20), .t (vi 8), .t (vi 12), .t (vi 16), .t (vi 2), .loc σ.length 2, .t (vi 6)]) c1) (n := 2) rfl
    have q4 := gR [tLn ⟨5, 0, 3, 4⟩, tLn ⟨4, 3, 2, 2⟩] (hN (o := AO.row 4 [.t (tLn ⟨5, 0, 3, 4⟩), .t (tLn ⟨4, 3, 2, 2⟩)]) (p := AO.cells [.loc a 4, .loc b 2, .loc c 2, .t (vi 20), .t (vi 8), .t (vi 12), .t (vi 16), .t (vi 2), .loc σ.length 2, .t (vi 6)])) (n := 2) rfl
    show Out.ret (E.gc [] _ 12 (.agg _)) = _
    rw [E.gc]
    simp only [List.map_cons, List.map_nil]
    erw [q1, q2, q3, q4]
    rfl
end Go.Proofs.Ytcpkkjbkbdmopaa

/- The document's examples hold. -/
namespace Go.Proofs.Ytcpkkjbkbdmopaa
open Go Go.Ab

theorem whole_ok : ACall Try.prog 31 [] [] (ret (tRa (smp (2, 3)))) := by
  have h1 := span_ok 2 3
  have h2 := sample_ok (2, 3)
  refine ACall.walk k31 ?_
  unfold c31
  unfold tRa tw3 ra7 at h2 ⊢
  simp only [List.cons_append, List.nil_append] at h2
  simp only [go_sem]
  refine ACallL.fresh1 h1 rfl ?_
  simp only [go_sem, Nat.reduceEqDiff]
  refine ACallL.fresh1 h2 rfl ?_
  simp only [go_sem, Nat.reduceEqDiff, Nat.reduceAdd, undef]
  exact finL_ret [] ⟨rfl, rfl, rfl, rfl, _, rfl, ret_mk rfl⟩

abbrev W0 : Ra := smp (2, 3)
theorem lensW (h : Int × Int) : Lens (smp h) := ⟨by simp [smp, smpTw], by simp [smp]⟩
theorem ex1 : specDry W0 0 = ((3, 4), 0) := by decide +kernel
theorem ex2 : specWet W0 3 = ((4, 9), 0) := by decide +kernel
theorem ex3 : specLatest W0 4 6 = (2, 0) := by decide +kernel
theorem ex4 : specReady W0 3 = ((7, 13), 0) := by decide +kernel
theorem ex5 : specEnough W0 3 10 = (1, 0) := by decide +kernel
theorem ex6 : specWhen W0 16 = (4, 0) := by decide +kernel
theorem ex7 : specBuy W0 3 10 = (3, 0) := by decide +kernel
theorem ex8 : specOwes W0 1 = ((6, 12), 0) := by decide +kernel
theorem ex9 : specEnough W0 3 7 = (2, 0) := by decide +kernel
theorem exT : isT W0.tw = true := by decide +kernel

theorem eqsS (a b : Int × Int) : kEq [some .i64, some .i64] [a.1, a.2] [b.1, b.2] = decide (a = b) := by
  obtain ⟨a1, a2⟩ := a
  obtain ⟨b1, b2⟩ := b
  simp only [kEq, cellEq, Bool.and_true, Prod.mk.injEq, Bool.decide_and]
  rfl

set_option maxRecDepth 8000 in
set_option maxHeartbeats 4000000 in
theorem alive_ok : ACall Try.prog 24 [] [] (ret (vb true)) := by
  have hw := whole_ok
  have h1 := Dry_ok W0 0 (lensW _)
  have h2 := Wet_ok W0 3 (lensW _)
  have h3 := Latest_ok W0 4 6 (lensW _)
  have h4 := Ready_ok W0 3 (lensW _)
  have h5 := Enough_ok W0 3 10 (lensW _)
  have h6 := WhenT_ok W0 16 (lensW _) (fun _ => exT)
  have h7 := Buy_ok W0 3 10 (lensW _)
  have h8 := Owes_ok W0 1 (lensW _)
  have h9 := Enough_ok W0 3 7 (lensW _)
  rw [ex1] at h1; rw [ex2] at h2; rw [ex3] at h3; rw [ex4] at h4; rw [ex5] at h5; rw [ex6] at h6; rw [ex7] at h7; rw [ex8] at h8; rw [ex9] at h9
  refine ACall.walk k24 ?_
  unfold c24
  generalize tRa W0 = X at *
  have sp := fun a b {σ R} => @spanL a b σ R
  have step : ∀ {σ : List AO} {R : Lz (Out → List AO → Prop)}, R.get (.ret (.t X)) σ → @ACallL Try.prog 31 [] σ R := fun h => ACallL.fresh1 hw rfl h
  simp only [spanE, oneE, tS] at h1 h2 h3 h4 h5 h6 h7 h8 h9
  simp only [go_sem]
  refine step ?_
  simp only [go_sem, Nat.reduceEqDiff]
  refine ACallL.fresh1 h1 rfl ?_
  simp only [go_sem, Nat.reduceEqDiff, Nat.reduceAdd, undef]
  refine step ?_
  simp only [go_sem, Nat.reduceEqDiff]
  refine ACallL.fresh1 h2 rfl ?_
  simp only [go_sem, Nat.reduceEqDiff, Nat.reduceAdd, undef]
  refine step ?_
  simp only [go_sem, Nat.reduceEqDiff]
  refine ACallL.fresh1 h3 rfl ?_
  simp only [go_sem, Nat.reduceEqDiff]
  refine step ?_
  simp only [go_sem, Nat.reduceEqDiff]
  refine ACallL.fresh1 h4 rfl ?_
  simp only [go_sem, Nat.reduceEqDiff, Nat.reduceAdd, undef]
  refine step ?_
  simp only [go_sem, Nat.reduceEqDiff]
  refine ACallL.fresh1 h5 rfl ?_
  simp only [go_sem, Nat.reduceEqDiff]
  refine step ?_
  simp only [go_sem, Nat.reduceEqDiff]
  refine ACallL.fresh1 h6 rfl ?_
  simp only [go_sem, Nat.reduceEqDiff]
  refine step ?_
  simp only [go_sem, Nat.reduceEqDiff]
  refine ACallL.fresh1 h7 rfl ?_
  simp only [go_sem, Nat.reduceEqDiff]
  refine step ?_
  simp only [go_sem, Nat.reduceEqDiff]
  refine ACallL.fresh1 h8 rfl ?_
  simp only [go_sem, Nat.reduceEqDiff, Nat.reduceAdd, undef]
  refine step ?_
  simp only [go_sem, Nat.reduceEqDiff]
  refine ACallL.fresh1 h9 rfl ?_
  simp only [go_sem, Nat.reduceEqDiff, Nat.reduceAdd]
  refine sp 3 4 ?_
  simp only [tS, go_sem, Nat.reduceEqDiff, Nat.reduceAdd, Bool.not_true, beq_self_eq_true, Bool.and_true, toKey, cellKeys, cellKey, kEq, cellEq]
  refine sp 4 9 ?_
  simp only [tS, go_sem, Nat.reduceEqDiff, Nat.reduceAdd, Bool.not_true, undef, beq_self_eq_true, Bool.and_true, toKey, cellKeys, cellKey, kEq, cellEq]
  refine sp 7 13 ?_
  simp only [tS, go_sem, Nat.reduceEqDiff, Nat.reduceAdd, Bool.not_true, undef, beq_self_eq_true, Bool.and_true, toKey, cellKeys, cellKey, kEq, cellEq]
  refine sp 6 12 ?_
  simp only [tS, go_sem, Nat.reduceEqDiff, Nat.reduceAdd, Bool.not_true, undef, beq_self_eq_true, Bool.and_true, toKey, cellKeys, cellKey, kEq, cellEq]
  exact finL_ret [] ⟨rfl, rfl, rfl, rfl, _, rfl, ret_mk rfl⟩
end Go.Proofs.Ytcpkkjbkbdmopaa
