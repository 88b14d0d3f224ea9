/- Proved here: laws that the statements need (SuC3r, SvE, SvF, SvG). No conditions but those that each law states. -/
import Derived.Test.YtmahocdmkpigjaaDoorFL
import Derived.Test.YtmahocdmkpigjaaDoorProg
import Derived.Test.YtmahocdmkpigjaaDoorSR
import Derived.Test.YtmahocdmkpigjaaDoorSL
import Derived.Test.YtmahocdmkpigjaaDoorSE

set_option linter.unusedSimpArgs false
set_option linter.unusedVariables false

/- Compiled code of functions, printed by program; each is checked to be the program's. No conditions. -/
namespace Go.Proofs.YtmahocdmkpigjaaDoor
open Go Go.Ab
/-- dipworks/dipworkslaw04.SurfReads -/
def c3 : AC :=
 .seq (.reg [⟨(some 4), none, .box (.tmp 0)⟩,
 ⟨(some 8), none, .mov (.lit (.bool false))⟩])
 (.seq (.seq (.reg [⟨(some 25), none, .load true 5 (.tmp 4)⟩,
 ⟨(some 26), none, .call (.fn 13) [(.tmp 25)]⟩])
 (.cond (.tmp 26) (.seq (.reg [⟨(some 27), none, .call (.fn 14) []⟩,
 ⟨(some 8), none, .mov (.tmp 27)⟩])
 (.ret))
 (.skip)))
 (.seq (.reg [⟨(some 29), none, .load true 5 (.tmp 4)⟩,
 ⟨(some 30), none, .mov (.tmp 2)⟩,
 ⟨(some 31), none, .mov (.tmp 3)⟩,
 ⟨(some 32), none, .call (.fn 15) [(.tmp 29), (.tmp 30), (.tmp 31)]⟩,
 ⟨(some 28), none, .mov (.tmp 32)⟩,
 ⟨(some 33), none, .ext (.tmp 28) 0⟩,
 ⟨(some 34), none, .ext (.tmp 28) 1⟩,
 ⟨(some 9), none, .alloc [(.int .i64 0), (.int .i64 0)]⟩,
 ⟨none, none, .store 2 (.tmp 9) (.tmp 33)⟩,
 ⟨(some 10), none, .mov (.tmp 34)⟩])
 (.seq (.reg [⟨(some 36), none, .load true 5 (.tmp 4)⟩,
 ⟨(some 37), none, .mov (.tmp 2)⟩,
 ⟨(some 38), none, .mov (.tmp 3)⟩,
 ⟨(some 39), none, .call (.fn 16) [(.tmp 36), (.tmp 37), (.tmp 38)]⟩,
 ⟨(some 35), none, .mov (.tmp 39)⟩,
 ⟨(some 40), none, .ext (.tmp 35) 0⟩,
 ⟨(some 41), none, .ext (.tmp 35) 1⟩,
 ⟨(some 11), none, .alloc [(.int .i64 0), (.int .i64 0)]⟩,
 ⟨none, none, .store 2 (.tmp 11) (.tmp 40)⟩,
 ⟨(some 12), none, .mov (.tmp 41)⟩])
 (.seq (.reg [⟨(some 43), none, .load true 5 (.tmp 4)⟩,
 ⟨(some 44), none, .mov (.tmp 1)⟩,
 ⟨(some 45), none, .mov (.tmp 2)⟩,
 ⟨(some 46), none, .call (.fn 17) [(.tmp 43), (.tmp 44), (.tmp 45)]⟩,
 ⟨(some 42), none, .mov (.tmp 46)⟩,
 ⟨(some 47), none, .ext (.tmp 42) 0⟩,
 ⟨(some 48), none, .ext (.tmp 42) 1⟩,
 ⟨(some 49), none, .ext (.tmp 42) 2⟩,
 ⟨(some 13), none, .mov (.tmp 47)⟩,
 ⟨(some 14), none, .mov (.tmp 48)⟩,
 ⟨(some 15), none, .mov (.tmp 49)⟩])
 (.seq (.reg [⟨(some 51), none, .load true 5 (.tmp 4)⟩,
 ⟨(some 52), none, .mov (.tmp 1)⟩,
 ⟨(some 53), none, .mov (.tmp 2)⟩,
 ⟨(some 54), none, .call (.fn 18) [(.tmp 51), (.tmp 52), (.tmp 53)]⟩,
 ⟨(some 50), none, .mov (.tmp 54)⟩,
 ⟨(some 55), none, .ext (.tmp 50) 0⟩,
 ⟨(some 56), none, .ext (.tmp 50) 1⟩,
 ⟨(some 57), none, .ext (.tmp 50) 2⟩,
 ⟨(some 16), none, .mov (.tmp 55)⟩,
 ⟨(some 17), none, .mov (.tmp 56)⟩,
 ⟨(some 18), none, .mov (.tmp 57)⟩])
 (.seq (.reg [⟨(some 59), none, .load true 5 (.tmp 4)⟩,
 ⟨(some 60), none, .mov (.tmp 1)⟩,
 ⟨(some 61), none, .call (.fn 19) [(.tmp 59), (.tmp 60)]⟩,
 ⟨(some 58), none, .mov (.tmp 61)⟩,
 ⟨(some 62), none, .ext (.tmp 58) 0⟩,
 ⟨(some 63), none, .ext (.tmp 58) 1⟩,
 ⟨(some 64), none, .ext (.tmp 58) 2⟩,
 ⟨(some 19), none, .mov (.tmp 62)⟩,
 ⟨(some 20), none, .mov (.tmp 63)⟩,
 ⟨(some 21), none, .mov (.tmp 64)⟩])
 (.seq (.reg [⟨(some 66), none, .load true 5 (.tmp 4)⟩,
 ⟨(some 67), none, .mov (.tmp 1)⟩,
 ⟨(some 68), none, .call (.fn 20) [(.tmp 66), (.tmp 67)]⟩,
 ⟨(some 65), none, .mov (.tmp 68)⟩,
 ⟨(some 69), none, .ext (.tmp 65) 0⟩,
 ⟨(some 70), none, .ext (.tmp 65) 1⟩,
 ⟨(some 71), none, .ext (.tmp 65) 2⟩,
 ⟨(some 22), none, .mov (.tmp 69)⟩,
 ⟨(some 23), none, .mov (.tmp 70)⟩,
 ⟨(some 24), none, .mov (.tmp 71)⟩])
 (.seq (.reg [⟨(some 72), none, .load true 2 (.tmp 9)⟩,
 ⟨(some 73), none, .load true 2 (.tmp 11)⟩,
 ⟨(some 74), none, .eqs false [(some .i64), (some .i64)] (.tmp 72) (.tmp 73)⟩,
 ⟨(some 75), none, .mov (.tmp 74)⟩,
 ⟨(some 76), (some (75, true)), .mov (.tmp 10)⟩,
 ⟨(some 77), (some (75, true)), .mov (.tmp 12)⟩,
 ⟨(some 78), (some (75, true)), .bin .eql (.tmp 76) (.tmp 77)⟩,
 ⟨(some 79), none, .pick (.tmp 75) (.tmp 78) (.lit (.bool false))⟩,
 ⟨(some 80), none, .mov (.tmp 79)⟩,
 ⟨(some 81), (some (80, true)), .mov (.tmp 13)⟩,
 ⟨(some 82), (some (80, true)), .mov (.tmp 16)⟩,
 ⟨(some 83), (some (80, true)), .bin .eql (.tmp 81) (.tmp 82)⟩,
 ⟨(some 84), none, .pick (.tmp 80) (.tmp 83) (.lit (.bool false))⟩,
 ⟨(some 85), none, .mov (.tmp 84)⟩,
 ⟨(some 86), (some (85, true)), .mov (.tmp 14)⟩,
 ⟨(some 87), (some (85, true)), .mov (.tmp 17)⟩,
 ⟨(some 88), (some (85, true)), .eqb false (.tmp 86) (.tmp 87)⟩,
 ⟨(some 89), none, .pick (.tmp 85) (.tmp 88) (.lit (.bool false))⟩,
 ⟨(some 90), none, .mov (.tmp 89)⟩,
 ⟨(some 91), (some (90, true)), .mov (.tmp 15)⟩,
 ⟨(some 92), (some (90, true)), .mov (.tmp 18)⟩,
 ⟨(some 93), (some (90, true)), .bin .eql (.tmp 91) (.tmp 92)⟩,
 ⟨(some 94), none, .pick (.tmp 90) (.tmp 93) (.lit (.bool false))⟩,
 ⟨(some 95), none, .mov (.tmp 94)⟩,
 ⟨(some 96), (some (95, true)), .mov (.tmp 19)⟩,
 ⟨(some 97), (some (95, true)), .mov (.tmp 22)⟩,
 ⟨(some 98), (some (95, true)), .bin .eql (.tmp 96) (.tmp 97)⟩,
 ⟨(some 99), none, .pick (.tmp 95) (.tmp 98) (.lit (.bool false))⟩,
 ⟨(some 100), none, .mov (.tmp 99)⟩,
 ⟨(some 101), (some (100, true)), .mov (.tmp 20)⟩,
 ⟨(some 102), (some (100, true)), .mov (.tmp 23)⟩,
 ⟨(some 103), (some (100, true)), .bin .eql (.tmp 101) (.tmp 102)⟩,
 ⟨(some 104), none, .pick (.tmp 100) (.tmp 103) (.lit (.bool false))⟩,
 ⟨(some 105), none, .mov (.tmp 104)⟩,
 ⟨(some 106), (some (105, true)), .mov (.tmp 21)⟩,
 ⟨(some 107), (some (105, true)), .mov (.tmp 24)⟩,
 ⟨(some 108), (some (105, true)), .bin .eql (.tmp 106) (.tmp 107)⟩,
 ⟨(some 109), none, .pick (.tmp 105) (.tmp 108) (.lit (.bool false))⟩,
 ⟨(some 110), none, .mov (.tmp 109)⟩,
 ⟨(some 111), (some (110, true)), .call (.fn 14) []⟩,
 ⟨(some 112), none, .pick (.tmp 110) (.tmp 111) (.lit (.bool false))⟩,
 ⟨(some 8), none, .mov (.tmp 112)⟩])
 (.ret)))))))))
theorem k3 : FnC Tryd.prog 3 113 [] [] [.tmp 8] c3 4 := ⟨Tryd.f3, _, Tryd.func3, rfl, by decide, rfl, by decide, by kernel_rfl, by kernel_rfl⟩
/-- dipworks/dipworkslaw04.SurfLooks -/
def c4 : AC :=
 .seq (.reg [⟨(some 2), none, .box (.tmp 0)⟩,
 ⟨(some 4), none, .mov (.lit (.bool false))⟩])
 (.seq (.seq (.reg [⟨(some 21), none, .load true 5 (.tmp 2)⟩,
 ⟨(some 22), none, .call (.fn 13) [(.tmp 21)]⟩])
 (.cond (.tmp 22) (.seq (.reg [⟨(some 23), none, .call (.fn 14) []⟩,
 ⟨(some 4), none, .mov (.tmp 23)⟩])
 (.ret))
 (.skip)))
 (.seq (.reg [⟨(some 25), none, .load true 5 (.tmp 2)⟩,
 ⟨(some 26), none, .mov (.tmp 1)⟩,
 ⟨(some 27), none, .call (.fn 21) [(.tmp 25), (.tmp 26)]⟩,
 ⟨(some 24), none, .mov (.tmp 27)⟩,
 ⟨(some 28), none, .ext (.tmp 24) 0⟩,
 ⟨(some 29), none, .ext (.tmp 24) 1⟩,
 ⟨(some 5), none, .mov (.tmp 28)⟩,
 ⟨(some 6), none, .mov (.tmp 29)⟩])
 (.seq (.reg [⟨(some 31), none, .load true 5 (.tmp 2)⟩,
 ⟨(some 32), none, .mov (.tmp 1)⟩,
 ⟨(some 33), none, .call (.fn 22) [(.tmp 31), (.tmp 32)]⟩,
 ⟨(some 30), none, .mov (.tmp 33)⟩,
 ⟨(some 34), none, .ext (.tmp 30) 0⟩,
 ⟨(some 35), none, .ext (.tmp 30) 1⟩,
 ⟨(some 7), none, .mov (.tmp 34)⟩,
 ⟨(some 8), none, .mov (.tmp 35)⟩])
 (.seq (.reg [⟨(some 37), none, .load true 5 (.tmp 2)⟩,
 ⟨(some 38), none, .mov (.tmp 1)⟩,
 ⟨(some 39), none, .call (.fn 23) [(.tmp 37), (.tmp 38)]⟩,
 ⟨(some 36), none, .mov (.tmp 39)⟩,
 ⟨(some 40), none, .ext (.tmp 36) 0⟩,
 ⟨(some 41), none, .ext (.tmp 36) 1⟩,
 ⟨(some 9), none, .mov (.tmp 40)⟩,
 ⟨(some 10), none, .mov (.tmp 41)⟩])
 (.seq (.reg [⟨(some 43), none, .load true 5 (.tmp 2)⟩,
 ⟨(some 44), none, .mov (.tmp 1)⟩,
 ⟨(some 45), none, .call (.fn 24) [(.tmp 43), (.tmp 44)]⟩,
 ⟨(some 42), none, .mov (.tmp 45)⟩,
 ⟨(some 46), none, .ext (.tmp 42) 0⟩,
 ⟨(some 47), none, .ext (.tmp 42) 1⟩,
 ⟨(some 11), none, .mov (.tmp 46)⟩,
 ⟨(some 12), none, .mov (.tmp 47)⟩])
 (.seq (.reg [⟨(some 49), none, .load true 5 (.tmp 2)⟩,
 ⟨(some 50), none, .mov (.tmp 1)⟩,
 ⟨(some 51), none, .call (.fn 25) [(.tmp 49), (.tmp 50)]⟩,
 ⟨(some 48), none, .mov (.tmp 51)⟩,
 ⟨(some 52), none, .ext (.tmp 48) 0⟩,
 ⟨(some 53), none, .ext (.tmp 48) 1⟩,
 ⟨(some 13), none, .mov (.tmp 52)⟩,
 ⟨(some 14), none, .mov (.tmp 53)⟩])
 (.seq (.reg [⟨(some 55), none, .load true 5 (.tmp 2)⟩,
 ⟨(some 56), none, .mov (.tmp 1)⟩,
 ⟨(some 57), none, .call (.fn 26) [(.tmp 55), (.tmp 56)]⟩,
 ⟨(some 54), none, .mov (.tmp 57)⟩,
 ⟨(some 58), none, .ext (.tmp 54) 0⟩,
 ⟨(some 59), none, .ext (.tmp 54) 1⟩,
 ⟨(some 15), none, .mov (.tmp 58)⟩,
 ⟨(some 16), none, .mov (.tmp 59)⟩])
 (.seq (.reg [⟨(some 61), none, .load true 5 (.tmp 2)⟩,
 ⟨(some 62), none, .mov (.tmp 1)⟩,
 ⟨(some 63), none, .call (.fn 27) [(.tmp 61), (.tmp 62)]⟩,
 ⟨(some 60), none, .mov (.tmp 63)⟩,
 ⟨(some 64), none, .ext (.tmp 60) 0⟩,
 ⟨(some 65), none, .ext (.tmp 60) 1⟩,
 ⟨(some 17), none, .mov (.tmp 64)⟩,
 ⟨(some 18), none, .mov (.tmp 65)⟩])
 (.seq (.reg [⟨(some 67), none, .load true 5 (.tmp 2)⟩,
 ⟨(some 68), none, .mov (.tmp 1)⟩,
 ⟨(some 69), none, .call (.fn 28) [(.tmp 67), (.tmp 68)]⟩,
 ⟨(some 66), none, .mov (.tmp 69)⟩,
 ⟨(some 70), none, .ext (.tmp 66) 0⟩,
 ⟨(some 71), none, .ext (.tmp 66) 1⟩,
 ⟨(some 19), none, .mov (.tmp 70)⟩,
 ⟨(some 20), none, .mov (.tmp 71)⟩])
 (.seq (.reg [⟨(some 72), none, .mov (.tmp 5)⟩,
 ⟨(some 73), none, .mov (.tmp 7)⟩,
 ⟨(some 74), none, .bin .eql (.tmp 72) (.tmp 73)⟩,
 ⟨(some 75), none, .mov (.tmp 74)⟩,
 ⟨(some 76), (some (75, true)), .mov (.tmp 6)⟩,
 ⟨(some 77), (some (75, true)), .mov (.tmp 8)⟩,
 ⟨(some 78), (some (75, true)), .bin .eql (.tmp 76) (.tmp 77)⟩,
 ⟨(some 79), none, .pick (.tmp 75) (.tmp 78) (.lit (.bool false))⟩,
 ⟨(some 80), none, .mov (.tmp 79)⟩,
 ⟨(some 81), (some (80, true)), .mov (.tmp 9)⟩,
 ⟨(some 82), (some (80, true)), .mov (.tmp 11)⟩,
 ⟨(some 83), (some (80, true)), .bin .eql (.tmp 81) (.tmp 82)⟩,
 ⟨(some 84), none, .pick (.tmp 80) (.tmp 83) (.lit (.bool false))⟩,
 ⟨(some 85), none, .mov (.tmp 84)⟩,
 ⟨(some 86), (some (85, true)), .mov (.tmp 10)⟩,
 ⟨(some 87), (some (85, true)), .mov (.tmp 12)⟩,
 ⟨(some 88), (some (85, true)), .bin .eql (.tmp 86) (.tmp 87)⟩,
 ⟨(some 89), none, .pick (.tmp 85) (.tmp 88) (.lit (.bool false))⟩,
 ⟨(some 90), none, .mov (.tmp 89)⟩,
 ⟨(some 91), (some (90, true)), .mov (.tmp 13)⟩,
 ⟨(some 92), (some (90, true)), .mov (.tmp 15)⟩,
 ⟨(some 93), (some (90, true)), .bin .eql (.tmp 91) (.tmp 92)⟩,
 ⟨(some 94), none, .pick (.tmp 90) (.tmp 93) (.lit (.bool false))⟩,
 ⟨(some 95), none, .mov (.tmp 94)⟩,
 ⟨(some 96), (some (95, true)), .mov (.tmp 14)⟩,
 ⟨(some 97), (some (95, true)), .mov (.tmp 16)⟩,
 ⟨(some 98), (some (95, true)), .bin .eql (.tmp 96) (.tmp 97)⟩,
 ⟨(some 99), none, .pick (.tmp 95) (.tmp 98) (.lit (.bool false))⟩,
 ⟨(some 100), none, .mov (.tmp 99)⟩,
 ⟨(some 101), (some (100, true)), .mov (.tmp 17)⟩,
 ⟨(some 102), (some (100, true)), .mov (.tmp 19)⟩,
 ⟨(some 103), (some (100, true)), .bin .eql (.tmp 101) (.tmp 102)⟩,
 ⟨(some 104), none, .pick (.tmp 100) (.tmp 103) (.lit (.bool false))⟩,
 ⟨(some 105), none, .mov (.tmp 104)⟩,
 ⟨(some 106), (some (105, true)), .mov (.tmp 18)⟩,
 ⟨(some 107), (some (105, true)), .mov (.tmp 20)⟩,
 ⟨(some 108), (some (105, true)), .bin .eql (.tmp 106) (.tmp 107)⟩,
 ⟨(some 109), none, .pick (.tmp 105) (.tmp 108) (.lit (.bool false))⟩,
 ⟨(some 110), none, .mov (.tmp 109)⟩,
 ⟨(some 111), (some (110, true)), .call (.fn 14) []⟩,
 ⟨(some 112), none, .pick (.tmp 110) (.tmp 111) (.lit (.bool false))⟩,
 ⟨(some 4), none, .mov (.tmp 112)⟩])
 (.ret)))))))))))
theorem k4 : FnC Tryd.prog 4 113 [] [] [.tmp 4] c4 2 := ⟨Tryd.f4, _, Tryd.func4, rfl, by decide, rfl, by decide, by kernel_rfl, by kernel_rfl⟩
/-- dipworks/dipworkslaw04.SurfSaves -/
def c5 : AC :=
 .seq (.reg [⟨(some 2), none, .box (.tmp 0)⟩,
 ⟨(some 4), none, .mov (.lit (.bool false))⟩])
 (.seq (.seq (.reg [⟨(some 11), none, .load true 5 (.tmp 2)⟩,
 ⟨(some 12), none, .call (.fn 13) [(.tmp 11)]⟩,
 ⟨(some 13), none, .mov (.tmp 12)⟩,
 ⟨(some 14), (some (13, false)), .load true 5 (.tmp 2)⟩,
 ⟨(some 15), (some (13, false)), .call (.fn 29) [(.tmp 14)]⟩,
 ⟨(some 16), (some (13, false)), .mov (.tmp 15)⟩,
 ⟨(some 17), (some (16, true)), .faddr 4 (.tmp 2)⟩,
 ⟨(some 18), (some (16, true)), .load false 1 (.tmp 17)⟩,
 ⟨(some 19), (some (16, true)), .len (.tmp 18)⟩,
 ⟨(some 20), (some (16, true)), .bin .gtr (.tmp 19) (.lit (.int .i64 3))⟩,
 ⟨(some 21), (some (16, true)), .mov (.tmp 20)⟩,
 ⟨(some 22), (some (21, false)), .faddr 2 (.tmp 2)⟩,
 ⟨(some 23), (some (21, false)), .load false 1 (.tmp 22)⟩,
 ⟨(some 24), (some (21, false)), .len (.tmp 23)⟩,
 ⟨(some 25), (some (21, false)), .bin .gtr (.tmp 24) (.lit (.int .i64 5))⟩,
 ⟨(some 26), (some (16, true)), .pick (.tmp 21) (.lit (.bool true)) (.tmp 25)⟩,
 ⟨(some 27), (some (13, false)), .pick (.tmp 16) (.tmp 26) (.lit (.bool false))⟩,
 ⟨(some 28), none, .pick (.tmp 13) (.lit (.bool true)) (.tmp 27)⟩])
 (.cond (.tmp 28) (.seq (.reg [⟨(some 29), none, .call (.fn 14) []⟩,
 ⟨(some 4), none, .mov (.tmp 29)⟩])
 (.ret))
 (.skip)))
 (.seq (.reg [⟨(some 31), none, .load true 5 (.tmp 2)⟩,
 ⟨(some 32), none, .mov (.tmp 1)⟩,
 ⟨(some 33), none, .call (.fn 30) [(.tmp 31), (.tmp 32)]⟩,
 ⟨(some 30), none, .mov (.tmp 33)⟩,
 ⟨(some 34), none, .ext (.tmp 30) 0⟩,
 ⟨(some 35), none, .ext (.tmp 30) 1⟩,
 ⟨(some 36), none, .ext (.tmp 30) 2⟩,
 ⟨(some 5), none, .mov (.tmp 34)⟩,
 ⟨(some 6), none, .mov (.tmp 35)⟩,
 ⟨(some 7), none, .mov (.tmp 36)⟩])
 (.seq (.reg [⟨(some 38), none, .load true 5 (.tmp 2)⟩,
 ⟨(some 39), none, .mov (.tmp 1)⟩,
 ⟨(some 40), none, .call (.fn 31) [(.tmp 38), (.tmp 39)]⟩,
 ⟨(some 37), none, .mov (.tmp 40)⟩,
 ⟨(some 41), none, .ext (.tmp 37) 0⟩,
 ⟨(some 42), none, .ext (.tmp 37) 1⟩,
 ⟨(some 43), none, .ext (.tmp 37) 2⟩,
 ⟨(some 8), none, .mov (.tmp 41)⟩,
 ⟨(some 9), none, .mov (.tmp 42)⟩,
 ⟨(some 10), none, .mov (.tmp 43)⟩])
 (.seq (.reg [⟨(some 44), none, .mov (.tmp 5)⟩,
 ⟨(some 45), none, .mov (.tmp 8)⟩,
 ⟨(some 46), none, .call (.fn 32) [(.tmp 44), (.tmp 45)]⟩,
 ⟨(some 47), none, .mov (.tmp 46)⟩,
 ⟨(some 48), (some (47, true)), .mov (.tmp 6)⟩,
 ⟨(some 49), (some (47, true)), .mov (.tmp 9)⟩,
 ⟨(some 50), (some (47, true)), .bin .eql (.tmp 48) (.tmp 49)⟩,
 ⟨(some 51), none, .pick (.tmp 47) (.tmp 50) (.lit (.bool false))⟩,
 ⟨(some 52), none, .mov (.tmp 51)⟩,
 ⟨(some 53), (some (52, true)), .mov (.tmp 7)⟩,
 ⟨(some 54), (some (52, true)), .mov (.tmp 10)⟩,
 ⟨(some 55), (some (52, true)), .bin .eql (.tmp 53) (.tmp 54)⟩,
 ⟨(some 56), none, .pick (.tmp 52) (.tmp 55) (.lit (.bool false))⟩,
 ⟨(some 57), none, .mov (.tmp 56)⟩,
 ⟨(some 58), (some (57, true)), .call (.fn 14) []⟩,
 ⟨(some 59), none, .pick (.tmp 57) (.tmp 58) (.lit (.bool false))⟩,
 ⟨(some 4), none, .mov (.tmp 59)⟩])
 (.ret)))))
theorem k5 : FnC Tryd.prog 5 60 [] [] [.tmp 4] c5 2 := ⟨Tryd.f5, _, Tryd.func5, rfl, by decide, rfl, by decide, by kernel_rfl, by kernel_rfl⟩
end Go.Proofs.YtmahocdmkpigjaaDoor

/- The document's Save. -/
namespace Go.Proofs.YtmahocdmkpigjaaDoor
open Go Go.Ab

theorem rpower_ok (n : Nat) (hn : n ≤ 40) : ACall Tryd.prog 58 [.t (vi n)] [] (ret (vi ((2 ^ n : Nat) : Int))) := by
  refine ACall.walk k58 ?_
  unfold c58
  have hp : ∀ k : Nat, k ≤ 40 → 2 ^ k ≤ 2 ^ 40 := fun k hk => Nat.pow_le_pow_right (by omega) hk
  simp only [go_sem, Nat.reduceEqDiff, Nat.reduceAdd, Nat.reduceSub, Nat.reduceMul, Nat.reduceLT, Nat.reduceLeDiff, Nat.reduceMod, Nat.reduceDiv, Int.reduceToNat, Int.reduceLT, Int.reduceLE, Bool.not_true, Bool.not_false, reduceIte]
  refine awpL_loopK n (fun k s => s = { env := [(4, .t (vi k)), (3, .t (vi ((2 ^ k : Nat) : Int))), (0, .t (vi n))], σ := [] }) ⟨_, Sub.gc [] [4, 3, 0] rfl rfl, rfl⟩ ?_
  rintro k s hk rfl
  simp only [go_sem, Nat.reduceEqDiff, Nat.reduceAdd, Nat.reduceSub, Nat.reduceMul, Nat.reduceLT, Nat.reduceLeDiff, Nat.reduceMod, Nat.reduceDiv, Int.reduceToNat, Int.reduceLT, Int.reduceLE, Bool.not_true, Bool.not_false, reduceIte]
  refine BrL.mk (fun h => ?_) (fun h => ?_)
  · have hlt : k < n := by simpa using h
    have h1 := hp k (by omega)
    have e1 : IntKind.i64.wrap (2 * ((2 ^ k : Nat) : Int)) = ((2 ^ (k + 1) : Nat) : Int) := by
      rw [Nat.pow_succ]
      generalize 2 ^ k = q at *
      rw [wrap_id (by omega) (by omega)]; omega
    have e2 : IntKind.i64.wrap ((k : Int) + 1) = ((k + 1 : Nat) : Int) := by rw [wrap_id (by omega) (by omega)]; omega
    simp only [h, go_sem, Nat.reduceEqDiff, Nat.reduceAdd, Nat.reduceSub, Nat.reduceMul, Nat.reduceLT, Nat.reduceLeDiff, Nat.reduceMod, Nat.reduceDiv, Int.reduceToNat, Int.reduceLT, Int.reduceLE, Bool.not_true, Bool.not_false, reduceIte, e1, e2]
    exact ⟨hlt, _, Sub.gc [] [4, 3, 0] rfl rfl, rfl⟩
  · have : k = n := by have : ¬ (k : Int) < n := by simpa using h
                       omega
    subst this
    simp only [h, go_sem, Nat.reduceEqDiff, Nat.reduceAdd, Nat.reduceSub, Nat.reduceMul, Nat.reduceLT, Nat.reduceLeDiff, Nat.reduceMod, Nat.reduceDiv, Int.reduceToNat, Int.reduceLT, Int.reduceLE, Bool.not_true, Bool.not_false, reduceIte]
    exact finL_ret [] ⟨rfl, rfl, rfl, rfl, _, rfl, res_mk rfl⟩
def lfB (s : Su) (l : List Int) (i : Nat) : Bool := decide (l.getD i 0 < 0) && decide (0 ≤ fstH s i)
def leftR (s : Su) (l : List Int) : Nat := maskOf (lfB s l) l.length
theorem mask_add {p : Nat → Bool} {k : Nat} (h : p k = true) : maskOf p (k + 1) = maskOf p k + 2 ^ k := by
  show (if p k then maskOf p k ||| 2 ^ k else maskOf p k) = _
  rw [if_pos h, Nat.or_comm]
  have := Nat.two_pow_add_eq_or_of_lt (maskOf_lt p k) 1
  rw [Nat.mul_one] at this
  rw [← this, Nat.add_comm]
theorem mask_not {p : Nat → Bool} {k : Nat} (h : p k = false) : maskOf p (k + 1) = maskOf p k := by
  show (if p k then maskOf p k ||| 2 ^ k else maskOf p k) = _
  rw [h]; rfl
set_option maxRecDepth 8000 in
set_option maxHeartbeats 4000000 in
theorem rleft_ok (s : Su) (hs : s.OK) (l : List Int) (hl : l.length = s.huts.length) : ACall Tryd.prog 76 [.t (.agg (su5 s)), .t (tI' l)] [] (ret (vi (leftR s l : Nat))) := by
  refine ACall.walk k76 ?_
  have hn5 := hs.nh
  have qF : ∀ i, i < s.huts.length → ACall Tryd.prog 64 [.t (.agg (su5 s)), .t (vi i)] [] (ret (vi (fstH s i))) := fun i hi => by
    have hx : s.huts[i]? = some s.huts[i] := List.getElem?_eq_getElem hi
    have hFe : fstH s i = firstS s s.huts[i] := by
      unfold fstH
      rw [List.getD_eq_getElem?_getD, hx]; rfl
    rw [hFe]
    exact rfirst_ok s hs hx
  unfold leftR
  have hB : ∀ i, lfB s l i = (decide (l.getD i 0 < 0) && decide (0 ≤ fstH s i)) := fun i => rfl
  generalize fstH s = F at *
  generalize lfB s l = B at *
  unfold c76
  unfold su5 at qF
  unfold su5 tI'
  simp only [go_sem, Nat.reduceEqDiff, Nat.reduceAdd, Nat.reduceSub, Nat.reduceMul, Nat.reduceLT, Nat.reduceLeDiff, Nat.reduceMod, Nat.reduceDiv, Int.reduceToNat, Int.reduceLT, Int.reduceLE, Bool.not_true, Bool.not_false, reduceIte, Int.reduceEq, Int.reduceBEq, Int.reduceBNe, Int.reduceGT, Int.reduceGE, Int.reduceNeg, Int.reduceAdd, Int.reduceSub, Nat.reduceBEq, decide_true, decide_false, undef, beq_self_eq_true, bne_self_eq_false, Bool.and_true, Bool.true_and, Bool.and_false, Bool.false_and, Bool.or_true, Bool.true_or, Bool.or_false, Bool.false_or]
  refine awpL_loopK l.length (fun i st => st = { env := [(6, .t (vi i)), (5, .t (vi (maskOf B i : Nat))), (1, .t (tI' l)), (2, .ptr 0 0)], σ := [.cells ((su5 s).map .t)] })
    ⟨_, Sub.gc [0] [6, 5, 1, 2] rfl rfl, St.gc_mk rfl rfl rfl rfl⟩ ?_
  rintro i st hi rfl
  have hi0 : ((i : Int) < 0) = False := eq_false (by omega)
  have hwi : IntKind.i64.wrap ((i : Int) + 1) = ((i + 1 : Nat) : Int) := by rw [wrap_id (by omega) (by omega)]; omega
  cases g : decide ((i : Int) < l.length)
  · have hie : i = l.length := by have := of_decide_eq_false g; omega
    rw [hie] at g ⊢
    unfold su5 tI'
    simp only [go_sem, Nat.reduceEqDiff, Nat.reduceAdd, Nat.reduceSub, Nat.reduceMul, Nat.reduceLT, Nat.reduceLeDiff, Nat.reduceMod, Nat.reduceDiv, Int.reduceToNat, Int.reduceLT, Int.reduceLE, Bool.not_true, Bool.not_false, reduceIte, Int.reduceEq, Int.reduceBEq, Int.reduceBNe, Int.reduceGT, Int.reduceGE, Int.reduceNeg, Int.reduceAdd, Int.reduceSub, Nat.reduceBEq, decide_true, decide_false, undef, beq_self_eq_true, bne_self_eq_false, Bool.and_true, Bool.true_and, Bool.and_false, Bool.false_and, Bool.or_true, Bool.true_or, Bool.or_false, Bool.false_or, List.length_map, g]
    exact finL_ret [] ⟨rfl, rfl, rfl, rfl, _, rfl, res_mk rfl⟩
  have hil : i < l.length := by have := of_decide_eq_true g; omega
  have hii : ((i : Int) < (l.length : Int)) = True := eq_true (by omega)
  have hx : l[i]? = some l[i] := List.getElem?_eq_getElem hil
  have q1 := qF i (by omega)
  have qp := rpower_ok i (by omega)
  have hb := hB i
  rw [List.getD_eq_getElem?_getD, hx, Option.getD_some] at hb
  have hm := maskOf_lt B i
  have hp5 : 2 ^ i ≤ 2 ^ 5 := Nat.pow_le_pow_right (by omega) (by omega)
  have ma := mask_add (p := B) (k := i)
  have mn := mask_not (p := B) (k := i)
  generalize F i = f at *
  generalize l[i] = x at *
  generalize maskOf B i = m at *
  generalize maskOf B (i + 1) = m2 at *
  generalize B i = b at *
  generalize 2 ^ i = W at *
  have hwm : IntKind.i64.wrap ((m : Int) + (W : Int)) = ((m + W : Nat) : Int) := by rw [wrap_id (by omega) (by omega)]; omega
  unfold su5 tI'
  cases g1 : decide (x < 0)
  · rw [g1] at hb
    rw [mn hb]
    simp only [go_sem, Nat.reduceEqDiff, Nat.reduceAdd, Nat.reduceSub, Nat.reduceMul, Nat.reduceLT, Nat.reduceLeDiff, Nat.reduceMod, Nat.reduceDiv, Int.reduceToNat, Int.reduceLT, Int.reduceLE, Bool.not_true, Bool.not_false, reduceIte, Int.reduceEq, Int.reduceBEq, Int.reduceBNe, Int.reduceGT, Int.reduceGE, Int.reduceNeg, Int.reduceAdd, Int.reduceSub, Nat.reduceBEq, decide_true, decide_false, undef, beq_self_eq_true, bne_self_eq_false, Bool.and_true, Bool.true_and, Bool.and_false, Bool.false_and, Bool.or_true, Bool.true_or, Bool.or_false, Bool.false_or, List.length_map, g, hi0, hii, List.getElem?_map, hx, Option.map_some, g1, hwi]
    exact ⟨hil, _, Sub.gc [0] [6, 5, 1, 2] rfl rfl, rfl⟩
  rw [g1, Bool.true_and] at hb
  simp only [go_sem, Nat.reduceEqDiff, Nat.reduceAdd, Nat.reduceSub, Nat.reduceMul, Nat.reduceLT, Nat.reduceLeDiff, Nat.reduceMod, Nat.reduceDiv, Int.reduceToNat, Int.reduceLT, Int.reduceLE, Bool.not_true, Bool.not_false, reduceIte, Int.reduceEq, Int.reduceBEq, Int.reduceBNe, Int.reduceGT, Int.reduceGE, Int.reduceNeg, Int.reduceAdd, Int.reduceSub, Nat.reduceBEq, decide_true, decide_false, undef, beq_self_eq_true, bne_self_eq_false, Bool.and_true, Bool.true_and, Bool.and_false, Bool.false_and, Bool.or_true, Bool.true_or, Bool.or_false, Bool.false_or, List.length_map, g, hi0, hii, List.getElem?_map, hx, Option.map_some, g1]
  refine ACallL.quiet1 q1 rfl rfl rfl ?_
  cases g2 : decide (0 ≤ f)
  · have g2' : decide (f ≥ 0) = false := g2
    rw [g2] at hb
    rw [mn hb]
    simp only [go_sem, Nat.reduceEqDiff, Nat.reduceAdd, Nat.reduceSub, Nat.reduceMul, Nat.reduceLT, Nat.reduceLeDiff, Nat.reduceMod, Nat.reduceDiv, Int.reduceToNat, Int.reduceLT, Int.reduceLE, Bool.not_true, Bool.not_false, reduceIte, Int.reduceEq, Int.reduceBEq, Int.reduceBNe, Int.reduceGT, Int.reduceGE, Int.reduceNeg, Int.reduceAdd, Int.reduceSub, Nat.reduceBEq, decide_true, decide_false, undef, beq_self_eq_true, bne_self_eq_false, Bool.and_true, Bool.true_and, Bool.and_false, Bool.false_and, Bool.or_true, Bool.true_or, Bool.or_false, Bool.false_or, List.length_map, g2', hwi]
    exact ⟨hil, _, Sub.gc [0] [6, 5, 1, 2] rfl rfl, rfl⟩
  · have g2' : decide (f ≥ 0) = true := g2
    rw [g2] at hb
    rw [ma hb]
    simp only [go_sem, Nat.reduceEqDiff, Nat.reduceAdd, Nat.reduceSub, Nat.reduceMul, Nat.reduceLT, Nat.reduceLeDiff, Nat.reduceMod, Nat.reduceDiv, Int.reduceToNat, Int.reduceLT, Int.reduceLE, Bool.not_true, Bool.not_false, reduceIte, Int.reduceEq, Int.reduceBEq, Int.reduceBNe, Int.reduceGT, Int.reduceGE, Int.reduceNeg, Int.reduceAdd, Int.reduceSub, Nat.reduceBEq, decide_true, decide_false, undef, beq_self_eq_true, bne_self_eq_false, Bool.and_true, Bool.true_and, Bool.and_false, Bool.false_and, Bool.or_true, Bool.true_or, Bool.or_false, Bool.false_or, List.length_map, g2', hwi]
    refine ACallL.quiet1 qp rfl rfl rfl ?_
    simp only [go_sem, Nat.reduceEqDiff, Nat.reduceAdd, Nat.reduceSub, Nat.reduceMul, Nat.reduceLT, Nat.reduceLeDiff, Nat.reduceMod, Nat.reduceDiv, Int.reduceToNat, Int.reduceLT, Int.reduceLE, Bool.not_true, Bool.not_false, reduceIte, Int.reduceEq, Int.reduceBEq, Int.reduceBNe, Int.reduceGT, Int.reduceGE, Int.reduceNeg, Int.reduceAdd, Int.reduceSub, Nat.reduceBEq, decide_true, decide_false, undef, beq_self_eq_true, bne_self_eq_false, Bool.and_true, Bool.true_and, Bool.and_false, Bool.false_and, Bool.or_true, Bool.true_or, Bool.or_false, Bool.false_or, List.length_map, hwm, hwi]
    exact ⟨hil, _, Sub.gc [0] [6, 5, 1, 2] rfl rfl, rfl⟩
theorem rcheck_ok (s : Su) (hl : Lens s) (b : Bool) : ACall Tryd.prog 48 [.t (.agg (su5 s)), .t (vb b)] [] (ret (vi (if s.ok then (if b then 0 else 2) else 1))) := by
  refine ACall.walk k48 ?_
  have q := rsurf_ok s hl
  unfold c48
  unfold su5 at q ⊢
  simp only [go_sem, Nat.reduceEqDiff, Nat.reduceAdd, Nat.reduceSub, Nat.reduceMul, Nat.reduceLT, Nat.reduceLeDiff, Nat.reduceMod, Nat.reduceDiv, Int.reduceToNat, Int.reduceLT, Int.reduceLE, Bool.not_true, Bool.not_false, reduceIte, Int.reduceEq, Int.reduceBEq, Int.reduceBNe, Int.reduceGT, Int.reduceGE, Int.reduceNeg, Int.reduceAdd, Int.reduceSub, Nat.reduceBEq, decide_true, decide_false, undef, beq_self_eq_true, bne_self_eq_false, Bool.and_true, Bool.true_and, Bool.and_false, Bool.false_and, Bool.or_true, Bool.true_or, Bool.or_false, Bool.false_or]
  refine ACallL.quiet1 q rfl rfl rfl ?_
  cases s.ok
  · simp only [go_sem, Nat.reduceEqDiff, Nat.reduceAdd, Nat.reduceSub, Nat.reduceMul, Nat.reduceLT, Nat.reduceLeDiff, Nat.reduceMod, Nat.reduceDiv, Int.reduceToNat, Int.reduceLT, Int.reduceLE, Bool.not_true, Bool.not_false, reduceIte, Int.reduceEq, Int.reduceBEq, Int.reduceBNe, Int.reduceGT, Int.reduceGE, Int.reduceNeg, Int.reduceAdd, Int.reduceSub, Nat.reduceBEq, decide_true, decide_false, undef, beq_self_eq_true, bne_self_eq_false, Bool.and_true, Bool.true_and, Bool.and_false, Bool.false_and, Bool.or_true, Bool.true_or, Bool.or_false, Bool.false_or]
    exact finL_ret [] ⟨rfl, rfl, rfl, rfl, _, rfl, res_mk rfl⟩
  cases b
  · simp only [go_sem, Nat.reduceEqDiff, Nat.reduceAdd, Nat.reduceSub, Nat.reduceMul, Nat.reduceLT, Nat.reduceLeDiff, Nat.reduceMod, Nat.reduceDiv, Int.reduceToNat, Int.reduceLT, Int.reduceLE, Bool.not_true, Bool.not_false, reduceIte, Int.reduceEq, Int.reduceBEq, Int.reduceBNe, Int.reduceGT, Int.reduceGE, Int.reduceNeg, Int.reduceAdd, Int.reduceSub, Nat.reduceBEq, decide_true, decide_false, undef, beq_self_eq_true, bne_self_eq_false, Bool.and_true, Bool.true_and, Bool.and_false, Bool.false_and, Bool.or_true, Bool.true_or, Bool.or_false, Bool.false_or]
    exact finL_ret [] ⟨rfl, rfl, rfl, rfl, _, rfl, res_mk rfl⟩
  · simp only [go_sem, Nat.reduceEqDiff, Nat.reduceAdd, Nat.reduceSub, Nat.reduceMul, Nat.reduceLT, Nat.reduceLeDiff, Nat.reduceMod, Nat.reduceDiv, Int.reduceToNat, Int.reduceLT, Int.reduceLE, Bool.not_true, Bool.not_false, reduceIte, Int.reduceEq, Int.reduceBEq, Int.reduceBNe, Int.reduceGT, Int.reduceGE, Int.reduceNeg, Int.reduceAdd, Int.reduceSub, Nat.reduceBEq, decide_true, decide_false, undef, beq_self_eq_true, bne_self_eq_false, Bool.and_true, Bool.true_and, Bool.and_false, Bool.false_and, Bool.or_true, Bool.true_or, Bool.or_false, Bool.false_or]
    exact finL_ret [] ⟨rfl, rfl, rfl, rfl, _, rfl, res_mk rfl⟩
theorem rdrawn_ok (s : Su) (hs : s.OK) (many : Int) : ACall Tryd.prog 75 [.t (.agg (su5 s)), .t (vi many), .t (.lit (.slice none 0 0)), .t (.lit (.slice none 0 0))] [] (res (.ret (.t (.slice 1 ((rdr (fstH s) many s.huts.length []).map tI'))))) := by
  have h4 := hs.nh
  have h5 : 8 ^ s.huts.length ≤ 8 ^ 5 := Nat.pow_le_pow_right (by omega) h4
  have h := rdr_ok s hs many s.huts.length [] [] (by simp) (by simp; omega)
  have h1 : ACall Tryd.prog 75 [.t (.agg (su5 s)), .t (vi many), .t (.lit (.slice none 0 0)), .loc 0 0] [.row 1 []] (TrR (fstH s) many s.huts.length [] []) :=
    ACall.ghost (σ := [.row 1 []]) (args0 := [.t (.agg (su5 s)), .t (vi many), .loc 1 0, .loc 0 0]) 1 (by decide) h
  have h2 : ACall Tryd.prog 75 [.t (.agg (su5 s)), .t (vi many), .t (.lit (.slice none 0 0)), .t (.lit (.slice none 0 0))] [] (TrR (fstH s) many s.huts.length [] []) :=
    ACall.ghost (σ := []) (args0 := [.t (.agg (su5 s)), .t (vi many), .t (.lit (.slice none 0 0)), .loc 0 0]) 1 (by decide) h1
  refine h2.strike.mono ?_
  rintro o σ ⟨o0, σ0, ⟨xs, rfl, rfl, hx⟩, rfl, rfl⟩
  refine ⟨?_, rfl⟩
  show Out.ret (E.gc [] [.row 1 xs, rowI []] 12 (.loc 0 xs.length)) = _
  congr 1
  refine gc_locE (n := 10) rfl rfl rfl ?_
  refine gc_rowR (n := 9) ?_
  rcases hx with rfl | ⟨h0, rfl⟩
  · exact .inl (by rw [List.nil_append])
  · refine .inr ⟨[], 1, [], rfl, rfl, rfl, ?_⟩
    rw [h0]; rfl
end Go.Proofs.YtmahocdmkpigjaaDoor

/- The document's Save: the walk; what it finds. -/
namespace Go.Proofs.YtmahocdmkpigjaaDoor
open Go Go.Ab

def btr (a b : Nat) : Bool := decide ((size a : Int) < (size b : Int)) || (decide ((size a : Int) = (size b : Int)) && decide ((a : Int) < (b : Int)))
def stepR (s : Su) (b x : List Int) : List Int := if btr (leftR s x) (leftR s b) then x else b
def listsR (s : Su) (many : Int) : List (List Int) := rdr (fstH s) many s.huts.length []
def bestR (s : Su) (many : Int) : List Int := (listsR s many).foldl (stepR s) ((listsR s many).headD [])
def rsaveO (s : Su) (many : Int) : Out := if s.ok then (if wI many 0 5 then .ret (.tup [.t (tI' (bestR s many)), .t (vi (leftR s (bestR s many) : Nat)), .t (vi 0)]) else .ret (.tup [.t (.lit (.slice none 0 0)), .t (vi 0), .t (vi 2)])) else .ret (.tup [.t (.lit (.slice none 0 0)), .t (vi 0), .t (vi 1)])
theorem rdr_mem_len (F : Nat → Int) (many : Int) : ∀ (l : Nat) (bg : List Int), ∀ x ∈ rdr F many l bg, x.length = bg.length + l
  | 0, bg, x, h => by
    simp [rdr] at h
    rw [h]; rfl
  | l + 1, bg, x, h => by
    unfold rdr at h
    rcases List.mem_append.1 h with h | h
    · have := rdr_mem_len F many l _ x h
      simp at this; omega
    · obtain ⟨j, -, h⟩ := List.mem_flatMap.1 h
      split at h
      · have := rdr_mem_len F many l _ x h
        simp at this; omega
      · cases h
theorem rdr_ne (F : Nat → Int) (many : Int) : ∀ (l : Nat) (bg : List Int), rdr F many l bg ≠ []
  | 0, bg => by simp [rdr]
  | l + 1, bg => by
    unfold rdr
    intro h
    exact rdr_ne F many l _ (List.append_eq_nil_iff.1 h).1
theorem fold_mem (s : Su) : ∀ (L : List (List Int)) (b : List Int), L.foldl (stepR s) b = b ∨ L.foldl (stepR s) b ∈ L
  | [], b => .inl rfl
  | x :: L, b => by
    rw [List.foldl_cons]
    rcases fold_mem s L (stepR s b x) with h | h
    · rw [h]
      unfold stepR
      split
      · exact .inr (by simp)
      · exact .inl rfl
    · exact .inr (by simp [h])
theorem lists_ne (s : Su) (many : Int) : ∃ x L, listsR s many = x :: L := by
  cases h : listsR s many with
  | nil => exact absurd h (rdr_ne _ _ _ _)
  | cons x L => exact ⟨x, L, rfl⟩
theorem best_mem (s : Su) (many : Int) : bestR s many ∈ listsR s many := by
  unfold bestR
  rcases fold_mem s (listsR s many) ((listsR s many).headD []) with h | h
  · rw [h]
    obtain ⟨x, L, e⟩ := lists_ne s many
    rw [e]; simp
  · exact h
set_option maxRecDepth 8000 in
set_option maxHeartbeats 8000000 in
theorem rsave_ok (s : Su) (hl : Lens s) (many : Int) : ACall Tryd.prog 31 [.t (.agg (su5 s)), .t (vi many)] [] (res (rsaveO s many)) := by
  refine ACall.walk k31 ?_
  have q71 := rin_ok many 0 5
  have q48 := fun b => rcheck_ok s hl b
  unfold rsaveO
  unfold c31
  by_cases hok : s.ok = true
  rotate_left
  · have hok : s.ok = false := by simpa using hok
    rw [hok] at q48 ⊢
    unfold su5 at q48 ⊢
    simp only [Bool.false_eq_true, if_false] at q48 ⊢
    simp only [go_sem, Nat.reduceEqDiff, Nat.reduceAdd, Nat.reduceSub, Nat.reduceMul, Nat.reduceLT, Nat.reduceLeDiff, Nat.reduceMod, Nat.reduceDiv, Int.reduceToNat, Int.reduceLT, Int.reduceLE, Bool.not_true, Bool.not_false, reduceIte, Int.reduceEq, Int.reduceBEq, Int.reduceBNe, Int.reduceGT, Int.reduceGE, Int.reduceNeg, Int.reduceAdd, Int.reduceSub, Nat.reduceBEq, decide_true, decide_false, undef, beq_self_eq_true, bne_self_eq_false, Bool.and_true, Bool.true_and, Bool.and_false, Bool.false_and, Bool.or_true, Bool.true_or, Bool.or_false, Bool.false_or]
    refine ACallL.quiet1 q71 rfl rfl rfl ?_
    simp only [go_sem, Nat.reduceEqDiff, Nat.reduceAdd, Nat.reduceSub, Nat.reduceMul, Nat.reduceLT, Nat.reduceLeDiff, Nat.reduceMod, Nat.reduceDiv, Int.reduceToNat, Int.reduceLT, Int.reduceLE, Bool.not_true, Bool.not_false, reduceIte, Int.reduceEq, Int.reduceBEq, Int.reduceBNe, Int.reduceGT, Int.reduceGE, Int.reduceNeg, Int.reduceAdd, Int.reduceSub, Nat.reduceBEq, decide_true, decide_false, undef, beq_self_eq_true, bne_self_eq_false, Bool.and_true, Bool.true_and, Bool.and_false, Bool.false_and, Bool.or_true, Bool.true_or, Bool.or_false, Bool.false_or]
    refine ACallL.quiet1 (q48 _) rfl rfl rfl ?_
    simp only [go_sem, Nat.reduceEqDiff, Nat.reduceAdd, Nat.reduceSub, Nat.reduceMul, Nat.reduceLT, Nat.reduceLeDiff, Nat.reduceMod, Nat.reduceDiv, Int.reduceToNat, Int.reduceLT, Int.reduceLE, Bool.not_true, Bool.not_false, reduceIte, Int.reduceEq, Int.reduceBEq, Int.reduceBNe, Int.reduceGT, Int.reduceGE, Int.reduceNeg, Int.reduceAdd, Int.reduceSub, Nat.reduceBEq, decide_true, decide_false, undef, beq_self_eq_true, bne_self_eq_false, Bool.and_true, Bool.true_and, Bool.and_false, Bool.false_and, Bool.or_true, Bool.true_or, Bool.or_false, Bool.false_or]
    exact finL_ret [] ⟨rfl, rfl, rfl, rfl, _, rfl, res_mk rfl⟩
  have hs := (s.ok_iff).1 hok
  rw [hok] at q48 ⊢
  simp only [if_true] at q48 ⊢
  cases hw : wI many 0 5
  · rw [hw] at q71
    have q48 := q48 false
    simp only [Bool.false_eq_true, if_false] at q48 ⊢
    unfold su5 at q48 ⊢
    simp only [go_sem, Nat.reduceEqDiff, Nat.reduceAdd, Nat.reduceSub, Nat.reduceMul, Nat.reduceLT, Nat.reduceLeDiff, Nat.reduceMod, Nat.reduceDiv, Int.reduceToNat, Int.reduceLT, Int.reduceLE, Bool.not_true, Bool.not_false, reduceIte, Int.reduceEq, Int.reduceBEq, Int.reduceBNe, Int.reduceGT, Int.reduceGE, Int.reduceNeg, Int.reduceAdd, Int.reduceSub, Nat.reduceBEq, decide_true, decide_false, undef, beq_self_eq_true, bne_self_eq_false, Bool.and_true, Bool.true_and, Bool.and_false, Bool.false_and, Bool.or_true, Bool.true_or, Bool.or_false, Bool.false_or]
    refine ACallL.quiet1 q71 rfl rfl rfl ?_
    simp only [go_sem, Nat.reduceEqDiff, Nat.reduceAdd, Nat.reduceSub, Nat.reduceMul, Nat.reduceLT, Nat.reduceLeDiff, Nat.reduceMod, Nat.reduceDiv, Int.reduceToNat, Int.reduceLT, Int.reduceLE, Bool.not_true, Bool.not_false, reduceIte, Int.reduceEq, Int.reduceBEq, Int.reduceBNe, Int.reduceGT, Int.reduceGE, Int.reduceNeg, Int.reduceAdd, Int.reduceSub, Nat.reduceBEq, decide_true, decide_false, undef, beq_self_eq_true, bne_self_eq_false, Bool.and_true, Bool.true_and, Bool.and_false, Bool.false_and, Bool.or_true, Bool.true_or, Bool.or_false, Bool.false_or]
    refine ACallL.quiet1 q48 rfl rfl rfl ?_
    simp only [go_sem, Nat.reduceEqDiff, Nat.reduceAdd, Nat.reduceSub, Nat.reduceMul, Nat.reduceLT, Nat.reduceLeDiff, Nat.reduceMod, Nat.reduceDiv, Int.reduceToNat, Int.reduceLT, Int.reduceLE, Bool.not_true, Bool.not_false, reduceIte, Int.reduceEq, Int.reduceBEq, Int.reduceBNe, Int.reduceGT, Int.reduceGE, Int.reduceNeg, Int.reduceAdd, Int.reduceSub, Nat.reduceBEq, decide_true, decide_false, undef, beq_self_eq_true, bne_self_eq_false, Bool.and_true, Bool.true_and, Bool.and_false, Bool.false_and, Bool.or_true, Bool.true_or, Bool.or_false, Bool.false_or]
    exact finL_ret [] ⟨rfl, rfl, rfl, rfl, _, rfl, res_mk rfl⟩
  rw [hw] at q71
  have q48 := q48 true
  simp only [if_true] at q48 ⊢
  have qd := rdrawn_ok s hs many
  have hmem : ∀ x ∈ listsR s many, x.length = s.huts.length := fun x hx => by
    have := rdr_mem_len _ _ _ _ x hx
    simpa using this
  have hbm := hmem _ (best_mem s many)
  have hlen : (listsR s many).length ≤ 8 ^ s.huts.length := rdr_len _ (fun i => (first_rng s hs _).2) many _ _
  have h5 : 8 ^ s.huts.length ≤ 8 ^ 5 := Nat.pow_le_pow_right (by omega) hs.nh
  obtain ⟨x0, L0, e0⟩ := lists_ne s many
  have hb0 : bestR s many = (listsR s many).foldl (stepR s) x0 := by unfold bestR; rw [e0]; rfl
  have h0 : (listsR s many)[0]? = some x0 := by rw [e0]; rfl
  have hx0 := hmem x0 (by rw [e0]; simp)
  have hpos : 0 < (listsR s many).length := by rw [e0]; simp
  have hfold : ∀ i, ((listsR s many).take i).foldl (stepR s) x0 = x0 ∨ ((listsR s many).take i).foldl (stepR s) x0 ∈ listsR s many := fun i => by
    rcases fold_mem s ((listsR s many).take i) x0 with h | h
    · exact .inl h
    · exact .inr (List.mem_of_mem_take h)
  have hfl : ∀ i, (((listsR s many).take i).foldl (stepR s) x0).length = s.huts.length := fun i => by
    rcases hfold i with h | h
    · rw [h]; exact hx0
    · exact hmem _ h
  rw [hb0] at hbm ⊢
  have qd : ACall Tryd.prog 75 [.t (.agg (su5 s)), .t (vi many), .t (.lit (.slice none 0 0)), .t (.lit (.slice none 0 0))] [] (res (.ret (.t (.slice 1 ((listsR s many).map tI'))))) := qd
  clear hb0 e0
  generalize listsR s many = L at *
  have qL := fun (l : List Int) (h : l.length = s.huts.length) => rleft_ok s hs l h
  have hn5 := hs.nh
  have hlt : ∀ l : List Int, l.length = s.huts.length → leftR s l < 1024 := fun l h => by
    have h1 : leftR s l < 2 ^ l.length := maskOf_lt _ _
    have h2 : 2 ^ l.length ≤ 2 ^ 5 := Nat.pow_le_pow_right (by omega) (by omega)
    omega
  unfold tI' at qd qL
  have hLp : ((0 : Int) < (L.length : Int)) = True := eq_true (by omega)
  unfold su5 at q48 qd qL ⊢
  simp only [go_sem, Nat.reduceEqDiff, Nat.reduceAdd, Nat.reduceSub, Nat.reduceMul, Nat.reduceLT, Nat.reduceLeDiff, Nat.reduceMod, Nat.reduceDiv, Int.reduceToNat, Int.reduceLT, Int.reduceLE, Bool.not_true, Bool.not_false, reduceIte, Int.reduceEq, Int.reduceBEq, Int.reduceBNe, Int.reduceGT, Int.reduceGE, Int.reduceNeg, Int.reduceAdd, Int.reduceSub, Nat.reduceBEq, decide_true, decide_false, undef, beq_self_eq_true, bne_self_eq_false, Bool.and_true, Bool.true_and, Bool.and_false, Bool.false_and, Bool.or_true, Bool.true_or, Bool.or_false, Bool.false_or]
  refine ACallL.quiet1 q71 rfl rfl rfl ?_
  simp only [go_sem, Nat.reduceEqDiff, Nat.reduceAdd, Nat.reduceSub, Nat.reduceMul, Nat.reduceLT, Nat.reduceLeDiff, Nat.reduceMod, Nat.reduceDiv, Int.reduceToNat, Int.reduceLT, Int.reduceLE, Bool.not_true, Bool.not_false, reduceIte, Int.reduceEq, Int.reduceBEq, Int.reduceBNe, Int.reduceGT, Int.reduceGE, Int.reduceNeg, Int.reduceAdd, Int.reduceSub, Nat.reduceBEq, decide_true, decide_false, undef, beq_self_eq_true, bne_self_eq_false, Bool.and_true, Bool.true_and, Bool.and_false, Bool.false_and, Bool.or_true, Bool.true_or, Bool.or_false, Bool.false_or]
  refine ACallL.quiet1 q48 rfl rfl rfl ?_
  simp only [go_sem, Nat.reduceEqDiff, Nat.reduceAdd, Nat.reduceSub, Nat.reduceMul, Nat.reduceLT, Nat.reduceLeDiff, Nat.reduceMod, Nat.reduceDiv, Int.reduceToNat, Int.reduceLT, Int.reduceLE, Bool.not_true, Bool.not_false, reduceIte, Int.reduceEq, Int.reduceBEq, Int.reduceBNe, Int.reduceGT, Int.reduceGE, Int.reduceNeg, Int.reduceAdd, Int.reduceSub, Nat.reduceBEq, decide_true, decide_false, undef, beq_self_eq_true, bne_self_eq_false, Bool.and_true, Bool.true_and, Bool.and_false, Bool.false_and, Bool.or_true, Bool.true_or, Bool.or_false, Bool.false_or]
  refine ACallL.fresh1 qd rfl ?_
  simp only [go_sem, Nat.reduceEqDiff, Nat.reduceAdd, Nat.reduceSub, Nat.reduceMul, Nat.reduceLT, Nat.reduceLeDiff, Nat.reduceMod, Nat.reduceDiv, Int.reduceToNat, Int.reduceLT, Int.reduceLE, Bool.not_true, Bool.not_false, reduceIte, Int.reduceEq, Int.reduceBEq, Int.reduceBNe, Int.reduceGT, Int.reduceGE, Int.reduceNeg, Int.reduceAdd, Int.reduceSub, Nat.reduceBEq, decide_true, decide_false, undef, beq_self_eq_true, bne_self_eq_false, Bool.and_true, Bool.true_and, Bool.and_false, Bool.false_and, Bool.or_true, Bool.true_or, Bool.or_false, Bool.false_or, List.length_map, hLp, List.getElem?_map, h0, Option.map_some]
  refine awpL_loopK L.length (fun i st => st = { env := [(10, .t (vi i)), (8, .t (.slice 1 (L.map tI'))), (9, .t (tI' ((L.take i).foldl (stepR s) x0))), (1, .t (vi many)), (2, .ptr 0 0)], σ := [.cells ((su5 s).map .t)] })
    ⟨_, Sub.gc [0] [10, 8, 9, 1, 2] rfl rfl, St.gc_mk rfl rfl rfl rfl⟩ ?_
  rintro i st hi rfl
  have hi0 : ((i : Int) < 0) = False := eq_false (by omega)
  have hwi : IntKind.i64.wrap ((i : Int) + 1) = ((i + 1 : Nat) : Int) := by rw [wrap_id (by omega) (by omega)]; omega
  have hbl := hfl i
  cases g : decide ((i : Int) < L.length)
  · have hie : i = L.length := by have := of_decide_eq_false g; omega
    rw [hie] at g hbl ⊢
    rw [List.take_length] at hbl ⊢
    generalize L.foldl (stepR s) x0 = b at *
    have q1 := qL b hbl
    unfold su5 tI'
    simp only [go_sem, Nat.reduceEqDiff, Nat.reduceAdd, Nat.reduceSub, Nat.reduceMul, Nat.reduceLT, Nat.reduceLeDiff, Nat.reduceMod, Nat.reduceDiv, Int.reduceToNat, Int.reduceLT, Int.reduceLE, Bool.not_true, Bool.not_false, reduceIte, Int.reduceEq, Int.reduceBEq, Int.reduceBNe, Int.reduceGT, Int.reduceGE, Int.reduceNeg, Int.reduceAdd, Int.reduceSub, Nat.reduceBEq, decide_true, decide_false, undef, beq_self_eq_true, bne_self_eq_false, Bool.and_true, Bool.true_and, Bool.and_false, Bool.false_and, Bool.or_true, Bool.true_or, Bool.or_false, Bool.false_or, List.length_map, g]
    refine ACallL.quiet1 q1 rfl rfl rfl ?_
    simp only [go_sem, Nat.reduceEqDiff, Nat.reduceAdd, Nat.reduceSub, Nat.reduceMul, Nat.reduceLT, Nat.reduceLeDiff, Nat.reduceMod, Nat.reduceDiv, Int.reduceToNat, Int.reduceLT, Int.reduceLE, Bool.not_true, Bool.not_false, reduceIte, Int.reduceEq, Int.reduceBEq, Int.reduceBNe, Int.reduceGT, Int.reduceGE, Int.reduceNeg, Int.reduceAdd, Int.reduceSub, Nat.reduceBEq, decide_true, decide_false, undef, beq_self_eq_true, bne_self_eq_false, Bool.and_true, Bool.true_and, Bool.and_false, Bool.false_and, Bool.or_true, Bool.true_or, Bool.or_false, Bool.false_or]
    exact finL_ret [] ⟨rfl, rfl, rfl, rfl, _, rfl, res_mk rfl⟩
  have hil : i < L.length := by have := of_decide_eq_true g; omega
  have hii : ((i : Int) < (L.length : Int)) = True := eq_true (by omega)
  have hx : L[i]? = some L[i] := List.getElem?_eq_getElem hil
  have hxl := hmem _ (List.getElem_mem hil)
  have tk : L.take (i + 1) = L.take i ++ [L[i]] := List.take_succ_eq_append_getElem hil
  rw [tk, List.foldl_append, List.foldl_cons, List.foldl_nil]
  generalize L[i] = x at *
  generalize (L.take i).foldl (stepR s) x0 = b at *
  have q1 := qL x hxl
  have q2 := qL b hbl
  have z1 := rsize_ok _ (hlt x hxl)
  have z2 := rsize_ok _ (hlt b hbl)
  have eS : stepR s b x = if btr (leftR s x) (leftR s b) then x else b := rfl
  rw [eS]
  unfold btr
  generalize leftR s x = lx at *
  generalize leftR s b = lb at *
  generalize size lx = sx at *
  generalize size lb = sb at *
  have hx1 : tI' x = .slice 1 (x.map vi) := rfl
  have hbs : ∀ c : Bool, tI' (if c = true then x else b) = if c = true then .slice 1 (x.map vi) else .slice 1 (b.map vi) := fun c => by split <;> rfl
  rw [hbs]
  have hb1 : tI' b = .slice 1 (b.map vi) := rfl
  rw [hb1]
  unfold su5
  simp only [go_sem, Nat.reduceEqDiff, Nat.reduceAdd, Nat.reduceSub, Nat.reduceMul, Nat.reduceLT, Nat.reduceLeDiff, Nat.reduceMod, Nat.reduceDiv, Int.reduceToNat, Int.reduceLT, Int.reduceLE, Bool.not_true, Bool.not_false, reduceIte, Int.reduceEq, Int.reduceBEq, Int.reduceBNe, Int.reduceGT, Int.reduceGE, Int.reduceNeg, Int.reduceAdd, Int.reduceSub, Nat.reduceBEq, decide_true, decide_false, undef, beq_self_eq_true, bne_self_eq_false, Bool.and_true, Bool.true_and, Bool.and_false, Bool.false_and, Bool.or_true, Bool.true_or, Bool.or_false, Bool.false_or, List.length_map, g, hi0, hii, List.getElem?_map, hx, Option.map_some, hx1]
  refine ACallL.quiet1 q1 rfl rfl rfl ?_
  simp only [go_sem, Nat.reduceEqDiff, Nat.reduceAdd, Nat.reduceSub, Nat.reduceMul, Nat.reduceLT, Nat.reduceLeDiff, Nat.reduceMod, Nat.reduceDiv, Int.reduceToNat, Int.reduceLT, Int.reduceLE, Bool.not_true, Bool.not_false, reduceIte, Int.reduceEq, Int.reduceBEq, Int.reduceBNe, Int.reduceGT, Int.reduceGE, Int.reduceNeg, Int.reduceAdd, Int.reduceSub, Nat.reduceBEq, decide_true, decide_false, undef, beq_self_eq_true, bne_self_eq_false, Bool.and_true, Bool.true_and, Bool.and_false, Bool.false_and, Bool.or_true, Bool.true_or, Bool.or_false, Bool.false_or, List.length_map, hi0, hii, List.getElem?_map, hx, Option.map_some, hx1]
  refine ACallL.quiet1 q2 rfl rfl rfl ?_
  simp only [go_sem, Nat.reduceEqDiff, Nat.reduceAdd, Nat.reduceSub, Nat.reduceMul, Nat.reduceLT, Nat.reduceLeDiff, Nat.reduceMod, Nat.reduceDiv, Int.reduceToNat, Int.reduceLT, Int.reduceLE, Bool.not_true, Bool.not_false, reduceIte, Int.reduceEq, Int.reduceBEq, Int.reduceBNe, Int.reduceGT, Int.reduceGE, Int.reduceNeg, Int.reduceAdd, Int.reduceSub, Nat.reduceBEq, decide_true, decide_false, undef, beq_self_eq_true, bne_self_eq_false, Bool.and_true, Bool.true_and, Bool.and_false, Bool.false_and, Bool.or_true, Bool.true_or, Bool.or_false, Bool.false_or, List.length_map, hi0, hii, List.getElem?_map, hx, Option.map_some, hx1]
  refine ACallL.quiet1 z1 rfl rfl rfl ?_
  simp only [go_sem, Nat.reduceEqDiff, Nat.reduceAdd, Nat.reduceSub, Nat.reduceMul, Nat.reduceLT, Nat.reduceLeDiff, Nat.reduceMod, Nat.reduceDiv, Int.reduceToNat, Int.reduceLT, Int.reduceLE, Bool.not_true, Bool.not_false, reduceIte, Int.reduceEq, Int.reduceBEq, Int.reduceBNe, Int.reduceGT, Int.reduceGE, Int.reduceNeg, Int.reduceAdd, Int.reduceSub, Nat.reduceBEq, decide_true, decide_false, undef, beq_self_eq_true, bne_self_eq_false, Bool.and_true, Bool.true_and, Bool.and_false, Bool.false_and, Bool.or_true, Bool.true_or, Bool.or_false, Bool.false_or]
  refine ACallL.quiet1 z2 rfl rfl rfl ?_
  cases c1 : decide ((sx : Int) < (sb : Int))
  rotate_left
  · rw [show (if (true || (decide ((sx : Int) = (sb : Int)) && decide ((lx : Int) < (lb : Int)))) = true then T.slice 1 (x.map vi) else .slice 1 (b.map vi)) = .slice 1 (x.map vi) from by simp]
    simp only [go_sem, Nat.reduceEqDiff, Nat.reduceAdd, Nat.reduceSub, Nat.reduceMul, Nat.reduceLT, Nat.reduceLeDiff, Nat.reduceMod, Nat.reduceDiv, Int.reduceToNat, Int.reduceLT, Int.reduceLE, Bool.not_true, Bool.not_false, reduceIte, Int.reduceEq, Int.reduceBEq, Int.reduceBNe, Int.reduceGT, Int.reduceGE, Int.reduceNeg, Int.reduceAdd, Int.reduceSub, Nat.reduceBEq, decide_true, decide_false, undef, beq_self_eq_true, bne_self_eq_false, Bool.and_true, Bool.true_and, Bool.and_false, Bool.false_and, Bool.or_true, Bool.true_or, Bool.or_false, Bool.false_or, c1, List.length_map, hi0, hii, List.getElem?_map, hx, Option.map_some, hx1, hwi]
    exact ⟨hil, _, Sub.gc [0] [10, 8, 9, 1, 2] rfl rfl, rfl⟩
  rw [Bool.false_or]
  simp only [go_sem, Nat.reduceEqDiff, Nat.reduceAdd, Nat.reduceSub, Nat.reduceMul, Nat.reduceLT, Nat.reduceLeDiff, Nat.reduceMod, Nat.reduceDiv, Int.reduceToNat, Int.reduceLT, Int.reduceLE, Bool.not_true, Bool.not_false, reduceIte, Int.reduceEq, Int.reduceBEq, Int.reduceBNe, Int.reduceGT, Int.reduceGE, Int.reduceNeg, Int.reduceAdd, Int.reduceSub, Nat.reduceBEq, decide_true, decide_false, undef, beq_self_eq_true, bne_self_eq_false, Bool.and_true, Bool.true_and, Bool.and_false, Bool.false_and, Bool.or_true, Bool.true_or, Bool.or_false, Bool.false_or, c1]
  refine ACallL.quiet1 z1 rfl rfl rfl ?_
  simp only [go_sem, Nat.reduceEqDiff, Nat.reduceAdd, Nat.reduceSub, Nat.reduceMul, Nat.reduceLT, Nat.reduceLeDiff, Nat.reduceMod, Nat.reduceDiv, Int.reduceToNat, Int.reduceLT, Int.reduceLE, Bool.not_true, Bool.not_false, reduceIte, Int.reduceEq, Int.reduceBEq, Int.reduceBNe, Int.reduceGT, Int.reduceGE, Int.reduceNeg, Int.reduceAdd, Int.reduceSub, Nat.reduceBEq, decide_true, decide_false, undef, beq_self_eq_true, bne_self_eq_false, Bool.and_true, Bool.true_and, Bool.and_false, Bool.false_and, Bool.or_true, Bool.true_or, Bool.or_false, Bool.false_or]
  refine ACallL.quiet1 z2 rfl rfl rfl ?_
  cases c2 : ((sx : Int) == (sb : Int))
  · rw [show decide ((sx : Int) = (sb : Int)) = false from decide_eq_false (by simpa using c2)]
    rw [show (if (false && decide ((lx : Int) < (lb : Int))) = true then T.slice 1 (x.map vi) else .slice 1 (b.map vi)) = .slice 1 (b.map vi) from by simp]
    simp only [go_sem, Nat.reduceEqDiff, Nat.reduceAdd, Nat.reduceSub, Nat.reduceMul, Nat.reduceLT, Nat.reduceLeDiff, Nat.reduceMod, Nat.reduceDiv, Int.reduceToNat, Int.reduceLT, Int.reduceLE, Bool.not_true, Bool.not_false, reduceIte, Int.reduceEq, Int.reduceBEq, Int.reduceBNe, Int.reduceGT, Int.reduceGE, Int.reduceNeg, Int.reduceAdd, Int.reduceSub, Nat.reduceBEq, decide_true, decide_false, undef, beq_self_eq_true, bne_self_eq_false, Bool.and_true, Bool.true_and, Bool.and_false, Bool.false_and, Bool.or_true, Bool.true_or, Bool.or_false, Bool.false_or, c2, hwi]
    exact ⟨hil, _, Sub.gc [0] [10, 8, 9, 1, 2] rfl rfl, rfl⟩
  rw [show decide ((sx : Int) = (sb : Int)) = true from decide_eq_true (by simpa using c2), Bool.true_and]
  cases c3 : decide ((lx : Int) < (lb : Int))
  · rw [show (if (false : Bool) = true then T.slice 1 (x.map vi) else .slice 1 (b.map vi)) = .slice 1 (b.map vi) from by simp]
    simp only [go_sem, Nat.reduceEqDiff, Nat.reduceAdd, Nat.reduceSub, Nat.reduceMul, Nat.reduceLT, Nat.reduceLeDiff, Nat.reduceMod, Nat.reduceDiv, Int.reduceToNat, Int.reduceLT, Int.reduceLE, Bool.not_true, Bool.not_false, reduceIte, Int.reduceEq, Int.reduceBEq, Int.reduceBNe, Int.reduceGT, Int.reduceGE, Int.reduceNeg, Int.reduceAdd, Int.reduceSub, Nat.reduceBEq, decide_true, decide_false, undef, beq_self_eq_true, bne_self_eq_false, Bool.and_true, Bool.true_and, Bool.and_false, Bool.false_and, Bool.or_true, Bool.true_or, Bool.or_false, Bool.false_or, c2, c3, hwi]
    exact ⟨hil, _, Sub.gc [0] [10, 8, 9, 1, 2] rfl rfl, rfl⟩
  · rw [show (if (true : Bool) = true then T.slice 1 (x.map vi) else .slice 1 (b.map vi)) = .slice 1 (x.map vi) from by simp]
    simp only [go_sem, Nat.reduceEqDiff, Nat.reduceAdd, Nat.reduceSub, Nat.reduceMul, Nat.reduceLT, Nat.reduceLeDiff, Nat.reduceMod, Nat.reduceDiv, Int.reduceToNat, Int.reduceLT, Int.reduceLE, Bool.not_true, Bool.not_false, reduceIte, Int.reduceEq, Int.reduceBEq, Int.reduceBNe, Int.reduceGT, Int.reduceGE, Int.reduceNeg, Int.reduceAdd, Int.reduceSub, Nat.reduceBEq, decide_true, decide_false, undef, beq_self_eq_true, bne_self_eq_false, Bool.and_true, Bool.true_and, Bool.and_false, Bool.false_and, Bool.or_true, Bool.true_or, Bool.or_false, Bool.false_or, c2, c3, List.length_map, hi0, hii, List.getElem?_map, hx, Option.map_some, hx1, hwi]
    exact ⟨hil, _, Sub.gc [0] [10, 8, 9, 1, 2] rfl rfl, rfl⟩

/-! ### What it finds -/
theorem lexle_refl : ∀ l : List Int, lexle l l
  | [] => trivial
  | _ :: l => .inr ⟨rfl, lexle_refl l⟩
theorem lexle_anti : ∀ (a b : List Int), lexle a b → lexle b a → a = b
  | [], [], _, _ => rfl
  | [], _ :: _, h, _ => by cases h
  | _ :: _, [], h, _ => by cases h
  | x :: a, y :: b, h1, h2 => by
    rcases h1 with h1 | ⟨rfl, h1⟩
    · rcases h2 with h2 | ⟨h2, -⟩ <;> omega
    · rcases h2 with h2 | ⟨-, h2⟩
      · omega
      · rw [lexle_anti a b h1 h2]
theorem lexle_trans : ∀ (a b c : List Int), lexle a b → lexle b c → lexle a c
  | [], [], _, _, h => h
  | [], _ :: _, _, h, _ => by cases h
  | _ :: _, [], _, h, _ => by cases h
  | _ :: _, _ :: _, [], _, h => by cases h
  | x :: a, y :: b, z :: c, h1, h2 => by
    rcases h1 with h1 | ⟨rfl, h1⟩
    · rcases h2 with h2 | ⟨rfl, h2⟩
      · exact .inl (by omega)
      · exact .inl h1
    · rcases h2 with h2 | ⟨rfl, h2⟩
      · exact .inl h2
      · exact .inr ⟨rfl, lexle_trans a b c h1 h2⟩
theorem lexle_app (p : List Int) {a b : List Int} (h : lexle a b) : lexle (p ++ a) (p ++ b) := by
  induction p with
  | nil => exact h
  | cons x p ih => exact .inr ⟨rfl, ih⟩
theorem rdr_pre (F : Nat → Int) (many : Int) : ∀ (l : Nat) (bg : List Int), ∀ x ∈ rdr F many l bg, ∃ r, x = bg ++ r
  | 0, bg, x, h => by
    simp [rdr] at h
    exact ⟨[], by simp [h]⟩
  | l + 1, bg, x, h => by
    unfold rdr at h
    rcases List.mem_append.1 h with h | h
    · obtain ⟨r, rfl⟩ := rdr_pre F many l _ x h
      exact ⟨-1 :: r, by simp⟩
    · obtain ⟨j, -, h⟩ := List.mem_flatMap.1 h
      split at h
      · obtain ⟨r, rfl⟩ := rdr_pre F many l _ x h
        exact ⟨(j : Int) :: r, by simp⟩
      · cases h
theorem flat_pair {α : Type} {R : α → α → Prop} (g : Nat → List α) (h1 : ∀ i, (g i).Pairwise R) (h2 : ∀ i j, i < j → ∀ a ∈ g i, ∀ b ∈ g j, R a b) : ∀ n, ((List.range n).flatMap g).Pairwise R
  | 0 => by simp
  | n + 1 => by
    rw [List.range_succ, List.flatMap_append, List.pairwise_append]
    refine ⟨flat_pair g h1 h2 n, by simpa using h1 n, fun a ha b hb => ?_⟩
    obtain ⟨i, hi, ha⟩ := List.mem_flatMap.1 ha
    have hb : b ∈ g n := by simpa using hb
    exact h2 i n (List.mem_range.1 hi) a ha b hb
theorem rdr_sorted (F : Nat → Int) (many : Int) : ∀ (l : Nat) (bg : List Int), (rdr F many l bg).Pairwise lexle
  | 0, bg => by simp [rdr]
  | l + 1, bg => by
    unfold rdr
    have two : ∀ (u v : Int), u < v → ∀ a ∈ rdr F many l (bg ++ [u]), ∀ b ∈ rdr F many l (bg ++ [v]), lexle a b := fun u v huv a ha b hb => by
      obtain ⟨r, rfl⟩ := rdr_pre F many l _ a ha
      obtain ⟨q, rfl⟩ := rdr_pre F many l _ b hb
      rw [List.append_assoc, List.append_assoc]
      exact lexle_app bg (.inl huv)
    rw [List.pairwise_append]
    refine ⟨rdr_sorted F many l _, flat_pair _ (fun i => ?_) (fun i j hij a ha b hb => ?_) _, fun a ha b hb => ?_⟩
    · split
      · exact rdr_sorted F many l _
      · exact List.Pairwise.nil
    · split at ha
      · split at hb
        · exact two i j (by omega) a ha b hb
        · cases hb
      · cases ha
    · obtain ⟨j, -, hb⟩ := List.mem_flatMap.1 hb
      split at hb
      · exact two (-1) j (by omega) a ha b hb
      · cases hb
theorem btr_irr (a : Nat) : btr a a = false := by
  unfold btr
  generalize size a = x at *
  simp only [Bool.or_eq_false_iff, Bool.and_eq_false_iff, decide_eq_false_iff_not]
  omega
theorem btr_tr (a b c : Nat) (h1 : btr a b = false) (h2 : btr b c = false) : btr a c = false := by
  unfold btr at *
  generalize size a = x at *
  generalize size b = y at *
  generalize size c = z at *
  simp only [Bool.or_eq_false_iff, Bool.and_eq_false_iff, decide_eq_false_iff_not] at *
  omega
theorem btr_asy (a b : Nat) (h : btr a b = true) : btr b a = false := by
  unfold btr at *
  generalize size a = x at *
  generalize size b = y at *
  simp only [Bool.or_eq_false_iff, Bool.and_eq_false_iff, decide_eq_false_iff_not, Bool.or_eq_true, Bool.and_eq_true, decide_eq_true_eq] at *
  omega
/-- The first of the best ones. -/
theorem fold_best (s : Su) : ∀ (L : List (List Int)) (b r : List Int), (b :: L).Pairwise lexle → r = L.foldl (stepR s) b → ∀ x ∈ b :: L, btr (leftR s x) (leftR s r) = false ∧ (btr (leftR s r) (leftR s x) = false → lexle r x)
  | [], b, r, _, er => by
    intro x hx
    have : x = b := by simpa using hx
    subst this
    have er : r = x := er
    rw [er]
    exact ⟨btr_irr _, fun _ => lexle_refl _⟩
  | y :: L, b, r, hp, er => by
    have tr := btr_tr
    have asy := btr_asy
    obtain ⟨hb, hp2⟩ := List.pairwise_cons.1 hp
    obtain ⟨hy, hp3⟩ := List.pairwise_cons.1 hp2
    rw [List.foldl_cons] at er
    cases c : btr (leftR s y) (leftR s b)
    · have e : stepR s b y = b := by unfold stepR; rw [c]; rfl
      rw [e] at er
      have ih := fold_best s L b r (List.pairwise_cons.2 ⟨fun z hz => hb z (by simp [hz]), hp3⟩) er
      intro x hx
      rcases List.mem_cons.1 hx with rfl | hx
      · exact ih x (by simp)
      · rcases List.mem_cons.1 hx with rfl | hx
        · have hb' := ih b (by simp)
          refine ⟨tr _ _ _ c hb'.1, fun h => ?_⟩
          have h2 : btr (leftR s r) (leftR s b) = false := tr _ _ _ h c
          have h3 := hb'.2 h2
          exact lexle_trans _ _ _ h3 (hb x (by simp))
        · exact ih x (by simp [hx])
    · have e : stepR s b y = y := by unfold stepR; rw [c]; rfl
      rw [e] at er
      have ih := fold_best s L y r hp2 er
      intro x hx
      rcases List.mem_cons.1 hx with rfl | hx
      · have hy' := ih y (by simp)
        refine ⟨tr _ _ _ (asy _ _ c) hy'.1, fun h => ?_⟩
        have := tr _ _ _ (asy _ _ c) hy'.1
        have h4 : btr (leftR s y) (leftR s x) = false := tr _ _ _ hy'.1 h
        rw [c] at h4; cases h4
      · exact ih x hx
end Go.Proofs.YtmahocdmkpigjaaDoor

/- SurfSaves: what the document's Save finds is what Save tells. -/
namespace Go.Proofs.YtmahocdmkpigjaaDoor
open Go Go.Ab

def gdP (F : Nat → Int) (many : Int) (x : List Int) (i : Nat) : Prop := x.getD i 0 = -1 ∨ ∃ h : Nat, x.getD i 0 = (h : Int) ∧ (h : Int) < F i ∧ ((x.take i).count (h : Int) : Int) < many
theorem take_snoc_of {x bg : List Int} {v : Int} (h : x.take (bg ++ [v]).length = bg ++ [v]) : x.take bg.length = bg ∧ x.getD bg.length 0 = v := by
  have hlen : bg.length < x.length := by
    have := congrArg List.length h
    rw [List.length_take] at this
    simp at this
    omega
  rw [List.length_append, List.length_singleton, List.take_succ_eq_append_getElem hlen] at h
  have := List.append_inj h (by rw [List.length_take]; omega)
  refine ⟨this.1, ?_⟩
  rw [List.getD_eq_getElem?_getD, List.getElem?_eq_getElem hlen]
  simpa using this.2
theorem take_snoc_mk {x bg : List Int} (hlen : bg.length < x.length) (h : x.take bg.length = bg) : x.take (bg ++ [x.getD bg.length 0]).length = bg ++ [x.getD bg.length 0] := by
  rw [List.length_append, List.length_singleton, List.take_succ_eq_append_getElem hlen, h, List.getD_eq_getElem?_getD, List.getElem?_eq_getElem hlen]
  rfl
theorem mem_rdr (F : Nat → Int) (many : Int) : ∀ (l : Nat) (bg x : List Int), x ∈ rdr F many l bg ↔ x.length = bg.length + l ∧ x.take bg.length = bg ∧ ∀ i, bg.length ≤ i → i < x.length → gdP F many x i
  | 0, bg, x => by
    show x ∈ [bg] ↔ _
    rw [List.mem_singleton]
    constructor
    · rintro rfl
      exact ⟨rfl, List.take_length, fun i h1 h2 => by omega⟩
    · rintro ⟨h1, h2, -⟩
      rw [← h2, List.take_of_length_le (by omega)]
  | l + 1, bg, x => by
    unfold rdr
    have up : ∀ v, x ∈ rdr F many l (bg ++ [v]) ↔ x.length = bg.length + 1 + l ∧ x.take (bg ++ [v]).length = bg ++ [v] ∧ ∀ i, bg.length + 1 ≤ i → i < x.length → gdP F many x i := fun v => by
      rw [mem_rdr F many l (bg ++ [v]) x]
      simp only [List.length_append, List.length_singleton]
    rw [List.mem_append, List.mem_flatMap]
    constructor
    · rintro (h | ⟨j, hj, h⟩)
      · obtain ⟨h1, h2, h3⟩ := (up _).1 h
        obtain ⟨h4, h5⟩ := take_snoc_of h2
        refine ⟨by omega, h4, fun i a b => ?_⟩
        by_cases c : i = bg.length
        · subst c; exact .inl h5
        · exact h3 i (by omega) b
      · split at h
        · rename_i hc
          obtain ⟨h1, h2, h3⟩ := (up _).1 h
          obtain ⟨h4, h5⟩ := take_snoc_of h2
          refine ⟨by omega, h4, fun i a b => ?_⟩
          by_cases c : i = bg.length
          · subst c
            have := List.mem_range.1 hj
            exact .inr ⟨j, h5, by omega, by rw [h4]; exact of_decide_eq_true hc⟩
          · exact h3 i (by omega) b
        · cases h
    · rintro ⟨h1, h2, h3⟩
      have hlen : bg.length < x.length := by omega
      have tk := take_snoc_mk hlen h2
      rcases h3 bg.length (Nat.le_refl _) hlen with e | ⟨h, e, hF, hc⟩
      · rw [e] at tk
        exact .inl ((up _).2 ⟨by omega, tk, fun i a b => h3 i (by omega) b⟩)
      · rw [e] at tk
        rw [h2] at hc
        refine .inr ⟨h, List.mem_range.2 (by omega), ?_⟩
        rw [if_pos (decide_eq_true hc)]
        exact (up _).2 ⟨by omega, tk, fun i a b => h3 i (by omega) b⟩
theorem gd_good {s : Su} {many : Int} {x : List Int} {i : Nat} (hi : i < x.length) : goodAt s many x i = true ↔ gdP (fstH s) many x i := by
  unfold goodAt gdP
  have tk : x.take (i + 1) = x.take i ++ [x.getD i 0] := by
    rw [List.take_succ_eq_append_getElem hi, List.getD_eq_getElem?_getD, List.getElem?_eq_getElem hi]; rfl
  rw [tk, List.count_append, List.count_singleton_self]
  generalize x.getD i 0 = v
  simp only [Bool.or_eq_true, Bool.and_eq_true, decide_eq_true_eq]
  constructor
  · rintro (h | ⟨⟨⟨h1, h2⟩, h3⟩, h4⟩)
    · exact .inl h
    · refine .inr ⟨v.toNat, by omega, by omega, ?_⟩
      rw [show ((v.toNat : Nat) : Int) = v by omega]
      omega
  · rintro (h | ⟨h, rfl, h2, h3⟩)
    · exact .inl h
    · exact .inr ⟨⟨⟨by omega, by omega⟩, h2⟩, by omega⟩
theorem mem_lists {s : Su} {many : Int} {x : List Int} : x ∈ listsR s many ↔ x.length = s.huts.length ∧ rightB s many x = true := by
  unfold listsR rightB
  rw [mem_rdr, List.all_eq_true]
  simp only [List.length_nil, Nat.zero_add, List.take_zero, true_and, List.mem_range, Nat.zero_le, forall_const]
  constructor
  · rintro ⟨h1, h2⟩; exact ⟨h1, fun i hi => (gd_good hi).2 (h2 i hi)⟩
  · rintro ⟨h1, h2⟩; exact ⟨h1, fun i hi => (gd_good hi).1 (h2 i hi)⟩
theorem left_out {s : Su} {many : Int} {x : List Int} (h : rightB s many x = true) : leftR s x = outM s x x.length := by
  have hg : ∀ i < x.length, gdP (fstH s) many x i := fun i hi => (gd_good hi).1 (List.all_eq_true.1 h i (List.mem_range.2 hi))
  apply Nat.eq_of_testBit_eq
  intro i
  unfold leftR
  rw [outM_bit, maskOf_bit]
  by_cases c : i < x.length
  · have : decide (x.getD i 0 < 0) = decide (x.getD i 0 = -1) := by
      rw [decide_eq_decide]
      rcases hg i c with e | ⟨k, e, -, -⟩ <;> omega
    unfold lfB
    rw [this]
  · rw [decide_eq_false c]; rfl
theorem rsave_is {s : Su} (hs : s.OK) {many : Int} (hm : 0 ≤ many) : saveF s many = some (bestR s many, leftR s (bestR s many)) := by
  obtain ⟨l, left, h1, h2, h3, h4, -⟩ := save_some hs hm
  have hb := best_mem s many
  obtain ⟨b1, b2⟩ := mem_lists.1 hb
  have hl := mem_lists.2 ⟨h2, h3⟩
  obtain ⟨l', left', e, hle, hlex⟩ := save_law hs b1 b2
  rw [h1] at e
  cases e
  rw [← left_out b2] at hle hlex
  have hl2 := left_out h3
  rw [h4] at hl2
  obtain ⟨x, L, eL⟩ := lists_ne s many
  have er : bestR s many = L.foldl (stepR s) x := by
    unfold bestR
    rw [eL, List.foldl_cons]
    show L.foldl (stepR s) (stepR s x x) = _
    have : stepR s x x = x := by unfold stepR; split <;> rfl
    rw [this]
  have hso : (x :: L).Pairwise lexle := by rw [← eL]; exact rdr_sorted _ _ _ _
  have hf := fold_best s L x (bestR s many) hso er l (by rw [← eL]; exact hl)
  rw [hl2] at hf
  have key : left = leftR s (bestR s many) := by
    have := hf.1
    unfold btr at this
    generalize size left = u at *
    generalize size (leftR s (bestR s many)) = v at *
    simp only [Bool.or_eq_false_iff, Bool.and_eq_false_iff, decide_eq_false_iff_not] at this
    omega
  have h5 := hf.2 (by rw [← key]; exact btr_irr _)
  rw [h1, lexle_anti _ _ (hlex key) h5, key]
theorem rsaveO_eq (s : Su) (many : Int) : rsaveO s many = specSave s many := by
  unfold rsaveO specSave
  by_cases hok : s.ok = true
  · rw [if_pos hok, if_pos hok]
    by_cases hw : wI many 0 5 = true
    · rw [if_pos hw, if_pos hw, rsave_is ((s.ok_iff).1 hok) (by unfold wI at hw; simp at hw; omega)]
      rfl
    · rw [if_neg hw, if_neg hw]
  · rw [if_neg hok, if_neg hok]

/-! ### The law -/
theorem wks_tN : ∀ ts : List T, E.wks (ts.map .t) = ts
  | [] => by unfold E.wks; rfl
  | t :: ts => by
    rw [List.map_cons]
    unfold E.wks
    rw [wks_tN ts]
    unfold E.wk
    rfl
/-- A call, of trees of which less is told. -/
theorem ACallN.le {P : Program} {f : Nat} {ts us : List T} {σ : List AO} {R : Out → List AO → Prop} (hle : ∀ h vs, RepTs h us vs → RepTs h ts vs) (h : ACall P f (ts.map .t) σ R) : ACall P f (us.map .t) σ R :=
  ⟨h.1, fun C k w ι vis D vs hC M r => h.2 C k w ι vis D vs hC M (RepEs.map_t (hle _ _ (by have := RepEs.wk _ _ r; rwa [wks_tN] at this)))⟩
theorem nil_sliceN {h : Hp} {es : Nat} {v : Value} (r : RepT h (.lit (.slice none 0 0)) v) : RepT h (.slice es []) v := by
  unfold RepT at r ⊢
  exact ⟨none, 0, 0, r, rfl, Nat.le_refl _, .inl ⟨rfl, rfl, rfl⟩⟩
theorem nil2 {f es : Nat} {R : Out → List AO → Prop} (h : ACall Tryd.prog f [.t (.slice es []), .t (.slice es [])] [] R) : ACall Tryd.prog f [.t (.lit (.slice none 0 0)), .t (.lit (.slice none 0 0))] [] R := by
  refine ACallN.le (ts := [.slice es [], .slice es []]) (us := [.lit (.slice none 0 0), .lit (.slice none 0 0)]) ?_ h
  intro h vs r
  unfold RepTs at r ⊢
  obtain ⟨u, us, e, r1, r2⟩ := r
  refine ⟨u, us, e, nil_sliceN r1, ?_⟩
  unfold RepTs at r2 ⊢
  obtain ⟨u2, us2, e2, r3, r4⟩ := r2
  exact ⟨u2, us2, e2, nil_sliceN r3, r4⟩
theorem spec_form (s : Su) (many : Int) : ∃ (t : T) (a e : Int), specSave s many = .ret (.tup [.t t, .t (vi a), .t (vi e)]) ∧ ACall Tryd.prog 32 [.t t, .t t] [] (ret (vb true)) := by
  have hn : ACall Tryd.prog 32 [.t (.lit (.slice none 0 0)), .t (.lit (.slice none 0 0))] [] (ret (vb true)) := nil2 (es := 1) (ints_ok [] [] (by decide))
  unfold specSave
  by_cases hok : s.ok = true
  · by_cases hw : wI many 0 5 = true
    · rw [if_pos hok, if_pos hw, rsave_is ((s.ok_iff).1 hok) (by unfold wI at hw; simp at hw; omega)]
      refine ⟨_, _, _, rfl, ?_⟩
      have hb := (mem_lists.1 (best_mem s many)).1
      have hn5 := ((s.ok_iff).1 hok).nh
      have := ints_ok (bestR s many) (bestR s many) (by omega)
      rw [decide_eq_true rfl] at this
      exact this
    · rw [if_pos hok, if_neg hw]
      exact ⟨_, _, _, rfl, hn⟩
  · rw [if_neg hok]
    exact ⟨_, _, _, rfl, hn⟩
set_option maxRecDepth 8000 in
set_option maxHeartbeats 4000000 in
theorem SurfSaves_ok (s : Su) (hl : Lens s) (many : Int) : ACall Tryd.prog 5 [.t (.agg (su5 s)), .t (vi many)] [] (res (.ret (.t (vb true)))) := by
  refine ACall.walk k5 ?_
  have q13 := far_ok s
  have q29 := rsurf_ok s hl
  have q30 := Save_ok s hl many
  have q31 := rsave_ok s hl many
  rw [rsaveO_eq] at q31
  obtain ⟨t, a, e, hS, q32⟩ := spec_form s many
  rw [hS] at q30 q31
  unfold c5
  unfold su5 at q13 q29 q30 q31 ⊢
  simp only [go_sem, Nat.reduceEqDiff, Nat.reduceAdd, Nat.reduceSub, Nat.reduceMul, Nat.reduceLT, Nat.reduceLeDiff, Nat.reduceMod, Nat.reduceDiv, Int.reduceToNat, Int.reduceLT, Int.reduceLE, Bool.not_true, Bool.not_false, reduceIte, Int.reduceEq, Int.reduceBEq, Int.reduceBNe, Int.reduceGT, Int.reduceGE, Int.reduceNeg, Int.reduceAdd, Int.reduceSub, Nat.reduceBEq, decide_true, decide_false, undef, beq_self_eq_true, bne_self_eq_false, Bool.and_true, Bool.true_and, Bool.and_false, Bool.false_and, Bool.or_true, Bool.true_or, Bool.or_false, Bool.false_or]
  refine ACallL.quiet1 q13 rfl rfl rfl ?_
  have rest : ∀ X : Prop, X → X := fun _ h => h
  cases farB s
  rotate_left
  · simp only [go_sem, Nat.reduceEqDiff, Nat.reduceAdd, Nat.reduceSub, Nat.reduceMul, Nat.reduceLT, Nat.reduceLeDiff, Nat.reduceMod, Nat.reduceDiv, Int.reduceToNat, Int.reduceLT, Int.reduceLE, Bool.not_true, Bool.not_false, reduceIte, Int.reduceEq, Int.reduceBEq, Int.reduceBNe, Int.reduceGT, Int.reduceGE, Int.reduceNeg, Int.reduceAdd, Int.reduceSub, Nat.reduceBEq, decide_true, decide_false, undef, beq_self_eq_true, bne_self_eq_false, Bool.and_true, Bool.true_and, Bool.and_false, Bool.false_and, Bool.or_true, Bool.true_or, Bool.or_false, Bool.false_or]
    refine ACallL.quiet1 awake_ok rfl rfl rfl ?_
    simp only [go_sem, Nat.reduceEqDiff, Nat.reduceAdd, Nat.reduceSub, Nat.reduceMul, Nat.reduceLT, Nat.reduceLeDiff, Nat.reduceMod, Nat.reduceDiv, Int.reduceToNat, Int.reduceLT, Int.reduceLE, Bool.not_true, Bool.not_false, reduceIte, Int.reduceEq, Int.reduceBEq, Int.reduceBNe, Int.reduceGT, Int.reduceGE, Int.reduceNeg, Int.reduceAdd, Int.reduceSub, Nat.reduceBEq, decide_true, decide_false, undef, beq_self_eq_true, bne_self_eq_false, Bool.and_true, Bool.true_and, Bool.and_false, Bool.false_and, Bool.or_true, Bool.true_or, Bool.or_false, Bool.false_or]
    exact finL_ret [] ⟨rfl, rfl, rfl, rfl, _, rfl, res_mk rfl⟩
  simp only [go_sem, Nat.reduceEqDiff, Nat.reduceAdd, Nat.reduceSub, Nat.reduceMul, Nat.reduceLT, Nat.reduceLeDiff, Nat.reduceMod, Nat.reduceDiv, Int.reduceToNat, Int.reduceLT, Int.reduceLE, Bool.not_true, Bool.not_false, reduceIte, Int.reduceEq, Int.reduceBEq, Int.reduceBNe, Int.reduceGT, Int.reduceGE, Int.reduceNeg, Int.reduceAdd, Int.reduceSub, Nat.reduceBEq, decide_true, decide_false, undef, beq_self_eq_true, bne_self_eq_false, Bool.and_true, Bool.true_and, Bool.and_false, Bool.false_and, Bool.or_true, Bool.true_or, Bool.or_false, Bool.false_or]
  refine ACallL.quiet1 q29 rfl rfl rfl ?_
  cases s.ok
  · simp only [go_sem, Nat.reduceEqDiff, Nat.reduceAdd, Nat.reduceSub, Nat.reduceMul, Nat.reduceLT, Nat.reduceLeDiff, Nat.reduceMod, Nat.reduceDiv, Int.reduceToNat, Int.reduceLT, Int.reduceLE, Bool.not_true, Bool.not_false, reduceIte, Int.reduceEq, Int.reduceBEq, Int.reduceBNe, Int.reduceGT, Int.reduceGE, Int.reduceNeg, Int.reduceAdd, Int.reduceSub, Nat.reduceBEq, decide_true, decide_false, undef, beq_self_eq_true, bne_self_eq_false, Bool.and_true, Bool.true_and, Bool.and_false, Bool.false_and, Bool.or_true, Bool.true_or, Bool.or_false, Bool.false_or]
    refine ACallL.fresh1 q30 rfl ?_
    simp only [go_sem, Nat.reduceEqDiff, Nat.reduceAdd, Nat.reduceSub, Nat.reduceMul, Nat.reduceLT, Nat.reduceLeDiff, Nat.reduceMod, Nat.reduceDiv, Int.reduceToNat, Int.reduceLT, Int.reduceLE, Bool.not_true, Bool.not_false, reduceIte, Int.reduceEq, Int.reduceBEq, Int.reduceBNe, Int.reduceGT, Int.reduceGE, Int.reduceNeg, Int.reduceAdd, Int.reduceSub, Nat.reduceBEq, decide_true, decide_false, undef, beq_self_eq_true, bne_self_eq_false, Bool.and_true, Bool.true_and, Bool.and_false, Bool.false_and, Bool.or_true, Bool.true_or, Bool.or_false, Bool.false_or]
    refine ACallL.fresh1 q31 rfl ?_
    simp only [go_sem, Nat.reduceEqDiff, Nat.reduceAdd, Nat.reduceSub, Nat.reduceMul, Nat.reduceLT, Nat.reduceLeDiff, Nat.reduceMod, Nat.reduceDiv, Int.reduceToNat, Int.reduceLT, Int.reduceLE, Bool.not_true, Bool.not_false, reduceIte, Int.reduceEq, Int.reduceBEq, Int.reduceBNe, Int.reduceGT, Int.reduceGE, Int.reduceNeg, Int.reduceAdd, Int.reduceSub, Nat.reduceBEq, decide_true, decide_false, undef, beq_self_eq_true, bne_self_eq_false, Bool.and_true, Bool.true_and, Bool.and_false, Bool.false_and, Bool.or_true, Bool.true_or, Bool.or_false, Bool.false_or]
    refine ACallL.quiet1 q32 rfl rfl rfl ?_
    simp only [go_sem, Nat.reduceEqDiff, Nat.reduceAdd, Nat.reduceSub, Nat.reduceMul, Nat.reduceLT, Nat.reduceLeDiff, Nat.reduceMod, Nat.reduceDiv, Int.reduceToNat, Int.reduceLT, Int.reduceLE, Bool.not_true, Bool.not_false, reduceIte, Int.reduceEq, Int.reduceBEq, Int.reduceBNe, Int.reduceGT, Int.reduceGE, Int.reduceNeg, Int.reduceAdd, Int.reduceSub, Nat.reduceBEq, decide_true, decide_false, undef, beq_self_eq_true, bne_self_eq_false, Bool.and_true, Bool.true_and, Bool.and_false, Bool.false_and, Bool.or_true, Bool.true_or, Bool.or_false, Bool.false_or, beq_self_eq_true]
    refine ACallL.quiet1 awake_ok rfl rfl rfl ?_
    simp only [go_sem, Nat.reduceEqDiff, Nat.reduceAdd, Nat.reduceSub, Nat.reduceMul, Nat.reduceLT, Nat.reduceLeDiff, Nat.reduceMod, Nat.reduceDiv, Int.reduceToNat, Int.reduceLT, Int.reduceLE, Bool.not_true, Bool.not_false, reduceIte, Int.reduceEq, Int.reduceBEq, Int.reduceBNe, Int.reduceGT, Int.reduceGE, Int.reduceNeg, Int.reduceAdd, Int.reduceSub, Nat.reduceBEq, decide_true, decide_false, undef, beq_self_eq_true, bne_self_eq_false, Bool.and_true, Bool.true_and, Bool.and_false, Bool.false_and, Bool.or_true, Bool.true_or, Bool.or_false, Bool.false_or]
    exact finL_ret [] ⟨rfl, rfl, rfl, rfl, _, rfl, res_mk rfl⟩
  simp only [go_sem, Nat.reduceEqDiff, Nat.reduceAdd, Nat.reduceSub, Nat.reduceMul, Nat.reduceLT, Nat.reduceLeDiff, Nat.reduceMod, Nat.reduceDiv, Int.reduceToNat, Int.reduceLT, Int.reduceLE, Bool.not_true, Bool.not_false, reduceIte, Int.reduceEq, Int.reduceBEq, Int.reduceBNe, Int.reduceGT, Int.reduceGE, Int.reduceNeg, Int.reduceAdd, Int.reduceSub, Nat.reduceBEq, decide_true, decide_false, undef, beq_self_eq_true, bne_self_eq_false, Bool.and_true, Bool.true_and, Bool.and_false, Bool.false_and, Bool.or_true, Bool.true_or, Bool.or_false, Bool.false_or, List.length_map]
  cases decide ((s.huts.length : Int) > 3)
  rotate_left
  · simp only [go_sem, Nat.reduceEqDiff, Nat.reduceAdd, Nat.reduceSub, Nat.reduceMul, Nat.reduceLT, Nat.reduceLeDiff, Nat.reduceMod, Nat.reduceDiv, Int.reduceToNat, Int.reduceLT, Int.reduceLE, Bool.not_true, Bool.not_false, reduceIte, Int.reduceEq, Int.reduceBEq, Int.reduceBNe, Int.reduceGT, Int.reduceGE, Int.reduceNeg, Int.reduceAdd, Int.reduceSub, Nat.reduceBEq, decide_true, decide_false, undef, beq_self_eq_true, bne_self_eq_false, Bool.and_true, Bool.true_and, Bool.and_false, Bool.false_and, Bool.or_true, Bool.true_or, Bool.or_false, Bool.false_or]
    refine ACallL.quiet1 awake_ok rfl rfl rfl ?_
    simp only [go_sem, Nat.reduceEqDiff, Nat.reduceAdd, Nat.reduceSub, Nat.reduceMul, Nat.reduceLT, Nat.reduceLeDiff, Nat.reduceMod, Nat.reduceDiv, Int.reduceToNat, Int.reduceLT, Int.reduceLE, Bool.not_true, Bool.not_false, reduceIte, Int.reduceEq, Int.reduceBEq, Int.reduceBNe, Int.reduceGT, Int.reduceGE, Int.reduceNeg, Int.reduceAdd, Int.reduceSub, Nat.reduceBEq, decide_true, decide_false, undef, beq_self_eq_true, bne_self_eq_false, Bool.and_true, Bool.true_and, Bool.and_false, Bool.false_and, Bool.or_true, Bool.true_or, Bool.or_false, Bool.false_or]
    exact finL_ret [] ⟨rfl, rfl, rfl, rfl, _, rfl, res_mk rfl⟩
  simp only [go_sem, Nat.reduceEqDiff, Nat.reduceAdd, Nat.reduceSub, Nat.reduceMul, Nat.reduceLT, Nat.reduceLeDiff, Nat.reduceMod, Nat.reduceDiv, Int.reduceToNat, Int.reduceLT, Int.reduceLE, Bool.not_true, Bool.not_false, reduceIte, Int.reduceEq, Int.reduceBEq, Int.reduceBNe, Int.reduceGT, Int.reduceGE, Int.reduceNeg, Int.reduceAdd, Int.reduceSub, Nat.reduceBEq, decide_true, decide_false, undef, beq_self_eq_true, bne_self_eq_false, Bool.and_true, Bool.true_and, Bool.and_false, Bool.false_and, Bool.or_true, Bool.true_or, Bool.or_false, Bool.false_or, List.length_map]
  cases decide ((s.water.length : Int) > 5)
  rotate_left
  · simp only [go_sem, Nat.reduceEqDiff, Nat.reduceAdd, Nat.reduceSub, Nat.reduceMul, Nat.reduceLT, Nat.reduceLeDiff, Nat.reduceMod, Nat.reduceDiv, Int.reduceToNat, Int.reduceLT, Int.reduceLE, Bool.not_true, Bool.not_false, reduceIte, Int.reduceEq, Int.reduceBEq, Int.reduceBNe, Int.reduceGT, Int.reduceGE, Int.reduceNeg, Int.reduceAdd, Int.reduceSub, Nat.reduceBEq, decide_true, decide_false, undef, beq_self_eq_true, bne_self_eq_false, Bool.and_true, Bool.true_and, Bool.and_false, Bool.false_and, Bool.or_true, Bool.true_or, Bool.or_false, Bool.false_or]
    refine ACallL.quiet1 awake_ok rfl rfl rfl ?_
    simp only [go_sem, Nat.reduceEqDiff, Nat.reduceAdd, Nat.reduceSub, Nat.reduceMul, Nat.reduceLT, Nat.reduceLeDiff, Nat.reduceMod, Nat.reduceDiv, Int.reduceToNat, Int.reduceLT, Int.reduceLE, Bool.not_true, Bool.not_false, reduceIte, Int.reduceEq, Int.reduceBEq, Int.reduceBNe, Int.reduceGT, Int.reduceGE, Int.reduceNeg, Int.reduceAdd, Int.reduceSub, Nat.reduceBEq, decide_true, decide_false, undef, beq_self_eq_true, bne_self_eq_false, Bool.and_true, Bool.true_and, Bool.and_false, Bool.false_and, Bool.or_true, Bool.true_or, Bool.or_false, Bool.false_or]
    exact finL_ret [] ⟨rfl, rfl, rfl, rfl, _, rfl, res_mk rfl⟩
  simp only [go_sem, Nat.reduceEqDiff, Nat.reduceAdd, Nat.reduceSub, Nat.reduceMul, Nat.reduceLT, Nat.reduceLeDiff, Nat.reduceMod, Nat.reduceDiv, Int.reduceToNat, Int.reduceLT, Int.reduceLE, Bool.not_true, Bool.not_false, reduceIte, Int.reduceEq, Int.reduceBEq, Int.reduceBNe, Int.reduceGT, Int.reduceGE, Int.reduceNeg, Int.reduceAdd, Int.reduceSub, Nat.reduceBEq, decide_true, decide_false, undef, beq_self_eq_true, bne_self_eq_false, Bool.and_true, Bool.true_and, Bool.and_false, Bool.false_and, Bool.or_true, Bool.true_or, Bool.or_false, Bool.false_or]
  refine ACallL.fresh1 q30 rfl ?_
  simp only [go_sem, Nat.reduceEqDiff, Nat.reduceAdd, Nat.reduceSub, Nat.reduceMul, Nat.reduceLT, Nat.reduceLeDiff, Nat.reduceMod, Nat.reduceDiv, Int.reduceToNat, Int.reduceLT, Int.reduceLE, Bool.not_true, Bool.not_false, reduceIte, Int.reduceEq, Int.reduceBEq, Int.reduceBNe, Int.reduceGT, Int.reduceGE, Int.reduceNeg, Int.reduceAdd, Int.reduceSub, Nat.reduceBEq, decide_true, decide_false, undef, beq_self_eq_true, bne_self_eq_false, Bool.and_true, Bool.true_and, Bool.and_false, Bool.false_and, Bool.or_true, Bool.true_or, Bool.or_false, Bool.false_or]
  refine ACallL.fresh1 q31 rfl ?_
  simp only [go_sem, Nat.reduceEqDiff, Nat.reduceAdd, Nat.reduceSub, Nat.reduceMul, Nat.reduceLT, Nat.reduceLeDiff, Nat.reduceMod, Nat.reduceDiv, Int.reduceToNat, Int.reduceLT, Int.reduceLE, Bool.not_true, Bool.not_false, reduceIte, Int.reduceEq, Int.reduceBEq, Int.reduceBNe, Int.reduceGT, Int.reduceGE, Int.reduceNeg, Int.reduceAdd, Int.reduceSub, Nat.reduceBEq, decide_true, decide_false, undef, beq_self_eq_true, bne_self_eq_false, Bool.and_true, Bool.true_and, Bool.and_false, Bool.false_and, Bool.or_true, Bool.true_or, Bool.or_false, Bool.false_or]
  refine ACallL.quiet1 q32 rfl rfl rfl ?_
  simp only [go_sem, Nat.reduceEqDiff, Nat.reduceAdd, Nat.reduceSub, Nat.reduceMul, Nat.reduceLT, Nat.reduceLeDiff, Nat.reduceMod, Nat.reduceDiv, Int.reduceToNat, Int.reduceLT, Int.reduceLE, Bool.not_true, Bool.not_false, reduceIte, Int.reduceEq, Int.reduceBEq, Int.reduceBNe, Int.reduceGT, Int.reduceGE, Int.reduceNeg, Int.reduceAdd, Int.reduceSub, Nat.reduceBEq, decide_true, decide_false, undef, beq_self_eq_true, bne_self_eq_false, Bool.and_true, Bool.true_and, Bool.and_false, Bool.false_and, Bool.or_true, Bool.true_or, Bool.or_false, Bool.false_or, beq_self_eq_true]
  refine ACallL.quiet1 awake_ok rfl rfl rfl ?_
  simp only [go_sem, Nat.reduceEqDiff, Nat.reduceAdd, Nat.reduceSub, Nat.reduceMul, Nat.reduceLT, Nat.reduceLeDiff, Nat.reduceMod, Nat.reduceDiv, Int.reduceToNat, Int.reduceLT, Int.reduceLE, Bool.not_true, Bool.not_false, reduceIte, Int.reduceEq, Int.reduceBEq, Int.reduceBNe, Int.reduceGT, Int.reduceGE, Int.reduceNeg, Int.reduceAdd, Int.reduceSub, Nat.reduceBEq, decide_true, decide_false, undef, beq_self_eq_true, bne_self_eq_false, Bool.and_true, Bool.true_and, Bool.and_false, Bool.false_and, Bool.or_true, Bool.true_or, Bool.or_false, Bool.false_or]
  exact finL_ret [] ⟨rfl, rfl, rfl, rfl, _, rfl, res_mk rfl⟩
end Go.Proofs.YtmahocdmkpigjaaDoor
