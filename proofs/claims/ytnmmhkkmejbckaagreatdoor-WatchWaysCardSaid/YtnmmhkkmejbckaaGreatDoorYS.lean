/- Proved here: laws that the statements need (WzC4, WyG). No conditions but those that each law states. -/
import Derived.Test.YtnmmhkkmejbckaaGreatDoorFL
import Derived.Test.YtnmmhkkmejbckaaGreatDoorFP
import Derived.Test.YtnmmhkkmejbckaaGreatDoorProg
import Derived.Test.YtnmmhkkmejbckaaGreatDoorYR
import Derived.Test.YtnmmhkkmejbckaaGreatDoorYE

set_option linter.unusedSimpArgs false
set_option linter.unusedVariables false

/- Compiled code of functions, printed by program; each is checked to be the program's. No conditions. -/
namespace Go.Proofs.YtnmmhkkmejbckaaGreatDoor
open Go Go.Ab
/-- dipworks/dipworkslaw07.WatchTells -/
def c3 : AC :=
 .seq (.reg [⟨(some 4), none, .box (.tmp 0)⟩,
 ⟨(some 8), none, .mov (.lit (.bool false))⟩])
 (.seq (.seq (.reg [⟨(some 21), none, .load true 2 (.tmp 4)⟩,
 ⟨(some 22), none, .call (.fn 5) [(.tmp 21)]⟩])
 (.cond (.tmp 22) (.seq (.reg [⟨(some 23), none, .call (.fn 6) []⟩,
 ⟨(some 8), none, .mov (.tmp 23)⟩])
 (.ret))
 (.skip)))
 (.seq (.reg [⟨(some 25), none, .load true 2 (.tmp 4)⟩,
 ⟨(some 26), none, .mov (.tmp 1)⟩,
 ⟨(some 27), none, .mov (.tmp 3)⟩,
 ⟨(some 28), none, .call (.fn 7) [(.tmp 25), (.tmp 26), (.tmp 27)]⟩,
 ⟨(some 24), none, .mov (.tmp 28)⟩,
 ⟨(some 29), none, .ext (.tmp 24) 0⟩,
 ⟨(some 30), none, .ext (.tmp 24) 1⟩,
 ⟨(some 9), none, .mov (.tmp 29)⟩,
 ⟨(some 10), none, .mov (.tmp 30)⟩])
 (.seq (.reg [⟨(some 32), none, .load true 2 (.tmp 4)⟩,
 ⟨(some 33), none, .mov (.tmp 1)⟩,
 ⟨(some 34), none, .mov (.tmp 3)⟩,
 ⟨(some 35), none, .call (.fn 8) [(.tmp 32), (.tmp 33), (.tmp 34)]⟩,
 ⟨(some 31), none, .mov (.tmp 35)⟩,
 ⟨(some 36), none, .ext (.tmp 31) 0⟩,
 ⟨(some 37), none, .ext (.tmp 31) 1⟩,
 ⟨(some 11), none, .mov (.tmp 36)⟩,
 ⟨(some 12), none, .mov (.tmp 37)⟩])
 (.seq (.reg [⟨(some 39), none, .load true 2 (.tmp 4)⟩,
 ⟨(some 40), none, .mov (.tmp 2)⟩,
 ⟨(some 41), none, .call (.fn 9) [(.tmp 39), (.tmp 40)]⟩,
 ⟨(some 38), none, .mov (.tmp 41)⟩,
 ⟨(some 42), none, .ext (.tmp 38) 0⟩,
 ⟨(some 43), none, .ext (.tmp 38) 1⟩,
 ⟨(some 13), none, .mov (.tmp 42)⟩,
 ⟨(some 14), none, .mov (.tmp 43)⟩])
 (.seq (.reg [⟨(some 45), none, .load true 2 (.tmp 4)⟩,
 ⟨(some 46), none, .mov (.tmp 2)⟩,
 ⟨(some 47), none, .call (.fn 10) [(.tmp 45), (.tmp 46)]⟩,
 ⟨(some 44), none, .mov (.tmp 47)⟩,
 ⟨(some 48), none, .ext (.tmp 44) 0⟩,
 ⟨(some 49), none, .ext (.tmp 44) 1⟩,
 ⟨(some 15), none, .mov (.tmp 48)⟩,
 ⟨(some 16), none, .mov (.tmp 49)⟩])
 (.seq (.reg [⟨(some 51), none, .load true 2 (.tmp 4)⟩,
 ⟨(some 52), none, .mov (.tmp 2)⟩,
 ⟨(some 53), none, .mov (.tmp 1)⟩,
 ⟨(some 54), none, .call (.fn 11) [(.tmp 51), (.tmp 52), (.tmp 53)]⟩,
 ⟨(some 50), none, .mov (.tmp 54)⟩,
 ⟨(some 55), none, .ext (.tmp 50) 0⟩,
 ⟨(some 56), none, .ext (.tmp 50) 1⟩,
 ⟨(some 17), none, .mov (.tmp 55)⟩,
 ⟨(some 18), none, .mov (.tmp 56)⟩])
 (.seq (.reg [⟨(some 58), none, .load true 2 (.tmp 4)⟩,
 ⟨(some 59), none, .mov (.tmp 2)⟩,
 ⟨(some 60), none, .mov (.tmp 1)⟩,
 ⟨(some 61), none, .call (.fn 12) [(.tmp 58), (.tmp 59), (.tmp 60)]⟩,
 ⟨(some 57), none, .mov (.tmp 61)⟩,
 ⟨(some 62), none, .ext (.tmp 57) 0⟩,
 ⟨(some 63), none, .ext (.tmp 57) 1⟩,
 ⟨(some 19), none, .mov (.tmp 62)⟩,
 ⟨(some 20), none, .mov (.tmp 63)⟩])
 (.seq (.reg [⟨(some 64), none, .mov (.tmp 9)⟩,
 ⟨(some 65), none, .mov (.tmp 11)⟩,
 ⟨(some 66), none, .call (.fn 13) [(.tmp 64), (.tmp 65)]⟩,
 ⟨(some 67), none, .mov (.tmp 66)⟩,
 ⟨(some 68), (some (67, true)), .mov (.tmp 10)⟩,
 ⟨(some 69), (some (67, true)), .mov (.tmp 12)⟩,
 ⟨(some 70), (some (67, true)), .bin .eql (.tmp 68) (.tmp 69)⟩,
 ⟨(some 71), none, .pick (.tmp 67) (.tmp 70) (.lit (.bool false))⟩,
 ⟨(some 72), none, .mov (.tmp 71)⟩,
 ⟨(some 73), (some (72, true)), .mov (.tmp 13)⟩,
 ⟨(some 74), (some (72, true)), .mov (.tmp 15)⟩,
 ⟨(some 75), (some (72, true)), .bin .eql (.tmp 73) (.tmp 74)⟩,
 ⟨(some 76), none, .pick (.tmp 72) (.tmp 75) (.lit (.bool false))⟩,
 ⟨(some 77), none, .mov (.tmp 76)⟩,
 ⟨(some 78), (some (77, true)), .mov (.tmp 14)⟩,
 ⟨(some 79), (some (77, true)), .mov (.tmp 16)⟩,
 ⟨(some 80), (some (77, true)), .bin .eql (.tmp 78) (.tmp 79)⟩,
 ⟨(some 81), none, .pick (.tmp 77) (.tmp 80) (.lit (.bool false))⟩,
 ⟨(some 82), none, .mov (.tmp 81)⟩,
 ⟨(some 83), (some (82, true)), .mov (.tmp 17)⟩,
 ⟨(some 84), (some (82, true)), .mov (.tmp 19)⟩,
 ⟨(some 85), (some (82, true)), .call (.fn 14) [(.tmp 83), (.tmp 84)]⟩,
 ⟨(some 86), none, .pick (.tmp 82) (.tmp 85) (.lit (.bool false))⟩,
 ⟨(some 87), none, .mov (.tmp 86)⟩,
 ⟨(some 88), (some (87, true)), .mov (.tmp 18)⟩,
 ⟨(some 89), (some (87, true)), .mov (.tmp 20)⟩,
 ⟨(some 90), (some (87, true)), .bin .eql (.tmp 88) (.tmp 89)⟩,
 ⟨(some 91), none, .pick (.tmp 87) (.tmp 90) (.lit (.bool false))⟩,
 ⟨(some 92), none, .mov (.tmp 91)⟩,
 ⟨(some 93), (some (92, true)), .call (.fn 6) []⟩,
 ⟨(some 94), none, .pick (.tmp 92) (.tmp 93) (.lit (.bool false))⟩,
 ⟨(some 8), none, .mov (.tmp 94)⟩])
 (.ret)))))))))
theorem k3 : FnC Tryz.prog 3 95 [] [] [.tmp 8] c3 4 := ⟨Tryz.f3, _, Tryz.func3, rfl, by decide, rfl, by decide, by kernel_rfl, by kernel_rfl⟩
/-- dipworks/dipworkslaw07.WatchWays -/
def c4 : AC :=
 .seq (.reg [⟨(some 3), none, .box (.tmp 0)⟩,
 ⟨(some 6), none, .mov (.lit (.bool false))⟩])
 (.seq (.seq (.reg [⟨(some 29), none, .load true 2 (.tmp 3)⟩,
 ⟨(some 30), none, .call (.fn 5) [(.tmp 29)]⟩,
 ⟨(some 31), none, .mov (.tmp 30)⟩,
 ⟨(some 32), (some (31, false)), .load true 2 (.tmp 3)⟩,
 ⟨(some 33), (some (31, false)), .call (.fn 15) [(.tmp 32)]⟩,
 ⟨(some 34), (some (31, false)), .bin .gtr (.tmp 33) (.lit (.int .i64 1))⟩,
 ⟨(some 35), (some (31, false)), .mov (.tmp 34)⟩,
 ⟨(some 36), (some (35, true)), .load true 2 (.tmp 3)⟩,
 ⟨(some 37), (some (35, true)), .call (.fn 16) [(.tmp 36)]⟩,
 ⟨(some 38), (some (31, false)), .pick (.tmp 35) (.tmp 37) (.lit (.bool false))⟩,
 ⟨(some 39), none, .pick (.tmp 31) (.lit (.bool true)) (.tmp 38)⟩])
 (.cond (.tmp 39) (.seq (.reg [⟨(some 40), none, .call (.fn 6) []⟩,
 ⟨(some 6), none, .mov (.tmp 40)⟩])
 (.ret))
 (.skip)))
 (.seq (.reg [⟨(some 42), none, .load true 2 (.tmp 3)⟩,
 ⟨(some 43), none, .call (.fn 17) [(.tmp 42)]⟩,
 ⟨(some 41), none, .mov (.tmp 43)⟩,
 ⟨(some 44), none, .ext (.tmp 41) 0⟩,
 ⟨(some 45), none, .ext (.tmp 41) 1⟩,
 ⟨(some 7), none, .mov (.tmp 44)⟩,
 ⟨(some 8), none, .mov (.tmp 45)⟩])
 (.seq (.reg [⟨(some 47), none, .load true 2 (.tmp 3)⟩,
 ⟨(some 48), none, .call (.fn 18) [(.tmp 47)]⟩,
 ⟨(some 46), none, .mov (.tmp 48)⟩,
 ⟨(some 49), none, .ext (.tmp 46) 0⟩,
 ⟨(some 50), none, .ext (.tmp 46) 1⟩,
 ⟨(some 9), none, .mov (.tmp 49)⟩,
 ⟨(some 10), none, .mov (.tmp 50)⟩])
 (.seq (.reg [⟨(some 52), none, .load true 2 (.tmp 3)⟩,
 ⟨(some 53), none, .mov (.tmp 2)⟩,
 ⟨(some 54), none, .call (.fn 19) [(.tmp 52), (.tmp 53)]⟩,
 ⟨(some 51), none, .mov (.tmp 54)⟩,
 ⟨(some 55), none, .ext (.tmp 51) 0⟩,
 ⟨(some 56), none, .ext (.tmp 51) 1⟩,
 ⟨(some 11), none, .mov (.tmp 55)⟩,
 ⟨(some 12), none, .mov (.tmp 56)⟩])
 (.seq (.reg [⟨(some 58), none, .load true 2 (.tmp 3)⟩,
 ⟨(some 59), none, .mov (.tmp 2)⟩,
 ⟨(some 60), none, .call (.fn 20) [(.tmp 58), (.tmp 59)]⟩,
 ⟨(some 57), none, .mov (.tmp 60)⟩,
 ⟨(some 61), none, .ext (.tmp 57) 0⟩,
 ⟨(some 62), none, .ext (.tmp 57) 1⟩,
 ⟨(some 13), none, .mov (.tmp 61)⟩,
 ⟨(some 14), none, .mov (.tmp 62)⟩])
 (.seq (.reg [⟨(some 64), none, .load true 2 (.tmp 3)⟩,
 ⟨(some 65), none, .mov (.tmp 1)⟩,
 ⟨(some 66), none, .call (.fn 21) [(.tmp 64), (.tmp 65)]⟩,
 ⟨(some 63), none, .mov (.tmp 66)⟩,
 ⟨(some 67), none, .ext (.tmp 63) 0⟩,
 ⟨(some 68), none, .ext (.tmp 63) 1⟩,
 ⟨(some 69), none, .ext (.tmp 63) 2⟩,
 ⟨(some 15), none, .mov (.tmp 67)⟩,
 ⟨(some 16), none, .mov (.tmp 68)⟩,
 ⟨(some 17), none, .mov (.tmp 69)⟩])
 (.seq (.reg [⟨(some 71), none, .load true 2 (.tmp 3)⟩,
 ⟨(some 72), none, .mov (.tmp 1)⟩,
 ⟨(some 73), none, .call (.fn 22) [(.tmp 71), (.tmp 72)]⟩,
 ⟨(some 70), none, .mov (.tmp 73)⟩,
 ⟨(some 74), none, .ext (.tmp 70) 0⟩,
 ⟨(some 75), none, .ext (.tmp 70) 1⟩,
 ⟨(some 76), none, .ext (.tmp 70) 2⟩,
 ⟨(some 18), none, .mov (.tmp 74)⟩,
 ⟨(some 19), none, .mov (.tmp 75)⟩,
 ⟨(some 20), none, .mov (.tmp 76)⟩])
 (.seq (.seq (.reg [⟨(some 77), none, .mov (.tmp 7)⟩,
 ⟨(some 78), none, .mov (.tmp 9)⟩,
 ⟨(some 79), none, .bin .neq (.tmp 77) (.tmp 78)⟩,
 ⟨(some 80), none, .mov (.tmp 79)⟩,
 ⟨(some 81), (some (80, false)), .mov (.tmp 8)⟩,
 ⟨(some 82), (some (80, false)), .mov (.tmp 10)⟩,
 ⟨(some 83), (some (80, false)), .bin .neq (.tmp 81) (.tmp 82)⟩,
 ⟨(some 84), none, .pick (.tmp 80) (.lit (.bool true)) (.tmp 83)⟩,
 ⟨(some 85), none, .mov (.tmp 84)⟩,
 ⟨(some 86), (some (85, false)), .mov (.tmp 11)⟩,
 ⟨(some 87), (some (85, false)), .mov (.tmp 13)⟩,
 ⟨(some 88), (some (85, false)), .bin .neq (.tmp 86) (.tmp 87)⟩,
 ⟨(some 89), none, .pick (.tmp 85) (.lit (.bool true)) (.tmp 88)⟩,
 ⟨(some 90), none, .mov (.tmp 89)⟩,
 ⟨(some 91), (some (90, false)), .mov (.tmp 12)⟩,
 ⟨(some 92), (some (90, false)), .mov (.tmp 14)⟩,
 ⟨(some 93), (some (90, false)), .bin .neq (.tmp 91) (.tmp 92)⟩,
 ⟨(some 94), none, .pick (.tmp 90) (.lit (.bool true)) (.tmp 93)⟩,
 ⟨(some 95), none, .mov (.tmp 94)⟩,
 ⟨(some 96), (some (95, false)), .mov (.tmp 15)⟩,
 ⟨(some 97), (some (95, false)), .mov (.tmp 18)⟩,
 ⟨(some 98), (some (95, false)), .bin .neq (.tmp 96) (.tmp 97)⟩,
 ⟨(some 99), none, .pick (.tmp 95) (.lit (.bool true)) (.tmp 98)⟩,
 ⟨(some 100), none, .mov (.tmp 99)⟩,
 ⟨(some 101), (some (100, false)), .mov (.tmp 16)⟩,
 ⟨(some 102), (some (100, false)), .mov (.tmp 19)⟩,
 ⟨(some 103), (some (100, false)), .eqb true (.tmp 101) (.tmp 102)⟩,
 ⟨(some 104), none, .pick (.tmp 100) (.lit (.bool true)) (.tmp 103)⟩,
 ⟨(some 105), none, .mov (.tmp 104)⟩,
 ⟨(some 106), (some (105, false)), .mov (.tmp 17)⟩,
 ⟨(some 107), (some (105, false)), .mov (.tmp 20)⟩,
 ⟨(some 108), (some (105, false)), .bin .neq (.tmp 106) (.tmp 107)⟩,
 ⟨(some 109), none, .pick (.tmp 105) (.lit (.bool true)) (.tmp 108)⟩])
 (.cond (.tmp 109) (.seq (.reg [⟨(some 6), none, .mov (.lit (.bool false))⟩])
 (.ret))
 (.skip)))
 (.seq (.reg [⟨(some 111), none, .load true 2 (.tmp 3)⟩,
 ⟨(some 112), none, .call (.fn 23) [(.tmp 111)]⟩,
 ⟨(some 110), none, .mov (.tmp 112)⟩,
 ⟨(some 113), none, .ext (.tmp 110) 0⟩,
 ⟨(some 114), none, .ext (.tmp 110) 1⟩,
 ⟨(some 21), none, .mov (.tmp 113)⟩,
 ⟨(some 22), none, .mov (.tmp 114)⟩])
 (.seq (.reg [⟨(some 116), none, .load true 2 (.tmp 3)⟩,
 ⟨(some 117), none, .call (.fn 24) [(.tmp 116)]⟩,
 ⟨(some 115), none, .mov (.tmp 117)⟩,
 ⟨(some 118), none, .ext (.tmp 115) 0⟩,
 ⟨(some 119), none, .ext (.tmp 115) 1⟩,
 ⟨(some 23), none, .mov (.tmp 118)⟩,
 ⟨(some 24), none, .mov (.tmp 119)⟩])
 (.seq (.reg [⟨(some 121), none, .load true 2 (.tmp 3)⟩,
 ⟨(some 122), none, .call (.fn 25) [(.tmp 121)]⟩,
 ⟨(some 120), none, .mov (.tmp 122)⟩,
 ⟨(some 123), none, .ext (.tmp 120) 0⟩,
 ⟨(some 124), none, .ext (.tmp 120) 1⟩,
 ⟨(some 25), none, .mov (.tmp 123)⟩,
 ⟨(some 26), none, .mov (.tmp 124)⟩])
 (.seq (.reg [⟨(some 126), none, .load true 2 (.tmp 3)⟩,
 ⟨(some 127), none, .call (.fn 26) [(.tmp 126)]⟩,
 ⟨(some 125), none, .mov (.tmp 127)⟩,
 ⟨(some 128), none, .ext (.tmp 125) 0⟩,
 ⟨(some 129), none, .ext (.tmp 125) 1⟩,
 ⟨(some 27), none, .mov (.tmp 128)⟩,
 ⟨(some 28), none, .mov (.tmp 129)⟩])
 (.seq (.reg [⟨(some 130), none, .mov (.tmp 21)⟩,
 ⟨(some 131), none, .mov (.tmp 23)⟩,
 ⟨(some 132), none, .call (.fn 13) [(.tmp 130), (.tmp 131)]⟩,
 ⟨(some 133), none, .mov (.tmp 132)⟩,
 ⟨(some 134), (some (133, true)), .mov (.tmp 22)⟩,
 ⟨(some 135), (some (133, true)), .mov (.tmp 24)⟩,
 ⟨(some 136), (some (133, true)), .bin .eql (.tmp 134) (.tmp 135)⟩,
 ⟨(some 137), none, .pick (.tmp 133) (.tmp 136) (.lit (.bool false))⟩,
 ⟨(some 138), none, .mov (.tmp 137)⟩,
 ⟨(some 139), (some (138, true)), .mov (.tmp 25)⟩,
 ⟨(some 140), (some (138, true)), .mov (.tmp 27)⟩,
 ⟨(some 141), (some (138, true)), .bin .eql (.tmp 139) (.tmp 140)⟩,
 ⟨(some 142), none, .pick (.tmp 138) (.tmp 141) (.lit (.bool false))⟩,
 ⟨(some 143), none, .mov (.tmp 142)⟩,
 ⟨(some 144), (some (143, true)), .mov (.tmp 26)⟩,
 ⟨(some 145), (some (143, true)), .mov (.tmp 28)⟩,
 ⟨(some 146), (some (143, true)), .bin .eql (.tmp 144) (.tmp 145)⟩,
 ⟨(some 147), none, .pick (.tmp 143) (.tmp 146) (.lit (.bool false))⟩,
 ⟨(some 148), none, .mov (.tmp 147)⟩,
 ⟨(some 149), (some (148, true)), .call (.fn 6) []⟩,
 ⟨(some 150), none, .pick (.tmp 148) (.tmp 149) (.lit (.bool false))⟩,
 ⟨(some 6), none, .mov (.tmp 150)⟩])
 (.ret))))))))))))))
theorem k4 : FnC Tryz.prog 4 151 [] [] [.tmp 6] c4 3 := ⟨Tryz.f4, _, Tryz.func4, rfl, by decide, rfl, by decide, by kernel_rfl, by kernel_rfl⟩
/-- dipworks/dipworkslaw07.still -/
def c15 : AC :=
 .seq (.reg [⟨(some 1), none, .box (.tmp 0)⟩,
 ⟨(some 2), none, .mov (.lit (.int .i64 0))⟩])
 (.seq (.seq (.reg [⟨(some 5), none, .faddr 1 (.tmp 1)⟩,
 ⟨(some 6), none, .load false 1 (.tmp 5)⟩,
 ⟨(some 7), none, .len (.tmp 6)⟩,
 ⟨(some 8), none, .mov (.lit (.int .i64 0))⟩])
 (.block 0 (.loop (.seq (.reg [⟨(some 9), none, .bin .lss (.tmp 8) (.tmp 7)⟩])
 (.seq (.cond (.tmp 9) (.skip)
 (.exit 0))
 (.seq (.block 1 (.seq (.reg [⟨(some 10), none, .iaddr 5 (.tmp 6) (.tmp 8)⟩,
 ⟨(some 11), none, .load true 5 (.tmp 10)⟩,
 ⟨(some 4), none, .alloc [(.int .i64 0), (.int .i64 0), (.int .i64 0), (.int .i64 0), (.bool false)]⟩,
 ⟨none, none, .store 5 (.tmp 4) (.tmp 11)⟩])
 (.seq (.reg [⟨(some 12), none, .faddr 4 (.tmp 4)⟩,
 ⟨(some 13), none, .load false 1 (.tmp 12)⟩])
 (.cond (.tmp 13) (.reg [⟨(some 14), none, .mov (.tmp 2)⟩,
 ⟨(some 15), none, .bin .add (.tmp 14) (.lit (.int .i64 1))⟩,
 ⟨(some 2), none, .mov (.tmp 15)⟩])
 (.skip)))))
 (.reg [⟨(some 16), none, .bin .add (.tmp 8) (.lit (.int .i64 1))⟩,
 ⟨(some 8), none, .mov (.tmp 16)⟩])))))))
 (.seq (.reg [⟨(some 17), none, .mov (.tmp 2)⟩,
 ⟨(some 2), none, .mov (.tmp 17)⟩])
 (.ret)))
theorem k15 : FnC Tryz.prog 15 18 [] [] [.tmp 2] c15 1 := ⟨Tryz.f15, _, Tryz.func15, rfl, by decide, rfl, by decide, by kernel_rfl, by kernel_rfl⟩
end Go.Proofs.YtnmmhkkmejbckaaGreatDoor

/- WatchTells, WatchWays. -/
namespace Go.Proofs.YtnmmhkkmejbckaaGreatDoor
open Go Go.Ab

theorem wks_tN : ∀ ts : List T, E.wks (ts.map .t) = ts
  | [] => by unfold E.wks; rfl
  | t :: ts => by
    rw [List.map_cons]
    unfold E.wks
    rw [wks_tN ts]
    unfold E.wk
    rfl
/-- A call, of trees of which less is told. -/
theorem ACallN.le {P : Program} {f : Nat} {ts us : List T} {σ : List AO} {R : Out → List AO → Prop} (hle : ∀ h vs, RepTs h us vs → RepTs h ts vs) (h : ACall P f (ts.map .t) σ R) : ACall P f (us.map .t) σ R :=
  ⟨h.1, fun C k w ι vis D vs hC M r => h.2 C k w ι vis D vs hC M (RepEs.map_t (hle _ _ (by have := RepEs.wk _ _ r; rwa [wks_tN] at this)))⟩
theorem nil_sliceN {h : Hp} {es : Nat} {v : Value} (r : RepT h (.lit (.slice none 0 0)) v) : RepT h (.slice es []) v := by
  unfold RepT at r ⊢
  exact ⟨none, 0, 0, r, rfl, Nat.le_refl _, .inl ⟨rfl, rfl, rfl⟩⟩
theorem nil2 {f es : Nat} {R : Out → List AO → Prop} (h : ACall Tryz.prog f [.t (.slice es []), .t (.slice es [])] [] R) : ACall Tryz.prog f [.t (.lit (.slice none 0 0)), .t (.lit (.slice none 0 0))] [] R := by
  refine ACallN.le (ts := [.slice es [], .slice es []]) (us := [.lit (.slice none 0 0), .lit (.slice none 0 0)]) ?_ h
  intro h vs r
  unfold RepTs at r ⊢
  obtain ⟨u, us, e, r1, r2⟩ := r
  refine ⟨u, us, e, nil_sliceN r1, ?_⟩
  unfold RepTs at r2 ⊢
  obtain ⟨u2, us2, e2, r3, r4⟩ := r2
  exact ⟨u2, us2, e2, nil_sliceN r3, r4⟩
def lsO (r : List Int × Int) : T := if r.2 = 0 then .slice 1 (r.1.map vi) else .lit (.slice none 0 0)
def spO (r : List (Int × Int) × Int) : T := if r.2 = 0 then .slice 2 (tSps r.1) else .lit (.slice none 0 0)
theorem intsO (r : List Int × Int) (hl : r.1.length < 9223372036854775808) : ACall Tryz.prog 13 [.t (lsO r), .t (lsO r)] [] (ret (vb true)) := by
  unfold lsO
  by_cases h : r.2 = 0
  · rw [if_pos h]
    have := ints_ok r.1 r.1 hl
    rw [decide_eq_true rfl] at this
    exact this
  · rw [if_neg h]
    exact nil2 (es := 1) (ints_ok [] [] (by decide))
theorem spansO (r : List (Int × Int) × Int) (hl : r.1.length < 9223372036854775808) : ACall Tryz.prog 14 [.t (spO r), .t (spO r)] [] (ret (vb true)) := by
  unfold spO
  by_cases h : r.2 = 0
  · rw [if_pos h]
    have := spans_ok r.1 r.1 hl
    rw [decide_eq_true rfl] at this
    exact this
  · rw [if_neg h]
    exact nil2 (es := 2) (spans_ok [] [] (by decide))
def stillN (fs : List Fi) : Nat := (fs.filter fun f => f.stopped).length
set_option maxRecDepth 8000 in
theorem still_ok (w : Wa) (hL : Lens w) : ACall Tryz.prog 15 [.t (tWa w)] [] (ret (vi (stillN w.fs))) := by
  refine ACall.walk k15 ?_
  have hl := hL.f
  unfold c15 tWa wa2
  simp only [go_sem, Nat.reduceEqDiff, Nat.reduceAdd, List.length_map]
  refine awpL_loopK w.fs.length (fun j s => s = { env := [(8, .t (vi j)), (2, .t (vi (stillN (w.fs.take j)))), (6, .t (.slice 5 (w.fs.map tFi))), (7, .t (vi w.fs.length))], σ := [] })
    ⟨_, Sub.gc [] [8, 2, 6, 7] rfl rfl, St.gc_mk rfl rfl rfl rfl⟩ ?_
  rintro j s hj rfl
  have hj0 : ((j : Int) < 0) = False := eq_false (by omega)
  cases g : decide ((j : Int) < w.fs.length)
  · have hje : j = w.fs.length := by have := of_decide_eq_false g; omega
    rw [hje] at g ⊢
    rw [List.take_length]
    simp only [go_sem, Nat.reduceEqDiff, g]
    exact finL_ret [] ⟨rfl, rfl, rfl, rfl, _, rfl, ret_mk rfl⟩
  have hjl : j < w.fs.length := by have := of_decide_eq_true g; omega
  have hwj : IntKind.i64.wrap ((j : Int) + 1) = ((j + 1 : Nat) : Int) := by rw [wrap_id (by omega) (by omega)]; omega
  have hx : w.fs[j]? = some w.fs[j] := List.getElem?_eq_getElem hjl
  have tx : w.fs.take (j + 1) = w.fs.take j ++ [w.fs[j]] := by rw [List.take_add_one, hx]; rfl
  have hle : stillN (w.fs.take j) ≤ j := by
    unfold stillN
    refine Nat.le_trans (List.length_filter_le _ _) ?_
    rw [List.length_take]; omega
  have hst : stillN (w.fs.take j ++ [w.fs[j]]) = stillN (w.fs.take j) + if w.fs[j].stopped then 1 else 0 := by
    unfold stillN
    rw [List.filter_append, List.length_append]
    congr 1
    cases h : w.fs[j].stopped <;> simp [h]
  rw [tx, hst]
  clear tx hst
  generalize w.fs[j] = f at *
  generalize stillN (w.fs.take j) = N at *
  have hto : tFi f = .agg [vi f.hut, vi f.minute, vi f.lo, vi f.hi, vb f.stopped] := rfl
  have hwN : IntKind.i64.wrap ((N : Int) + 1) = ((N + 1 : Nat) : Int) := by rw [wrap_id (by omega) (by omega)]; omega
  cases hs : f.stopped
  · simp only [go_sem, Nat.reduceEqDiff, Nat.reduceAdd, undef, g, List.getElem?_map, hx, Option.map_some, hto, hs, hwj, Bool.false_eq_true, if_false, Nat.add_zero]
    exact ⟨hjl, _, Sub.gc [] [8, 2, 6, 7] rfl rfl, St.gc_mk rfl rfl rfl rfl⟩
  · simp only [go_sem, Nat.reduceEqDiff, Nat.reduceAdd, undef, g, List.getElem?_map, hx, Option.map_some, hto, hs, hwj, hwN, if_true]
    exact ⟨hjl, _, Sub.gc [] [8, 2, 6, 7] rfl rfl, St.gc_mk rfl rfl rfl rfl⟩
theorem shows_len {w : Wa} {i m : Int} : (specShows w i m).1.length < 9223372036854775808 := by
  unfold specShows
  split
  · split
    · rename_i hok hc
      have hw := (w.ok_iff).1 hok
      cases ho : w.os[i.toNat]? with
      | none => simp
      | some o =>
        simp only
        split
        · rename_i hs
          have hxo := hw.os o (List.mem_of_getElem? ho)
          have hP := (showL_P hxo hs).2.2.1
          rw [handsL_len hxo hs] at hP
          have hg := hxo.gain
          simp only
          omega
        · simp
    · simp
  · simp
theorem stopped_len {w : Wa} {i k : Int} : (specStopped w i k).1.length < 9223372036854775808 := by
  unfold specStopped
  split
  · split
    · rename_i hok hc
      have hw := (w.ok_iff).1 hok
      cases hf : w.fs[i.toNat]? with
      | none => simp
      | some f =>
        cases ho : w.os[k.toNat]? with
        | none => simp
        | some o =>
          simp only
          split
          · split
            · simp
            · simp only
              have h1 := minsL_len o (hw.os o (List.mem_of_getElem? ho)) f (hw.fs f (List.mem_of_getElem? hf))
              have h2 := spansL_len (minsL o f)
              omega
          · simp
    · simp
  · simp
theorem sure_len {w : Wa} (hL : Lens w) : (specSure w).1.length < 9223372036854775808 := by
  have := hL.f
  unfold specSure
  split
  · split
    · simp
    · unfold sureL; simp; omega
  · simp
set_option maxRecDepth 8000 in
set_option maxHeartbeats 4000000 in
theorem WatchTells_ok (w : Wa) (hL : Lens w) (o i m : Int) : ACall Tryz.prog 3 [.t (tWa w), .t (vi o), .t (vi i), .t (vi m)] [] (res (.ret (.t (vb true)))) := by
  refine ACall.walk k3 ?_
  have h5 := long_ok w
  have a1 : ACall Tryz.prog 7 [.t (tWa w), .t (vi o), .t (vi m)] [] (res (.ret (.tup [.t (lsO (specShows w o m)), .t (vi (specShows w o m).2)]))) := Shows_ok w o m hL
  have a2 : ACall Tryz.prog 8 [.t (tWa w), .t (vi o), .t (vi m)] [] (res (.ret (.tup [.t (lsO (specShows w o m)), .t (vi (specShows w o m).2)]))) := rShows_ok w o m hL
  have b1 := Fits_ok w i hL
  have b2 := rFits_ok w i hL
  have c1 : ACall Tryz.prog 11 [.t (tWa w), .t (vi i), .t (vi o)] [] (res (.ret (.tup [.t (spO (specStopped w i o)), .t (vi (specStopped w i o).2)]))) := Stopped_ok w i o hL
  have c2 : ACall Tryz.prog 12 [.t (tWa w), .t (vi i), .t (vi o)] [] (res (.ret (.tup [.t (spO (specStopped w i o)), .t (vi (specStopped w i o).2)]))) := rStopped_ok w i o hL
  have d1 := intsO (specShows w o m) shows_len
  have d2 := spansO (specStopped w i o) stopped_len
  have hEE : ∀ a : Int, (a == a) = true := fun a => beq_self_eq_true a
  simp only [oneE] at b1 b2
  generalize lsO (specShows w o m) = A at *
  generalize spO (specStopped w i o) = B at *
  generalize (specShows w o m).2 = E1 at *
  generalize (specStopped w i o).2 = E2 at *
  generalize (specFits w i).1 = F1 at *
  generalize (specFits w i).2 = F2 at *
  unfold c3
  unfold tWa wa2 at h5 a1 a2 b1 b2 c1 c2 ⊢
  simp only [go_sem, Nat.reduceEqDiff, Nat.reduceAdd]
  refine ACallL.quiet1 h5 rfl rfl rfl ?_
  cases hlg : w.long
  rotate_left
  · simp only [go_sem, Nat.reduceEqDiff]
    refine ACallL.quiet1 alive_ok rfl rfl rfl ?_
    simp only [go_sem, Nat.reduceEqDiff]
    exact finL_ret [] ⟨rfl, rfl, rfl, rfl, _, rfl, res_mk rfl⟩
  simp only [go_sem, Nat.reduceEqDiff, Nat.reduceAdd]
  refine ACallL.fresh1 a1 rfl ?_
  simp only [go_sem, Nat.reduceEqDiff, Nat.reduceAdd]
  refine ACallL.fresh1 a2 rfl ?_
  simp only [go_sem, Nat.reduceEqDiff, Nat.reduceAdd]
  refine ACallL.quiet1 b1 rfl rfl rfl ?_
  simp only [go_sem, Nat.reduceEqDiff, Nat.reduceAdd]
  refine ACallL.quiet1 b2 rfl rfl rfl ?_
  simp only [go_sem, Nat.reduceEqDiff, Nat.reduceAdd]
  refine ACallL.fresh1 c1 rfl ?_
  simp only [go_sem, Nat.reduceEqDiff, Nat.reduceAdd]
  refine ACallL.fresh1 c2 rfl ?_
  simp only [go_sem, Nat.reduceEqDiff]
  refine ACallL.quiet1 d1 rfl rfl rfl ?_
  simp only [go_sem, Nat.reduceEqDiff, beq_self_eq_true]
  refine ACallL.quiet1 d2 rfl rfl rfl ?_
  simp only [go_sem, Nat.reduceEqDiff, beq_self_eq_true]
  refine ACallL.quiet1 alive_ok rfl rfl rfl ?_
  simp only [go_sem, Nat.reduceEqDiff]
  exact finL_ret [] ⟨rfl, rfl, rfl, rfl, _, rfl, res_mk rfl⟩
set_option maxRecDepth 8000 in
set_option maxHeartbeats 8000000 in
theorem WatchWays_ok (w : Wa) (hL : Lens w) (o i : Int) : ACall Tryz.prog 4 [.t (tWa w), .t (vi o), .t (vi i)] [] (res (.ret (.t (vb true)))) := by
  refine ACall.walk k4 ?_
  have h5 := long_ok w
  have h6 := still_ok w hL
  have h7 := rwatches_ok w hL
  have a1 := Count_ok w hL
  have a2 := rCount_ok w hL
  have b1 := Can_ok w i hL
  have b2 := rCan_ok w i hL
  have c1 := Where_ok w o hL
  have c2 := rWhere_ok w o hL
  have d1 : ACall Tryz.prog 23 [.t (tWa w)] [] (res (.ret (.tup [.t (lsO (specSure w)), .t (vi (specSure w).2)]))) := Sure_ok w hL
  have d2 : ACall Tryz.prog 24 [.t (tWa w)] [] (res (.ret (.tup [.t (lsO (specSure w)), .t (vi (specSure w).2)]))) := rSure_ok w hL
  have e1 := Clash_ok w hL
  have e2 := rClash_ok w hL
  have f1 := intsO (specSure w) (sure_len hL)
  have hEE : ∀ a : Int, (a == a) = true := fun a => beq_self_eq_true a
  have hNE : ∀ a : Int, (a != a) = false := fun a => by simp
  simp only [oneE] at a1 a2 b1 b2 e1 e2
  simp only [whrE] at c1 c2
  generalize lsO (specSure w) = A at *
  generalize (specSure w).2 = E1 at *
  generalize (specCount w).1 = C1 at *
  generalize (specCount w).2 = C2 at *
  generalize (specCan w i).1 = B1 at *
  generalize (specCan w i).2 = B2 at *
  generalize (specWhere w o).1 = W1 at *
  generalize (specWhere w o).2.1 = W2 at *
  generalize (specWhere w o).2.2 = W3 at *
  generalize (specClash w).1 = D1 at *
  generalize (specClash w).2 = D2 at *
  unfold c4
  unfold tWa wa2 at h5 h6 h7 a1 a2 b1 b2 c1 c2 d1 d2 e1 e2 ⊢
  refine awpL_chop 2 (c1 := ?g1) (c2 := ?g2) (fun st => lk st.env 1 = .t (vi o) ∧ lk st.env 2 = .t (vi i) ∧ lk st.env 3 = .ptr 0 0 ∧ st.σ = [.cells [.t (.slice 4 (w.os.map tOw)), .t (.slice 5 (w.fs.map tFi))]] ∧ st.df = [] ∧ st.k = 0) ?hc ?_ ?_
  case hc => simp only [chop]; rfl
  · simp only [go_sem, Nat.reduceEqDiff, Nat.reduceAdd]
    refine ACallL.quiet1 h5 rfl rfl rfl ?_
    cases hlg : w.long
    rotate_left
    · simp only [go_sem, Nat.reduceEqDiff, Bool.not_true, undef]
      refine ACallL.quiet1 alive_ok rfl rfl rfl ?_
      simp only [go_sem, Nat.reduceEqDiff]
      exact finL_ret [] ⟨rfl, rfl, rfl, rfl, _, rfl, res_mk rfl⟩
    simp only [go_sem, Nat.reduceEqDiff, Nat.reduceAdd, beq_self_eq_true]
    refine ACallL.quiet1 h6 rfl rfl rfl ?_
    cases hst : decide ((stillN w.fs : Int) > 1)
    · simp only [go_sem, Nat.reduceEqDiff, undef, beq_self_eq_true, hst]
    · simp only [go_sem, Nat.reduceEqDiff, Nat.reduceAdd, beq_self_eq_true, hst]
      refine ACallL.quiet1 h7 rfl rfl rfl ?_
      cases hok : w.ok
      · simp only [go_sem, Nat.reduceEqDiff, beq_self_eq_true]
      · simp only [go_sem, Nat.reduceEqDiff, beq_self_eq_true]
        refine ACallL.quiet1 alive_ok rfl rfl rfl ?_
        simp only [go_sem, Nat.reduceEqDiff]
        exact finL_ret [] ⟨rfl, rfl, rfl, rfl, _, rfl, res_mk rfl⟩
  rintro ⟨env, σ, df, dk⟩ ⟨p1, p2, p3, hσ, hdf, hk⟩
  simp only at p1 p2 p3 hσ hdf hk
  subst hσ hdf hk
  have eqW : ∀ b : Bool, (b == b) = true := fun b => beq_self_eq_true b
  simp only [go_sem, Nat.reduceAdd, p3]
  refine ACallL.quiet1 a1 rfl rfl rfl ?_
  simp only [go_sem, Nat.reduceEqDiff, Nat.reduceAdd, p3]
  refine ACallL.quiet1 a2 rfl rfl rfl ?_
  simp only [go_sem, Nat.reduceEqDiff, Nat.reduceAdd, p2, p3]
  refine ACallL.quiet1 b1 rfl rfl rfl ?_
  simp only [go_sem, Nat.reduceEqDiff, Nat.reduceAdd, p2, p3]
  refine ACallL.quiet1 b2 rfl rfl rfl ?_
  simp only [go_sem, Nat.reduceEqDiff, Nat.reduceAdd, p1, p3]
  refine ACallL.quiet1 c1 rfl rfl rfl ?_
  simp only [go_sem, Nat.reduceEqDiff, Nat.reduceAdd, p1, p3]
  refine ACallL.quiet1 c2 rfl rfl rfl ?_
  cases W2
  all_goals
    simp only [go_sem, Nat.reduceEqDiff, Nat.reduceAdd, Bool.not_true, beq_self_eq_true, bne_self_eq_false, p3]
    refine ACallL.fresh1 d1 rfl ?_
    simp only [go_sem, Nat.reduceEqDiff, Nat.reduceAdd, p3]
    refine ACallL.fresh1 d2 rfl ?_
    simp only [go_sem, Nat.reduceEqDiff, Nat.reduceAdd, p3]
    refine ACallL.quiet1 e1 rfl rfl rfl ?_
    simp only [go_sem, Nat.reduceEqDiff, Nat.reduceAdd, p3]
    refine ACallL.quiet1 e2 rfl rfl rfl ?_
    simp only [go_sem, Nat.reduceEqDiff]
    refine ACallL.quiet1 f1 rfl rfl rfl ?_
    simp only [go_sem, Nat.reduceEqDiff, beq_self_eq_true]
    refine ACallL.quiet1 alive_ok rfl rfl rfl ?_
    simp only [go_sem, Nat.reduceEqDiff]
    exact finL_ret [] ⟨rfl, rfl, rfl, rfl, _, rfl, res_mk rfl⟩
end Go.Proofs.YtnmmhkkmejbckaaGreatDoor
