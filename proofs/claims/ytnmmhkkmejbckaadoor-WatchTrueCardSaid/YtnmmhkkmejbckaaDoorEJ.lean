/- Proved here: laws that the statements need (WaC36, WaU4). No conditions but those that each law states. -/
import Derived.Test.YtnmmhkkmejbckaaDoorFL
import Derived.Test.YtnmmhkkmejbckaaDoorFP
import Derived.Test.YtnmmhkkmejbckaaDoorProg
import Derived.Test.YtnmmhkkmejbckaaDoorEI

set_option linter.unusedSimpArgs false
set_option linter.unusedVariables false

/- Compiled code of functions, printed by program; each is checked to be the program's. No conditions. -/
namespace Go.Proofs.YtnmmhkkmejbckaaDoor
open Go Go.Ab
/-- dipworks/dipworkslaw07.WatchStopped -/
def c6 : AC :=
 .seq (.reg [⟨(some 3), none, .box (.tmp 0)⟩,
 ⟨(some 6), none, .mov (.lit (.bool false))⟩])
 (.seq (.seq (.reg [⟨(some 20), none, .load true 2 (.tmp 3)⟩,
 ⟨(some 21), none, .call (.fn 26) [(.tmp 20)]⟩,
 ⟨(some 22), none, .mov (.tmp 21)⟩,
 ⟨(some 23), (some (22, false)), .load true 2 (.tmp 3)⟩,
 ⟨(some 24), (some (22, false)), .call (.fn 27) [(.tmp 23)]⟩,
 ⟨(some 25), (some (22, false)), .un .not (.tmp 24)⟩,
 ⟨(some 26), none, .pick (.tmp 22) (.lit (.bool true)) (.tmp 25)⟩,
 ⟨(some 27), none, .mov (.tmp 26)⟩,
 ⟨(some 28), (some (27, false)), .faddr 0 (.tmp 3)⟩,
 ⟨(some 29), (some (27, false)), .load false 1 (.tmp 28)⟩,
 ⟨(some 30), (some (27, false)), .len (.tmp 29)⟩,
 ⟨(some 31), (some (27, false)), .bin .eql (.tmp 30) (.lit (.int .i64 0))⟩,
 ⟨(some 32), none, .pick (.tmp 27) (.lit (.bool true)) (.tmp 31)⟩,
 ⟨(some 33), none, .mov (.tmp 32)⟩,
 ⟨(some 34), (some (33, false)), .faddr 1 (.tmp 3)⟩,
 ⟨(some 35), (some (33, false)), .load false 1 (.tmp 34)⟩,
 ⟨(some 36), (some (33, false)), .len (.tmp 35)⟩,
 ⟨(some 37), (some (33, false)), .bin .eql (.tmp 36) (.lit (.int .i64 0))⟩,
 ⟨(some 38), none, .pick (.tmp 33) (.lit (.bool true)) (.tmp 37)⟩])
 (.cond (.tmp 38) (.seq (.reg [⟨(some 39), none, .call (.fn 20) []⟩,
 ⟨(some 6), none, .mov (.tmp 39)⟩])
 (.ret))
 (.skip)))
 (.seq (.draw (.step ⟨(some 40), none, .mov (.tmp 1)⟩ (
 .step ⟨(some 41), none, .conv .i64 (.tmp 40)⟩ (
 .step ⟨(some 42), none, .faddr 1 (.tmp 3)⟩ (
 .step ⟨(some 43), none, .load false 1 (.tmp 42)⟩ (
 .step ⟨(some 44), none, .len (.tmp 43)⟩ (
 .step ⟨(some 45), none, .bin .rem (.tmp 41) (.tmp 44)⟩ (
 .step ⟨(some 46), none, .mov (.tmp 2)⟩ (
 .step ⟨(some 47), none, .conv .i64 (.tmp 46)⟩ (
 .step ⟨(some 48), none, .faddr 0 (.tmp 3)⟩ (
 .step ⟨(some 49), none, .load false 1 (.tmp 48)⟩ (
 .step ⟨(some 50), none, .len (.tmp 49)⟩ (
 .step ⟨(some 51), none, .bin .rem (.tmp 47) (.tmp 50)⟩ (
 .ev ⟨(some 8), none, .alloc [(.int .i64 0)]⟩ [⟨(some 50), none, .len (.tmp 49)⟩, ⟨(some 49), none, .load false 1 (.tmp 48)⟩, ⟨(some 48), none, .faddr 0 (.tmp 3)⟩, ⟨(some 44), none, .len (.tmp 43)⟩, ⟨(some 43), none, .load false 1 (.tmp 42)⟩, ⟨(some 42), none, .faddr 1 (.tmp 3)⟩] (
 .step ⟨(some 7), none, .mov (.tmp 45)⟩ (
 .ev ⟨none, none, .store 1 (.tmp 8) (.tmp 51)⟩ [] (
 .done)
 (.stop)))
 (.stop)))))))))))))))
 (.seq (.draw (.step ⟨(some 52), none, .faddr 1 (.tmp 3)⟩ (
 .step ⟨(some 53), none, .load false 1 (.tmp 52)⟩ (
 .step ⟨(some 54), none, .mov (.tmp 7)⟩ (
 .step ⟨(some 55), none, .iaddr 5 (.tmp 53) (.tmp 54)⟩ (
 .step ⟨(some 56), none, .load true 5 (.tmp 55)⟩ (
 .step ⟨(some 57), none, .faddr 0 (.tmp 3)⟩ (
 .step ⟨(some 58), none, .load false 1 (.tmp 57)⟩ (
 .step ⟨(some 59), none, .load false 1 (.tmp 8)⟩ (
 .step ⟨(some 60), none, .iaddr 4 (.tmp 58) (.tmp 59)⟩ (
 .step ⟨(some 61), none, .load true 4 (.tmp 60)⟩ (
 .ev ⟨(some 9), none, .alloc [(.int .i64 0), (.int .i64 0), (.int .i64 0), (.int .i64 0), (.bool false)]⟩ [⟨(some 61), none, .load true 4 (.tmp 60)⟩, ⟨(some 60), none, .iaddr 4 (.tmp 58) (.tmp 59)⟩, ⟨(some 59), none, .load false 1 (.tmp 8)⟩, ⟨(some 58), none, .load false 1 (.tmp 57)⟩, ⟨(some 57), none, .faddr 0 (.tmp 3)⟩, ⟨(some 56), none, .load true 5 (.tmp 55)⟩, ⟨(some 55), none, .iaddr 5 (.tmp 53) (.tmp 54)⟩, ⟨(some 53), none, .load false 1 (.tmp 52)⟩, ⟨(some 52), none, .faddr 1 (.tmp 3)⟩] (
 .ev ⟨(some 10), none, .alloc [(.int .i64 0), (.int .i64 0), (.int .i64 0), (.int .i64 0)]⟩ [⟨(some 61), none, .load true 4 (.tmp 60)⟩, ⟨(some 60), none, .iaddr 4 (.tmp 58) (.tmp 59)⟩, ⟨(some 59), none, .load false 1 (.tmp 8)⟩, ⟨(some 58), none, .load false 1 (.tmp 57)⟩, ⟨(some 57), none, .faddr 0 (.tmp 3)⟩, ⟨(some 56), none, .load true 5 (.tmp 55)⟩, ⟨(some 55), none, .iaddr 5 (.tmp 53) (.tmp 54)⟩, ⟨(some 53), none, .load false 1 (.tmp 52)⟩, ⟨(some 52), none, .faddr 1 (.tmp 3)⟩] (
 .ev ⟨none, none, .store 5 (.tmp 9) (.tmp 56)⟩ [⟨(some 61), none, .load true 4 (.tmp 60)⟩, ⟨(some 60), none, .iaddr 4 (.tmp 58) (.tmp 59)⟩, ⟨(some 59), none, .load false 1 (.tmp 8)⟩, ⟨(some 58), none, .load false 1 (.tmp 57)⟩, ⟨(some 57), none, .faddr 0 (.tmp 3)⟩] (
 .ev ⟨none, none, .store 4 (.tmp 10) (.tmp 61)⟩ [] (
 .done)
 (.stop))
 (.stop))
 (.stop))
 (.ev ⟨(some 10), none, .alloc [(.int .i64 0), (.int .i64 0), (.int .i64 0), (.int .i64 0)]⟩ [⟨(some 61), none, .load true 4 (.tmp 60)⟩, ⟨(some 60), none, .iaddr 4 (.tmp 58) (.tmp 59)⟩, ⟨(some 59), none, .load false 1 (.tmp 8)⟩, ⟨(some 58), none, .load false 1 (.tmp 57)⟩, ⟨(some 57), none, .faddr 0 (.tmp 3)⟩, ⟨(some 56), none, .load true 5 (.tmp 55)⟩, ⟨(some 55), none, .iaddr 5 (.tmp 53) (.tmp 54)⟩, ⟨(some 53), none, .load false 1 (.tmp 52)⟩, ⟨(some 52), none, .faddr 1 (.tmp 3)⟩] (
 .ev ⟨(some 9), none, .alloc [(.int .i64 0), (.int .i64 0), (.int .i64 0), (.int .i64 0), (.bool false)]⟩ [⟨(some 61), none, .load true 4 (.tmp 60)⟩, ⟨(some 60), none, .iaddr 4 (.tmp 58) (.tmp 59)⟩, ⟨(some 59), none, .load false 1 (.tmp 8)⟩, ⟨(some 58), none, .load false 1 (.tmp 57)⟩, ⟨(some 57), none, .faddr 0 (.tmp 3)⟩, ⟨(some 56), none, .load true 5 (.tmp 55)⟩, ⟨(some 55), none, .iaddr 5 (.tmp 53) (.tmp 54)⟩, ⟨(some 53), none, .load false 1 (.tmp 52)⟩, ⟨(some 52), none, .faddr 1 (.tmp 3)⟩] (
 .ev ⟨none, none, .store 5 (.tmp 9) (.tmp 56)⟩ [⟨(some 61), none, .load true 4 (.tmp 60)⟩, ⟨(some 60), none, .iaddr 4 (.tmp 58) (.tmp 59)⟩, ⟨(some 59), none, .load false 1 (.tmp 8)⟩, ⟨(some 58), none, .load false 1 (.tmp 57)⟩, ⟨(some 57), none, .faddr 0 (.tmp 3)⟩] (
 .ev ⟨none, none, .store 4 (.tmp 10) (.tmp 61)⟩ [] (
 .done)
 (.stop))
 (.stop))
 (.stop))
 (.stop))))))))))))))
 (.seq (.seq (.gcp)
 (.reg [⟨(some 63), none, .load true 2 (.tmp 3)⟩,
 ⟨(some 64), none, .mov (.tmp 7)⟩,
 ⟨(some 65), none, .load false 1 (.tmp 8)⟩,
 ⟨(some 66), none, .call (.fn 14) [(.tmp 63), (.tmp 64), (.tmp 65)]⟩,
 ⟨(some 62), none, .mov (.tmp 66)⟩,
 ⟨(some 67), none, .ext (.tmp 62) 0⟩,
 ⟨(some 68), none, .ext (.tmp 62) 1⟩,
 ⟨(some 11), none, .mov (.tmp 67)⟩,
 ⟨(some 12), none, .mov (.tmp 68)⟩]))
 (.seq (.reg [⟨(some 70), none, .load true 2 (.tmp 3)⟩,
 ⟨(some 71), none, .mov (.tmp 7)⟩,
 ⟨(some 72), none, .call (.fn 13) [(.tmp 70), (.tmp 71)]⟩,
 ⟨(some 69), none, .mov (.tmp 72)⟩,
 ⟨(some 73), none, .ext (.tmp 69) 0⟩,
 ⟨(some 74), none, .ext (.tmp 69) 1⟩,
 ⟨(some 13), none, .mov (.tmp 73)⟩,
 ⟨(some 14), none, .mov (.tmp 74)⟩])
 (.seq (.seq (.reg [⟨(some 75), none, .mov (.tmp 14)⟩,
 ⟨(some 76), none, .bin .neq (.tmp 75) (.lit (.int .i64 0))⟩,
 ⟨(some 77), none, .mov (.tmp 76)⟩,
 ⟨(some 78), (some (77, false)), .mov (.tmp 13)⟩,
 ⟨(some 79), (some (77, false)), .bin .lss (.tmp 78) (.lit (.int .i64 0))⟩,
 ⟨(some 80), none, .pick (.tmp 77) (.lit (.bool true)) (.tmp 79)⟩,
 ⟨(some 81), none, .mov (.tmp 80)⟩,
 ⟨(some 82), (some (81, false)), .mov (.tmp 13)⟩,
 ⟨(some 83), (some (81, false)), .faddr 0 (.tmp 3)⟩,
 ⟨(some 84), (some (81, false)), .load false 1 (.tmp 83)⟩,
 ⟨(some 85), (some (81, false)), .len (.tmp 84)⟩,
 ⟨(some 86), (some (81, false)), .bin .shr (.tmp 82) (.tmp 85)⟩,
 ⟨(some 87), (some (81, false)), .bin .neq (.tmp 86) (.lit (.int .i64 0))⟩,
 ⟨(some 88), none, .pick (.tmp 81) (.lit (.bool true)) (.tmp 87)⟩])
 (.cond (.tmp 88) (.seq (.reg [⟨(some 6), none, .mov (.lit (.bool false))⟩])
 (.ret))
 (.skip)))
 (.seq (.reg [⟨(some 89), none, .mov (.tmp 13)⟩,
 ⟨(some 90), none, .load false 1 (.tmp 8)⟩,
 ⟨(some 91), none, .bin .shr (.tmp 89) (.tmp 90)⟩,
 ⟨(some 92), none, .bin .and (.tmp 91) (.lit (.int .i64 1))⟩,
 ⟨(some 93), none, .bin .eql (.tmp 92) (.lit (.int .i64 1))⟩,
 ⟨(some 15), none, .mov (.tmp 93)⟩])
 (.seq (.reg [⟨(some 94), none, .mkfn (.func 29) [] [(.tmp 3), (.tmp 8), (.tmp 9)]⟩,
 ⟨(some 16), none, .mov (.tmp 94)⟩])
 (.seq (.reg [⟨(some 95), none, .faddr 3 (.tmp 10)⟩,
 ⟨(some 96), none, .load false 1 (.tmp 95)⟩,
 ⟨(some 97), none, .faddr 0 (.tmp 9)⟩,
 ⟨(some 98), none, .load false 1 (.tmp 97)⟩,
 ⟨(some 99), none, .bin .shr (.tmp 96) (.tmp 98)⟩,
 ⟨(some 100), none, .bin .and (.tmp 99) (.lit (.int .i64 1))⟩,
 ⟨(some 101), none, .bin .eql (.tmp 100) (.lit (.int .i64 1))⟩,
 ⟨(some 17), none, .mov (.tmp 101)⟩])
 (.seq (.seq (.reg [⟨(some 102), none, .faddr 4 (.tmp 9)⟩,
 ⟨(some 103), none, .load false 1 (.tmp 102)⟩,
 ⟨(some 104), none, .un .not (.tmp 103)⟩])
 (.cond (.tmp 104) (.seq (.reg [⟨(some 105), none, .mov (.tmp 12)⟩,
 ⟨(some 106), none, .bin .eql (.tmp 105) (.lit (.int .i64 11))⟩,
 ⟨(some 107), none, .mov (.tmp 106)⟩,
 ⟨(some 108), (some (107, true)), .mov (.tmp 11)⟩,
 ⟨(some 109), (some (107, true)), .len (.tmp 108)⟩,
 ⟨(some 110), (some (107, true)), .bin .eql (.tmp 109) (.lit (.int .i64 0))⟩,
 ⟨(some 111), none, .pick (.tmp 107) (.tmp 110) (.lit (.bool false))⟩,
 ⟨(some 112), none, .mov (.tmp 111)⟩,
 ⟨(some 113), (some (112, true)), .mov (.tmp 15)⟩,
 ⟨(some 114), (some (112, true)), .mov (.tmp 17)⟩,
 ⟨(some 115), (some (112, true)), .mov (.tmp 114)⟩,
 ⟨(some 116), (some (115, true)), .mov (.tmp 16)⟩,
 ⟨(some 117), (some (115, true)), .faddr 1 (.tmp 9)⟩,
 ⟨(some 118), (some (115, true)), .load false 1 (.tmp 117)⟩,
 ⟨(some 119), (some (115, true)), .call (.tmp 116) [(.tmp 118)]⟩,
 ⟨(some 120), (some (112, true)), .pick (.tmp 115) (.tmp 119) (.lit (.bool false))⟩,
 ⟨(some 121), (some (112, true)), .eqb false (.tmp 113) (.tmp 120)⟩,
 ⟨(some 122), none, .pick (.tmp 112) (.tmp 121) (.lit (.bool false))⟩,
 ⟨(some 123), none, .mov (.tmp 122)⟩,
 ⟨(some 124), (some (123, true)), .call (.fn 20) []⟩,
 ⟨(some 125), none, .pick (.tmp 123) (.tmp 124) (.lit (.bool false))⟩,
 ⟨(some 6), none, .mov (.tmp 125)⟩])
 (.ret))
 (.skip)))
 (.seq (.seq (.reg [⟨(some 126), none, .mov (.tmp 15)⟩,
 ⟨(some 127), none, .un .not (.tmp 126)⟩,
 ⟨(some 128), none, .mov (.tmp 127)⟩,
 ⟨(some 129), (some (128, false)), .mov (.tmp 17)⟩,
 ⟨(some 130), (some (128, false)), .un .not (.tmp 129)⟩,
 ⟨(some 131), none, .pick (.tmp 128) (.lit (.bool true)) (.tmp 130)⟩])
 (.cond (.tmp 131) (.seq (.reg [⟨(some 132), none, .mov (.tmp 12)⟩,
 ⟨(some 133), none, .bin .eql (.tmp 132) (.lit (.int .i64 4))⟩,
 ⟨(some 134), none, .mov (.tmp 133)⟩,
 ⟨(some 135), (some (134, true)), .mov (.tmp 15)⟩,
 ⟨(some 136), (some (134, true)), .un .not (.tmp 135)⟩,
 ⟨(some 137), none, .pick (.tmp 134) (.tmp 136) (.lit (.bool false))⟩,
 ⟨(some 138), none, .mov (.tmp 137)⟩,
 ⟨(some 139), (some (138, true)), .mov (.tmp 11)⟩,
 ⟨(some 140), (some (138, true)), .len (.tmp 139)⟩,
 ⟨(some 141), (some (138, true)), .bin .eql (.tmp 140) (.lit (.int .i64 0))⟩,
 ⟨(some 142), none, .pick (.tmp 138) (.tmp 141) (.lit (.bool false))⟩,
 ⟨(some 143), none, .mov (.tmp 142)⟩,
 ⟨(some 144), (some (143, true)), .mov (.tmp 17)⟩,
 ⟨(some 145), (some (143, true)), .un .not (.tmp 144)⟩,
 ⟨(some 146), (some (143, true)), .mov (.tmp 145)⟩,
 ⟨(some 147), (some (146, false)), .mov (.tmp 16)⟩,
 ⟨(some 148), (some (146, false)), .faddr 1 (.tmp 9)⟩,
 ⟨(some 149), (some (146, false)), .load false 1 (.tmp 148)⟩,
 ⟨(some 150), (some (146, false)), .call (.tmp 147) [(.tmp 149)]⟩,
 ⟨(some 151), (some (146, false)), .un .not (.tmp 150)⟩,
 ⟨(some 152), (some (143, true)), .pick (.tmp 146) (.lit (.bool true)) (.tmp 151)⟩,
 ⟨(some 153), none, .pick (.tmp 143) (.tmp 152) (.lit (.bool false))⟩,
 ⟨(some 154), none, .mov (.tmp 153)⟩,
 ⟨(some 155), (some (154, true)), .call (.fn 20) []⟩,
 ⟨(some 156), none, .pick (.tmp 154) (.tmp 155) (.lit (.bool false))⟩,
 ⟨(some 6), none, .mov (.tmp 156)⟩])
 (.ret))
 (.skip)))
 (.seq (.seq (.reg [⟨(some 157), none, .mov (.tmp 12)⟩,
 ⟨(some 158), none, .bin .neq (.tmp 157) (.lit (.int .i64 0))⟩,
 ⟨(some 159), none, .mov (.tmp 158)⟩,
 ⟨(some 160), (some (159, false)), .mov (.tmp 11)⟩,
 ⟨(some 161), (some (159, false)), .len (.tmp 160)⟩,
 ⟨(some 162), (some (159, false)), .bin .eql (.tmp 161) (.lit (.int .i64 0))⟩,
 ⟨(some 163), none, .pick (.tmp 159) (.lit (.bool true)) (.tmp 162)⟩])
 (.cond (.tmp 163) (.seq (.reg [⟨(some 6), none, .mov (.lit (.bool false))⟩])
 (.ret))
 (.skip)))
 (.seq (.seq (.reg [⟨(some 164), none, .mov (.tmp 11)⟩,
 ⟨(some 165), none, .len (.tmp 164)⟩,
 ⟨(some 166), none, .mov (.lit (.int .i64 0))⟩])
 (.block 0 (.loop (.seq (.reg [⟨(some 167), none, .bin .lss (.tmp 166) (.tmp 165)⟩])
 (.seq (.cond (.tmp 167) (.skip)
 (.exit 0))
 (.seq (.block 1 (.seq (.reg [⟨(some 168), none, .mov (.tmp 166)⟩,
 ⟨(some 169), none, .iaddr 2 (.tmp 164) (.tmp 166)⟩,
 ⟨(some 170), none, .load true 2 (.tmp 169)⟩,
 ⟨(some 19), none, .alloc [(.int .i64 0), (.int .i64 0)]⟩,
 ⟨(some 18), none, .mov (.tmp 168)⟩,
 ⟨none, none, .store 2 (.tmp 19) (.tmp 170)⟩])
 (.seq (.draw (.step ⟨(some 171), none, .faddr 0 (.tmp 19)⟩ (
 .step ⟨(some 172), none, .load false 1 (.tmp 171)⟩ (
 .step ⟨(some 173), none, .faddr 1 (.tmp 19)⟩ (
 .step ⟨(some 174), none, .load false 1 (.tmp 173)⟩ (
 .step ⟨(some 175), none, .bin .gtr (.tmp 172) (.tmp 174)⟩ (
 .step ⟨(some 176), none, .mov (.tmp 175)⟩ (
 .step ⟨(some 177), (some (176, false)), .faddr 0 (.tmp 19)⟩ (
 .step ⟨(some 178), (some (176, false)), .load false 1 (.tmp 177)⟩ (
 .step ⟨(some 179), (some (176, false)), .faddr 0 (.tmp 10)⟩ (
 .step ⟨(some 180), (some (176, false)), .load false 1 (.tmp 179)⟩ (
 .step ⟨(some 181), (some (176, false)), .bin .lss (.tmp 178) (.tmp 180)⟩ (
 .step ⟨(some 182), none, .pick (.tmp 176) (.lit (.bool true)) (.tmp 181)⟩ (
 .step ⟨(some 183), none, .mov (.tmp 182)⟩ (
 .step ⟨(some 184), (some (183, false)), .faddr 1 (.tmp 19)⟩ (
 .step ⟨(some 185), (some (183, false)), .load false 1 (.tmp 184)⟩ (
 .step ⟨(some 186), (some (183, false)), .faddr 1 (.tmp 9)⟩ (
 .step ⟨(some 187), (some (183, false)), .load false 1 (.tmp 186)⟩ (
 .step ⟨(some 188), (some (183, false)), .bin .gtr (.tmp 185) (.tmp 187)⟩ (
 .step ⟨(some 189), none, .pick (.tmp 183) (.lit (.bool true)) (.tmp 188)⟩ (
 .step ⟨(some 190), none, .mov (.tmp 189)⟩ (
 .step ⟨(some 191), (some (190, false)), .mov (.tmp 18)⟩ (
 .step ⟨(some 192), (some (190, false)), .bin .gtr (.tmp 191) (.lit (.int .i64 0))⟩ (
 .step ⟨(some 193), (some (190, false)), .mov (.tmp 192)⟩ (
 .step ⟨(some 194), (some (193, true)), .faddr 0 (.tmp 19)⟩ (
 .step ⟨(some 195), (some (193, true)), .load false 1 (.tmp 194)⟩ (
 .step ⟨(some 196), (some (193, true)), .mov (.tmp 11)⟩ (
 .step ⟨(some 197), (some (193, true)), .mov (.tmp 18)⟩ (
 .step ⟨(some 198), (some (193, true)), .bin .sub (.tmp 197) (.lit (.int .i64 1))⟩ (
 .step ⟨(some 199), (some (193, true)), .iaddr 2 (.tmp 196) (.tmp 198)⟩ (
 .step ⟨(some 200), (some (193, true)), .faddr 1 (.tmp 199)⟩ (
 .step ⟨(some 201), (some (193, true)), .load false 1 (.tmp 200)⟩ (
 .step ⟨(some 202), (some (193, true)), .bin .add (.tmp 201) (.lit (.int .i64 1))⟩ (
 .step ⟨(some 203), (some (193, true)), .bin .leq (.tmp 195) (.tmp 202)⟩ (
 .step ⟨(some 204), (some (190, false)), .pick (.tmp 193) (.tmp 203) (.lit (.bool false))⟩ (
 .step ⟨(some 205), none, .pick (.tmp 190) (.lit (.bool true)) (.tmp 204)⟩ (
 .step ⟨(some 206), none, .mov (.tmp 205)⟩ (
 .step ⟨(some 207), (some (206, false)), .mov (.tmp 16)⟩ (
 .step ⟨(some 208), (some (206, false)), .faddr 0 (.tmp 19)⟩ (
 .step ⟨(some 209), (some (206, false)), .load false 1 (.tmp 208)⟩ (
 .ev ⟨(some 210), (some (206, false)), .call (.tmp 207) [(.tmp 209)]⟩ [⟨(some 208), (some (206, false)), .faddr 0 (.tmp 19)⟩, ⟨(some 201), (some (193, true)), .load false 1 (.tmp 200)⟩, ⟨(some 200), (some (193, true)), .faddr 1 (.tmp 199)⟩, ⟨(some 199), (some (193, true)), .iaddr 2 (.tmp 196) (.tmp 198)⟩, ⟨(some 195), (some (193, true)), .load false 1 (.tmp 194)⟩, ⟨(some 194), (some (193, true)), .faddr 0 (.tmp 19)⟩, ⟨(some 187), (some (183, false)), .load false 1 (.tmp 186)⟩, ⟨(some 186), (some (183, false)), .faddr 1 (.tmp 9)⟩, ⟨(some 185), (some (183, false)), .load false 1 (.tmp 184)⟩, ⟨(some 184), (some (183, false)), .faddr 1 (.tmp 19)⟩, ⟨(some 180), (some (176, false)), .load false 1 (.tmp 179)⟩, ⟨(some 179), (some (176, false)), .faddr 0 (.tmp 10)⟩, ⟨(some 178), (some (176, false)), .load false 1 (.tmp 177)⟩, ⟨(some 177), (some (176, false)), .faddr 0 (.tmp 19)⟩, ⟨(some 174), none, .load false 1 (.tmp 173)⟩, ⟨(some 173), none, .faddr 1 (.tmp 19)⟩, ⟨(some 172), none, .load false 1 (.tmp 171)⟩, ⟨(some 171), none, .faddr 0 (.tmp 19)⟩] (
 .step ⟨(some 211), (some (206, false)), .un .not (.tmp 210)⟩ (
 .step ⟨(some 212), none, .pick (.tmp 206) (.lit (.bool true)) (.tmp 211)⟩ (
 .step ⟨(some 213), none, .mov (.tmp 212)⟩ (
 .step ⟨(some 214), (some (213, false)), .mov (.tmp 16)⟩ (
 .step ⟨(some 215), (some (213, false)), .faddr 1 (.tmp 19)⟩ (
 .step ⟨(some 216), (some (213, false)), .load false 1 (.tmp 215)⟩ (
 .ev ⟨(some 217), (some (213, false)), .call (.tmp 214) [(.tmp 216)]⟩ [⟨(some 215), (some (213, false)), .faddr 1 (.tmp 19)⟩, ⟨(some 209), (some (206, false)), .load false 1 (.tmp 208)⟩, ⟨(some 208), (some (206, false)), .faddr 0 (.tmp 19)⟩, ⟨(some 201), (some (193, true)), .load false 1 (.tmp 200)⟩, ⟨(some 200), (some (193, true)), .faddr 1 (.tmp 199)⟩, ⟨(some 199), (some (193, true)), .iaddr 2 (.tmp 196) (.tmp 198)⟩, ⟨(some 195), (some (193, true)), .load false 1 (.tmp 194)⟩, ⟨(some 194), (some (193, true)), .faddr 0 (.tmp 19)⟩, ⟨(some 187), (some (183, false)), .load false 1 (.tmp 186)⟩, ⟨(some 186), (some (183, false)), .faddr 1 (.tmp 9)⟩, ⟨(some 185), (some (183, false)), .load false 1 (.tmp 184)⟩, ⟨(some 184), (some (183, false)), .faddr 1 (.tmp 19)⟩, ⟨(some 180), (some (176, false)), .load false 1 (.tmp 179)⟩, ⟨(some 179), (some (176, false)), .faddr 0 (.tmp 10)⟩, ⟨(some 178), (some (176, false)), .load false 1 (.tmp 177)⟩, ⟨(some 177), (some (176, false)), .faddr 0 (.tmp 19)⟩, ⟨(some 174), none, .load false 1 (.tmp 173)⟩, ⟨(some 173), none, .faddr 1 (.tmp 19)⟩, ⟨(some 172), none, .load false 1 (.tmp 171)⟩, ⟨(some 171), none, .faddr 0 (.tmp 19)⟩] (
 .step ⟨(some 218), (some (213, false)), .un .not (.tmp 217)⟩ (
 .step ⟨(some 219), none, .pick (.tmp 213) (.lit (.bool true)) (.tmp 218)⟩ (
 .step ⟨(some 220), none, .mov (.tmp 219)⟩ (
 .step ⟨(some 221), (some (220, false)), .mov (.tmp 16)⟩ (
 .step ⟨(some 222), (some (220, false)), .faddr 0 (.tmp 19)⟩ (
 .step ⟨(some 223), (some (220, false)), .load false 1 (.tmp 222)⟩ (
 .step ⟨(some 224), (some (220, false)), .faddr 1 (.tmp 19)⟩ (
 .step ⟨(some 225), (some (220, false)), .load false 1 (.tmp 224)⟩ (
 .step ⟨(some 226), (some (220, false)), .bin .add (.tmp 223) (.tmp 225)⟩ (
 .step ⟨(some 227), (some (220, false)), .bin .quo (.tmp 226) (.lit (.int .i64 2))⟩ (
 .ev ⟨(some 228), (some (220, false)), .call (.tmp 221) [(.tmp 227)]⟩ [⟨(some 225), (some (220, false)), .load false 1 (.tmp 224)⟩, ⟨(some 224), (some (220, false)), .faddr 1 (.tmp 19)⟩, ⟨(some 223), (some (220, false)), .load false 1 (.tmp 222)⟩, ⟨(some 222), (some (220, false)), .faddr 0 (.tmp 19)⟩, ⟨(some 216), (some (213, false)), .load false 1 (.tmp 215)⟩, ⟨(some 215), (some (213, false)), .faddr 1 (.tmp 19)⟩, ⟨(some 209), (some (206, false)), .load false 1 (.tmp 208)⟩, ⟨(some 208), (some (206, false)), .faddr 0 (.tmp 19)⟩, ⟨(some 201), (some (193, true)), .load false 1 (.tmp 200)⟩, ⟨(some 200), (some (193, true)), .faddr 1 (.tmp 199)⟩, ⟨(some 199), (some (193, true)), .iaddr 2 (.tmp 196) (.tmp 198)⟩, ⟨(some 195), (some (193, true)), .load false 1 (.tmp 194)⟩, ⟨(some 194), (some (193, true)), .faddr 0 (.tmp 19)⟩, ⟨(some 187), (some (183, false)), .load false 1 (.tmp 186)⟩, ⟨(some 186), (some (183, false)), .faddr 1 (.tmp 9)⟩, ⟨(some 185), (some (183, false)), .load false 1 (.tmp 184)⟩, ⟨(some 184), (some (183, false)), .faddr 1 (.tmp 19)⟩, ⟨(some 180), (some (176, false)), .load false 1 (.tmp 179)⟩, ⟨(some 179), (some (176, false)), .faddr 0 (.tmp 10)⟩, ⟨(some 178), (some (176, false)), .load false 1 (.tmp 177)⟩, ⟨(some 177), (some (176, false)), .faddr 0 (.tmp 19)⟩, ⟨(some 174), none, .load false 1 (.tmp 173)⟩, ⟨(some 173), none, .faddr 1 (.tmp 19)⟩, ⟨(some 172), none, .load false 1 (.tmp 171)⟩, ⟨(some 171), none, .faddr 0 (.tmp 19)⟩] (
 .step ⟨(some 229), (some (220, false)), .un .not (.tmp 228)⟩ (
 .step ⟨(some 230), none, .pick (.tmp 220) (.lit (.bool true)) (.tmp 229)⟩ (
 .step ⟨(some 231), none, .mov (.tmp 230)⟩ (
 .step ⟨(some 232), (some (231, false)), .mov (.tmp 16)⟩ (
 .step ⟨(some 233), (some (231, false)), .faddr 0 (.tmp 19)⟩ (
 .step ⟨(some 234), (some (231, false)), .load false 1 (.tmp 233)⟩ (
 .step ⟨(some 235), (some (231, false)), .bin .sub (.tmp 234) (.lit (.int .i64 1))⟩ (
 .ev ⟨(some 236), (some (231, false)), .call (.tmp 232) [(.tmp 235)]⟩ [⟨(some 234), (some (231, false)), .load false 1 (.tmp 233)⟩, ⟨(some 233), (some (231, false)), .faddr 0 (.tmp 19)⟩, ⟨(some 225), (some (220, false)), .load false 1 (.tmp 224)⟩, ⟨(some 224), (some (220, false)), .faddr 1 (.tmp 19)⟩, ⟨(some 223), (some (220, false)), .load false 1 (.tmp 222)⟩, ⟨(some 222), (some (220, false)), .faddr 0 (.tmp 19)⟩, ⟨(some 216), (some (213, false)), .load false 1 (.tmp 215)⟩, ⟨(some 215), (some (213, false)), .faddr 1 (.tmp 19)⟩, ⟨(some 209), (some (206, false)), .load false 1 (.tmp 208)⟩, ⟨(some 208), (some (206, false)), .faddr 0 (.tmp 19)⟩, ⟨(some 201), (some (193, true)), .load false 1 (.tmp 200)⟩, ⟨(some 200), (some (193, true)), .faddr 1 (.tmp 199)⟩, ⟨(some 199), (some (193, true)), .iaddr 2 (.tmp 196) (.tmp 198)⟩, ⟨(some 195), (some (193, true)), .load false 1 (.tmp 194)⟩, ⟨(some 194), (some (193, true)), .faddr 0 (.tmp 19)⟩, ⟨(some 187), (some (183, false)), .load false 1 (.tmp 186)⟩, ⟨(some 186), (some (183, false)), .faddr 1 (.tmp 9)⟩, ⟨(some 185), (some (183, false)), .load false 1 (.tmp 184)⟩, ⟨(some 184), (some (183, false)), .faddr 1 (.tmp 19)⟩, ⟨(some 180), (some (176, false)), .load false 1 (.tmp 179)⟩, ⟨(some 179), (some (176, false)), .faddr 0 (.tmp 10)⟩, ⟨(some 178), (some (176, false)), .load false 1 (.tmp 177)⟩, ⟨(some 177), (some (176, false)), .faddr 0 (.tmp 19)⟩, ⟨(some 174), none, .load false 1 (.tmp 173)⟩, ⟨(some 173), none, .faddr 1 (.tmp 19)⟩, ⟨(some 172), none, .load false 1 (.tmp 171)⟩, ⟨(some 171), none, .faddr 0 (.tmp 19)⟩] (
 .step ⟨(some 237), none, .pick (.tmp 231) (.lit (.bool true)) (.tmp 236)⟩ (
 .step ⟨(some 238), none, .mov (.tmp 237)⟩ (
 .step ⟨(some 239), (some (238, false)), .faddr 1 (.tmp 19)⟩ (
 .step ⟨(some 240), (some (238, false)), .load false 1 (.tmp 239)⟩ (
 .step ⟨(some 241), (some (238, false)), .faddr 1 (.tmp 9)⟩ (
 .step ⟨(some 242), (some (238, false)), .load false 1 (.tmp 241)⟩ (
 .step ⟨(some 243), (some (238, false)), .bin .lss (.tmp 240) (.tmp 242)⟩ (
 .step ⟨(some 244), (some (238, false)), .mov (.tmp 243)⟩ (
 .step ⟨(some 245), (some (244, true)), .mov (.tmp 16)⟩ (
 .step ⟨(some 246), (some (244, true)), .faddr 1 (.tmp 19)⟩ (
 .step ⟨(some 247), (some (244, true)), .load false 1 (.tmp 246)⟩ (
 .step ⟨(some 248), (some (244, true)), .bin .add (.tmp 247) (.lit (.int .i64 1))⟩ (
 .ev ⟨(some 249), (some (244, true)), .call (.tmp 245) [(.tmp 248)]⟩ [⟨(some 247), (some (244, true)), .load false 1 (.tmp 246)⟩, ⟨(some 246), (some (244, true)), .faddr 1 (.tmp 19)⟩, ⟨(some 242), (some (238, false)), .load false 1 (.tmp 241)⟩, ⟨(some 241), (some (238, false)), .faddr 1 (.tmp 9)⟩, ⟨(some 240), (some (238, false)), .load false 1 (.tmp 239)⟩, ⟨(some 239), (some (238, false)), .faddr 1 (.tmp 19)⟩, ⟨(some 234), (some (231, false)), .load false 1 (.tmp 233)⟩, ⟨(some 233), (some (231, false)), .faddr 0 (.tmp 19)⟩, ⟨(some 225), (some (220, false)), .load false 1 (.tmp 224)⟩, ⟨(some 224), (some (220, false)), .faddr 1 (.tmp 19)⟩, ⟨(some 223), (some (220, false)), .load false 1 (.tmp 222)⟩, ⟨(some 222), (some (220, false)), .faddr 0 (.tmp 19)⟩, ⟨(some 216), (some (213, false)), .load false 1 (.tmp 215)⟩, ⟨(some 215), (some (213, false)), .faddr 1 (.tmp 19)⟩, ⟨(some 209), (some (206, false)), .load false 1 (.tmp 208)⟩, ⟨(some 208), (some (206, false)), .faddr 0 (.tmp 19)⟩, ⟨(some 201), (some (193, true)), .load false 1 (.tmp 200)⟩, ⟨(some 200), (some (193, true)), .faddr 1 (.tmp 199)⟩, ⟨(some 199), (some (193, true)), .iaddr 2 (.tmp 196) (.tmp 198)⟩, ⟨(some 195), (some (193, true)), .load false 1 (.tmp 194)⟩, ⟨(some 194), (some (193, true)), .faddr 0 (.tmp 19)⟩, ⟨(some 187), (some (183, false)), .load false 1 (.tmp 186)⟩, ⟨(some 186), (some (183, false)), .faddr 1 (.tmp 9)⟩, ⟨(some 185), (some (183, false)), .load false 1 (.tmp 184)⟩, ⟨(some 184), (some (183, false)), .faddr 1 (.tmp 19)⟩, ⟨(some 180), (some (176, false)), .load false 1 (.tmp 179)⟩, ⟨(some 179), (some (176, false)), .faddr 0 (.tmp 10)⟩, ⟨(some 178), (some (176, false)), .load false 1 (.tmp 177)⟩, ⟨(some 177), (some (176, false)), .faddr 0 (.tmp 19)⟩, ⟨(some 174), none, .load false 1 (.tmp 173)⟩, ⟨(some 173), none, .faddr 1 (.tmp 19)⟩, ⟨(some 172), none, .load false 1 (.tmp 171)⟩, ⟨(some 171), none, .faddr 0 (.tmp 19)⟩] (
 .step ⟨(some 250), (some (238, false)), .pick (.tmp 244) (.tmp 249) (.lit (.bool false))⟩ (
 .step ⟨(some 251), none, .pick (.tmp 238) (.lit (.bool true)) (.tmp 250)⟩ (
 .done)))
 (.stop))))))))))))))
 (.stop)))))))))
 (.stop))))))))))))
 (.stop))))))))
 (.stop))))))))))))))))))))))))))))))))))))))))))
 (.cond (.tmp 251) (.seq (.reg [⟨(some 6), none, .mov (.lit (.bool false))⟩])
 (.ret))
 (.skip)))))
 (.reg [⟨(some 252), none, .bin .add (.tmp 166) (.lit (.int .i64 1))⟩,
 ⟨(some 166), none, .mov (.tmp 252)⟩])))))))
 (.seq (.reg [⟨(some 253), none, .call (.fn 20) []⟩,
 ⟨(some 6), none, .mov (.tmp 253)⟩])
 (.ret)))))))))))))))
theorem k6 : FnC Tryd.prog 6 254 [] [5] [.tmp 6] c6 3 := ⟨Tryd.f6, _, Tryd.func6, rfl, by decide, rfl, by decide, by kernel_rfl, by kernel_rfl⟩
/-- dipworks/dipworkslaw07.WatchStopped$1 -/
def c29 : AC :=
 .seq (.reg [⟨(some 5), none, .mov (.lit (.bool false))⟩])
 (.seq (.reg [⟨(some 11), none, .load true 2 (.tmp 1)⟩,
 ⟨(some 12), none, .load false 1 (.tmp 2)⟩,
 ⟨(some 13), none, .mov (.tmp 0)⟩,
 ⟨(some 14), none, .call (.fn 12) [(.tmp 11), (.tmp 12), (.tmp 13)]⟩,
 ⟨(some 10), none, .mov (.tmp 14)⟩,
 ⟨(some 15), none, .ext (.tmp 10) 0⟩,
 ⟨(some 16), none, .ext (.tmp 10) 1⟩,
 ⟨(some 6), none, .mov (.tmp 15)⟩,
 ⟨(some 7), none, .mov (.tmp 16)⟩])
 (.seq (.seq (.reg [⟨(some 17), none, .mov (.tmp 6)⟩,
 ⟨(some 18), none, .len (.tmp 17)⟩,
 ⟨(some 19), none, .mov (.lit (.int .i64 0))⟩])
 (.block 0 (.loop (.seq (.reg [⟨(some 20), none, .bin .lss (.tmp 19) (.tmp 18)⟩])
 (.seq (.cond (.tmp 20) (.skip)
 (.exit 0))
 (.seq (.block 1 (.seq (.reg [⟨(some 21), none, .iaddr 1 (.tmp 17) (.tmp 19)⟩,
 ⟨(some 22), none, .load false 1 (.tmp 21)⟩,
 ⟨(some 9), none, .mov (.tmp 22)⟩])
 (.seq (.reg [⟨(some 23), none, .mov (.tmp 7)⟩,
 ⟨(some 24), none, .bin .eql (.tmp 23) (.lit (.int .i64 0))⟩,
 ⟨(some 25), none, .mov (.tmp 24)⟩,
 ⟨(some 26), (some (25, true)), .mov (.tmp 9)⟩,
 ⟨(some 27), (some (25, true)), .faddr 2 (.tmp 3)⟩,
 ⟨(some 28), (some (25, true)), .load true 2 (.tmp 27)⟩,
 ⟨(some 29), (some (25, true)), .call (.fn 25) [(.tmp 26), (.tmp 28)]⟩,
 ⟨(some 30), none, .pick (.tmp 25) (.tmp 29) (.lit (.bool false))⟩])
 (.cond (.tmp 30) (.seq (.reg [⟨(some 5), none, .mov (.lit (.bool true))⟩])
 (.ret))
 (.skip)))))
 (.reg [⟨(some 31), none, .bin .add (.tmp 19) (.lit (.int .i64 1))⟩,
 ⟨(some 19), none, .mov (.tmp 31)⟩])))))))
 (.seq (.reg [⟨(some 5), none, .mov (.lit (.bool false))⟩])
 (.ret))))
theorem k29 : FnC Tryd.prog 29 32 [] [] [.tmp 5] c29 4 := ⟨Tryd.f29, _, Tryd.func29, rfl, by decide, rfl, by decide, by kernel_rfl, by kernel_rfl⟩
end Go.Proofs.YtnmmhkkmejbckaaDoor

/- WatchStopped: the plain laws, and what a watch can show at a minute. -/
namespace Go.Proofs.YtnmmhkkmejbckaaDoor
open Go Go.Ab

/-! ### The spans of minutes -/
structure SpP (L : List Int) (X : List (Int × Int)) : Prop where
  each : ∀ p ∈ X, p.1 ≤ p.2 ∧ (∀ x, p.1 ≤ x → x ≤ p.2 → x ∈ L) ∧ p.1 - 1 ∉ L ∧ p.2 + 1 ∉ L
  apart : X.Pairwise fun p q => p.2 + 1 < q.1
  last : ∀ p, X.getLast? = some p → ∀ x ∈ L, x ≤ p.2
  none_ : X = [] → L = []
theorem SpP.step {P : List Int} {X : List (Int × Int)} (h : SpP P X) (m : Int) (hm : ∀ x ∈ P, x < m) : SpP (P ++ [m]) (stepS X m) := by
  rcases List.eq_nil_or_concat X with rfl | ⟨Y, p, rfl⟩
  · have hP := h.none_ rfl
    subst hP
    have e : stepS [] m = [(m, m)] := rfl
    rw [e]
    refine ⟨fun q hq => ?_, by simp, fun q hq x hx => ?_, by simp⟩
    · rw [List.mem_singleton] at hq
      subst hq
      simp only [List.nil_append, List.mem_singleton]
      exact ⟨by omega, fun x h1 h2 => by omega, by omega, by omega⟩
    · simp at hq hx
      subst hq hx
      simp
  rw [List.concat_eq_append] at h ⊢
  have hgl : (Y ++ [p]).getLast? = some p := by simp
  have hdl : (Y ++ [p]).dropLast = Y := by simp
  obtain ⟨pw1, -, pw2⟩ := List.pairwise_append.1 h.apart
  have pw3 : ∀ q ∈ Y, q.2 + 1 < p.1 := fun q hq => pw2 q hq p (List.mem_singleton.2 rfl)
  have hmax := h.last p hgl
  obtain ⟨e1, e2, e3, e4⟩ := h.each p (by simp)
  have hpm : p.2 < m := hm _ (e2 p.2 (by omega) (by omega))
  unfold stepS
  rw [hgl]
  simp only
  split
  · rename_i he
    rw [hdl]
    refine ⟨fun q hq => ?_, ?_, fun q hq x hx => ?_, by simp⟩
    · rcases List.mem_append.1 hq with hq | hq
      · obtain ⟨a1, a2, a3, a4⟩ := h.each q (by simp [hq])
        have := pw3 q hq
        refine ⟨a1, fun x h1 h2 => by simp [a2 x h1 h2], ?_, ?_⟩
        · simp only [List.mem_append, List.mem_singleton, not_or]
          exact ⟨a3, by omega⟩
        · simp only [List.mem_append, List.mem_singleton, not_or]
          exact ⟨a4, by omega⟩
      · rw [List.mem_singleton] at hq
        subst hq
        simp only [List.mem_append, List.mem_singleton, not_or]
        refine ⟨by omega, fun x h1 h2 => ?_, ⟨e3, by omega⟩, ⟨fun hc => ?_, by omega⟩⟩
        · by_cases hx : x = m
          · exact .inr hx
          · exact .inl (e2 x h1 (by omega))
        · have := hm _ hc
          omega
    · refine List.pairwise_append.2 ⟨pw1, by simp, fun q hq r hr => ?_⟩
      rw [List.mem_singleton] at hr
      subst hr
      exact pw3 q hq
    · simp at hq
      subst hq
      rcases List.mem_append.1 hx with hx | hx
      · have := hm _ hx; simp only; omega
      · rw [List.mem_singleton] at hx; simp only; omega
  · rename_i he
    refine ⟨fun q hq => ?_, ?_, fun q hq x hx => ?_, by simp⟩
    · rcases List.mem_append.1 hq with hq | hq
      · obtain ⟨a1, a2, a3, a4⟩ := h.each q hq
        have hq2 : q.2 ≤ p.2 := by
          rcases List.mem_append.1 hq with hq | hq
          · have := pw3 q hq; omega
          · rw [List.mem_singleton] at hq; rw [hq]; omega
        refine ⟨a1, fun x h1 h2 => by simp [a2 x h1 h2], ?_, ?_⟩
        · simp only [List.mem_append, List.mem_singleton, not_or]
          exact ⟨a3, by omega⟩
        · simp only [List.mem_append, List.mem_singleton, not_or]
          exact ⟨a4, by omega⟩
      · rw [List.mem_singleton] at hq
        subst hq
        simp only [List.mem_append, List.mem_singleton, not_or]
        refine ⟨by omega, fun x h1 h2 => .inr (by omega), ⟨fun hc => ?_, by omega⟩, ⟨fun hc => ?_, by omega⟩⟩
        · have := hmax _ hc; omega
        · have := hmax _ hc; omega
    · refine List.pairwise_append.2 ⟨h.apart, by simp, fun q hq r hr => ?_⟩
      rw [List.mem_singleton] at hr
      subst hr
      simp only
      rcases List.mem_append.1 hq with hq | hq
      · have := pw3 q hq; omega
      · rw [List.mem_singleton] at hq; rw [hq]; omega
    · simp at hq
      subst hq
      rcases List.mem_append.1 hx with hx | hx
      · have := hm _ hx; simp only; omega
      · rw [List.mem_singleton] at hx; simp only; omega
theorem spans_P {L : List Int} (h : L.Pairwise (· < ·)) : SpP L (spansL L) := by
  suffices hh : ∀ n, SpP (L.take n) (spansL (L.take n)) by
    have := hh L.length
    rwa [List.take_length] at this
  intro n
  induction n with
  | zero => exact ⟨by simp [spansL], by simp [spansL], by simp [spansL], by simp⟩
  | succ n ih =>
    rw [List.take_add_one]
    cases hx : L[n]? with
    | none => simpa using ih
    | some x =>
      rw [Option.toList_some, spansL_snoc]
      refine ih.step x fun y hy => ?_
      obtain ⟨hn, rfl⟩ := List.getElem?_eq_some_iff.1 hx
      obtain ⟨i, hi, rfl⟩ := List.mem_iff_getElem.1 hy
      rw [List.length_take] at hi
      rw [List.getElem_take]
      exact (List.pairwise_iff_getElem.1 h) i n (by omega) hn (by omega)
theorem rngI_pw (lo hi : Int) : (rngI lo hi).Pairwise (· < ·) := by
  unfold rngI
  rw [List.pairwise_map]
  exact List.pairwise_lt_range.imp fun h => by omega
theorem minsL_pw (o : Ow) (f : Fi) : (minsL o f).Pairwise (· < ·) := by
  unfold minsL
  split
  · exact (rngI_pw _ _).filter _
  · exact List.Pairwise.filter _ (by simp)

/-! ### What can be shown at a minute -/
def canB (o : Ow) (f : Fi) (m : Int) : Bool := wI m 0 1440 && seen o m f.lo f.hi
theorem seen_early {o : Ow} {m lo hi : Int} (h : m < o.set_) : seen o m lo hi = false := by
  unfold seen handsL
  rw [if_neg (by omega)]
  rfl
theorem seen_show {o : Ow} (ho : o.OK) {m : Int} (h : o.set_ ≤ m) (lo hi : Int) : (showL o m).any (fun x => wI x lo hi) = seen o m lo hi := by
  have hp := (showL_P ho h).1
  unfold seen
  cases hb : (handsL o m).any fun h => wI h lo hi
  · rw [List.any_eq_false] at hb ⊢
    exact fun x hx => hb x ((hp x).1 hx)
  · rw [List.any_eq_true] at hb ⊢
    obtain ⟨x, hx, h2⟩ := hb
    exact ⟨x, (hp x).2 hx, h2⟩
theorem stop_mem {o : Ow} {f : Fi} (hs : f.stopped = true) {x : Int} : x ∈ minsL o f ↔ (o.set_ ≤ x ∧ x ≤ f.minute) ∧ atB o f x = true := by
  unfold minsL
  rw [hs, if_pos rfl, List.mem_filter, mem_rngI]
theorem canB_stop {o : Ow} (ho : o.OK) {f : Fi} (hf : f.OK) (hs : f.stopped = true) (hh : hutB o f = true) {x : Int} (hx : x ≤ f.minute) : canB o f x = true ↔ x ∈ minsL o f := by
  have h1 := ho.set_
  have h2 := hf.minute
  rw [stop_mem hs]
  unfold canB atB
  rw [hh, Bool.true_and, Bool.and_eq_true]
  unfold wI
  rw [decide_eq_true_eq]
  constructor
  · rintro ⟨a, b⟩
    refine ⟨⟨?_, hx⟩, b⟩
    rcases Int.lt_or_le x o.set_ with c | c
    · rw [seen_early c] at b; cases b
    · exact c
  · rintro ⟨⟨a, -⟩, b⟩
    exact ⟨by omega, b⟩
theorem fit_go {o : Ow} {f : Fi} (hf : f.OK) (hs : f.stopped = false) : fitB o f = (hutB o f && canB o f f.minute) := by
  have h2 := hf.minute
  have hw : wI f.minute 0 1440 = true := decide_eq_true h2
  unfold fitB minsL canB
  rw [hs, if_neg (by decide), hw, Bool.true_and, List.filter_cons]
  unfold atB
  cases (hutB o f && seen o f.minute f.lo f.hi) <;> rfl
theorem fit_no {o : Ow} {f : Fi} (hh : hutB o f = false) : minsL o f = [] := by
  unfold minsL
  have : ∀ l : List Int, l.filter (atB o f) = [] := fun l => by
    rw [List.filter_eq_nil_iff]
    intro x _
    unfold atB
    rw [hh]
    simp
  split <;> exact this _

set_option maxRecDepth 8000 in
set_option maxHeartbeats 4000000 in
theorem can_ok (w : Wa) (hL : Lens w) (hw : w.OK) {k : Nat} {o : Ow} (hx : w.os[k]? = some o) (f : Fi) (m : Int) : ACall Tryd.prog 29 [.t (vi m), .t (.ptr (tWa w) 0), .t (.ptr (.agg [vi k]) 0), .t (.ptr (tFi f) 0)] [] (ret (vb (canB o f m))) := by
  have hok := (w.ok_iff).2 hw
  have hk := (List.getElem?_eq_some_iff.1 hx).1
  have ho := hw.os o (List.mem_of_getElem? hx)
  have q := Shows_ok w k m hL
  have hin := fun x => inside_ok x f.lo f.hi
  have hdead : ∀ e : Int, ((0 : Int) = e) = False → specShows w k m = ([], e) → canB o f m = false → ACall Tryd.prog 29 [.t (vi m), .t (.ptr (tWa w) 0), .t (.ptr (.agg [vi k]) 0), .t (.ptr (tFi f) 0)] [] (ret (vb (canB o f m))) := by
    intro e he hs hc
    have he' : (e = 0) = False := eq_false fun h => by rw [h] at he; simp at he
    rw [hs] at q
    simp only [lsE, he', if_false] at q
    refine ACall.walk k29 ?_
    unfold c29 tFi
    unfold tWa wa2 at q ⊢
    simp only [go_sem, Nat.reduceEqDiff, Nat.reduceAdd]
    refine ACallL.quiet1 q rfl rfl rfl ?_
    simp only [go_sem, Nat.reduceEqDiff]
    refine awpL_loopK 0 (fun j s => s = { env := [(19, .t (vi j)), (3, .t (.ptr (.agg [vi f.hut, vi f.minute, vi f.lo, vi f.hi, vb f.stopped]) 0)), (7, .t (vi e)), (17, .t (.lit (.slice none 0 0))), (18, .t (vi 0))], σ := [] }) ⟨_, Sub.gc [] [19, 3, 7, 17, 18] rfl rfl, rfl⟩ ?_
    rintro j s hj rfl
    obtain rfl : j = 0 := by omega
    simp only [go_sem, Nat.reduceEqDiff, Int.reduceLT, decide_false]
    exact finL_ret [] ⟨rfl, rfl, rfl, rfl, _, rfl, ret_mk (by rw [hc])⟩
  cases hm : wI m 0 1440
  · exact hdead 2 (eq_false (by omega)) (specShows_no hok (by rw [hm, Bool.and_false])) (by unfold canB; rw [hm]; rfl)
  have hm2 := of_decide_eq_true hm
  have hs := specShows_at hok hx hm2
  cases hc : decide (o.set_ ≤ m)
  · have hc' := of_decide_eq_false hc
    rw [if_neg hc'] at hs
    exact hdead 11 (eq_false (by omega)) hs (by unfold canB; rw [seen_early (by omega), Bool.and_false])
  clear hdead
  have hc' := of_decide_eq_true hc
  rw [if_pos hc'] at hs
  rw [hs] at q
  simp only [lsE, if_true] at q
  have hcan : canB o f m = (showL o m).any (fun x => wI x f.lo f.hi) := by unfold canB; rw [hm, Bool.true_and, seen_show ho hc']
  have hP3 := (showL_P ho hc').2.2.1
  rw [handsL_len ho hc'] at hP3
  have hg := ho.gain
  rw [hcan]
  generalize showL o m = L at *
  refine ACall.walk k29 ?_
  unfold c29 tFi
  unfold tWa wa2 at q ⊢
  unfold tSp at hin
  simp only [go_sem, Nat.reduceEqDiff, Nat.reduceAdd]
  refine ACallL.fresh1 q rfl ?_
  simp only [go_sem, Nat.reduceEqDiff, List.length_map]
  refine awpL_loopK L.length (fun j s => (∀ x ∈ L.take j, wI x f.lo f.hi = false) ∧ s = { env := [(19, .t (vi j)), (3, .t (.ptr (.agg [vi f.hut, vi f.minute, vi f.lo, vi f.hi, vb f.stopped]) 0)), (7, .t (vi 0)), (17, .t (.slice 1 (L.map vi))), (18, .t (vi L.length))], σ := [] }) ⟨_, Sub.gc [] [19, 3, 7, 17, 18] rfl rfl, by simp, rfl⟩ ?_
  rintro j s hj ⟨hK, rfl⟩
  have hj0 : ((j : Int) < 0) = False := eq_false (by omega)
  cases g : decide ((j : Int) < L.length)
  · have hje : j = L.length := by have := of_decide_eq_false g; omega
    rw [hje, List.take_length] at hK
    have hany : L.any (fun x => wI x f.lo f.hi) = false := List.any_eq_false.2 fun x hx => by rw [hK x hx]; decide
    simp only [go_sem, Nat.reduceEqDiff, g]
    exact finL_ret [] ⟨rfl, rfl, rfl, rfl, _, rfl, ret_mk (by rw [hany])⟩
  have hjl : j < L.length := by have := of_decide_eq_true g; omega
  have hxj : L[j]? = some L[j] := List.getElem?_eq_getElem hjl
  have tx : L.take (j + 1) = L.take j ++ [L[j]] := by rw [List.take_add_one, hxj]; rfl
  have mx := List.getElem_mem hjl
  generalize L[j] = x at *
  have hw1 : IntKind.i64.wrap ((j : Int) + 1) = ((j + 1 : Nat) : Int) := by rw [wrap_id (by omega) (by omega)]; omega
  have hi := hin x
  simp only [go_sem, Nat.reduceEqDiff, Nat.reduceAdd, Nat.reduceLeDiff, beq_self_eq_true, g, List.getElem?_map, hxj, Option.map_some]
  refine ACallL.quiet1 hi rfl rfl rfl ?_
  cases hb : wI x f.lo f.hi
  · simp only [go_sem, Nat.reduceEqDiff, hw1]
    refine ⟨hjl, _, Sub.gc [] [19, 3, 7, 17, 18] rfl rfl, ?_, rfl⟩
    intro y hy
    rw [tx] at hy
    rcases List.mem_append.1 hy with hy | hy
    · exact hK y hy
    · rw [List.mem_singleton] at hy; rw [hy]; exact hb
  · have hany : L.any (fun x => wI x f.lo f.hi) = true := List.any_eq_true.2 ⟨x, mx, hb⟩
    simp only [go_sem, Nat.reduceEqDiff]
    exact finL_ret [] ⟨rfl, rfl, rfl, rfl, _, rfl, ret_mk (by rw [hany])⟩
end Go.Proofs.YtnmmhkkmejbckaaDoor
