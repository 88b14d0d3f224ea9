/- Proved here: laws that the statements need (WaC37, WaW2, WaW3). No conditions but those that each law states. -/
import Derived.Test.YtnmmhkkmejbckaaDoorFL
import Derived.Test.YtnmmhkkmejbckaaDoorFP
import Derived.Test.YtnmmhkkmejbckaaDoorProg
import Derived.Test.YtnmmhkkmejbckaaDoorEL

set_option linter.unusedSimpArgs false
set_option linter.unusedVariables false

/- Compiled code of functions, printed by program; each is checked to be the program's. No conditions. -/
namespace Go.Proofs.YtnmmhkkmejbckaaDoor
open Go Go.Ab
/-- dipworks/dipworkslaw07.WatchCan -/
def c7 : AC :=
 .seq (.reg [⟨(some 2), none, .box (.tmp 0)⟩,
 ⟨(some 4), none, .mov (.lit (.bool false))⟩])
 (.seq (.seq (.reg [⟨(some 21), none, .load true 2 (.tmp 2)⟩,
 ⟨(some 22), none, .call (.fn 26) [(.tmp 21)]⟩,
 ⟨(some 23), none, .mov (.tmp 22)⟩,
 ⟨(some 24), (some (23, false)), .load true 2 (.tmp 2)⟩,
 ⟨(some 25), (some (23, false)), .call (.fn 27) [(.tmp 24)]⟩,
 ⟨(some 26), (some (23, false)), .un .not (.tmp 25)⟩,
 ⟨(some 27), none, .pick (.tmp 23) (.lit (.bool true)) (.tmp 26)⟩,
 ⟨(some 28), none, .mov (.tmp 27)⟩,
 ⟨(some 29), (some (28, false)), .faddr 1 (.tmp 2)⟩,
 ⟨(some 30), (some (28, false)), .load false 1 (.tmp 29)⟩,
 ⟨(some 31), (some (28, false)), .len (.tmp 30)⟩,
 ⟨(some 32), (some (28, false)), .bin .eql (.tmp 31) (.lit (.int .i64 0))⟩,
 ⟨(some 33), none, .pick (.tmp 28) (.lit (.bool true)) (.tmp 32)⟩])
 (.cond (.tmp 33) (.seq (.reg [⟨(some 34), none, .call (.fn 20) []⟩,
 ⟨(some 4), none, .mov (.tmp 34)⟩])
 (.ret))
 (.skip)))
 (.seq (.reg [⟨(some 35), none, .mov (.tmp 1)⟩,
 ⟨(some 36), none, .conv .i64 (.tmp 35)⟩,
 ⟨(some 37), none, .faddr 1 (.tmp 2)⟩,
 ⟨(some 38), none, .load false 1 (.tmp 37)⟩,
 ⟨(some 39), none, .len (.tmp 38)⟩,
 ⟨(some 40), none, .bin .rem (.tmp 36) (.tmp 39)⟩,
 ⟨(some 5), none, .mov (.tmp 40)⟩])
 (.seq (.reg [⟨(some 42), none, .load true 2 (.tmp 2)⟩,
 ⟨(some 43), none, .mov (.tmp 5)⟩,
 ⟨(some 44), none, .call (.fn 16) [(.tmp 42), (.tmp 43)]⟩,
 ⟨(some 41), none, .mov (.tmp 44)⟩,
 ⟨(some 45), none, .ext (.tmp 41) 0⟩,
 ⟨(some 46), none, .ext (.tmp 41) 1⟩,
 ⟨(some 6), none, .mov (.tmp 45)⟩,
 ⟨(some 7), none, .mov (.tmp 46)⟩])
 (.seq (.reg [⟨(some 48), none, .load true 2 (.tmp 2)⟩,
 ⟨(some 49), none, .mov (.tmp 5)⟩,
 ⟨(some 50), none, .call (.fn 13) [(.tmp 48), (.tmp 49)]⟩,
 ⟨(some 47), none, .mov (.tmp 50)⟩,
 ⟨(some 51), none, .ext (.tmp 47) 0⟩,
 ⟨(some 52), none, .ext (.tmp 47) 1⟩,
 ⟨(some 8), none, .mov (.tmp 51)⟩,
 ⟨(some 9), none, .mov (.tmp 52)⟩])
 (.seq (.reg [⟨(some 54), none, .load true 2 (.tmp 2)⟩,
 ⟨(some 55), none, .call (.fn 15) [(.tmp 54)]⟩,
 ⟨(some 53), none, .mov (.tmp 55)⟩,
 ⟨(some 56), none, .ext (.tmp 53) 0⟩,
 ⟨(some 57), none, .ext (.tmp 53) 1⟩,
 ⟨(some 10), none, .mov (.tmp 56)⟩,
 ⟨(some 11), none, .mov (.tmp 57)⟩])
 (.seq (.reg [⟨(some 59), none, .load true 2 (.tmp 2)⟩,
 ⟨(some 60), none, .call (.fn 18) [(.tmp 59)]⟩,
 ⟨(some 58), none, .mov (.tmp 60)⟩,
 ⟨(some 61), none, .ext (.tmp 58) 0⟩,
 ⟨(some 62), none, .ext (.tmp 58) 1⟩,
 ⟨(some 12), none, .mov (.tmp 61)⟩,
 ⟨(some 13), none, .mov (.tmp 62)⟩])
 (.seq (.seq (.reg [⟨(some 63), none, .mov (.tmp 9)⟩,
 ⟨(some 64), none, .bin .neq (.tmp 63) (.lit (.int .i64 0))⟩,
 ⟨(some 65), none, .mov (.tmp 64)⟩,
 ⟨(some 66), (some (65, false)), .mov (.tmp 11)⟩,
 ⟨(some 67), (some (65, false)), .bin .neq (.tmp 66) (.lit (.int .i64 0))⟩,
 ⟨(some 68), none, .pick (.tmp 65) (.lit (.bool true)) (.tmp 67)⟩,
 ⟨(some 69), none, .mov (.tmp 68)⟩,
 ⟨(some 70), (some (69, false)), .mov (.tmp 7)⟩,
 ⟨(some 71), (some (69, false)), .mov (.tmp 13)⟩,
 ⟨(some 72), (some (69, false)), .bin .neq (.tmp 70) (.tmp 71)⟩,
 ⟨(some 73), none, .pick (.tmp 69) (.lit (.bool true)) (.tmp 72)⟩,
 ⟨(some 74), none, .mov (.tmp 73)⟩,
 ⟨(some 75), (some (74, false)), .mov (.tmp 10)⟩,
 ⟨(some 76), (some (74, false)), .bin .lss (.tmp 75) (.lit (.int .i64 0))⟩,
 ⟨(some 77), none, .pick (.tmp 74) (.lit (.bool true)) (.tmp 76)⟩,
 ⟨(some 78), none, .mov (.tmp 77)⟩,
 ⟨(some 79), (some (78, false)), .mov (.tmp 7)⟩,
 ⟨(some 80), (some (78, false)), .bin .eql (.tmp 79) (.lit (.int .i64 0))⟩,
 ⟨(some 81), (some (78, false)), .mov (.tmp 10)⟩,
 ⟨(some 82), (some (78, false)), .bin .gtr (.tmp 81) (.lit (.int .i64 0))⟩,
 ⟨(some 83), (some (78, false)), .eqb true (.tmp 80) (.tmp 82)⟩,
 ⟨(some 84), none, .pick (.tmp 78) (.lit (.bool true)) (.tmp 83)⟩,
 ⟨(some 85), none, .mov (.tmp 84)⟩,
 ⟨(some 86), (some (85, false)), .mov (.tmp 7)⟩,
 ⟨(some 87), (some (85, false)), .bin .neq (.tmp 86) (.lit (.int .i64 0))⟩,
 ⟨(some 88), (some (85, false)), .mov (.tmp 87)⟩,
 ⟨(some 89), (some (88, true)), .mov (.tmp 7)⟩,
 ⟨(some 90), (some (88, true)), .bin .neq (.tmp 89) (.lit (.int .i64 10))⟩,
 ⟨(some 91), (some (88, true)), .mov (.tmp 90)⟩,
 ⟨(some 92), (some (91, false)), .mov (.tmp 6)⟩,
 ⟨(some 93), (some (91, false)), .bin .neq (.tmp 92) (.lit (.int .i64 0))⟩,
 ⟨(some 94), (some (88, true)), .pick (.tmp 91) (.lit (.bool true)) (.tmp 93)⟩,
 ⟨(some 95), (some (88, true)), .mov (.tmp 94)⟩,
 ⟨(some 96), (some (95, false)), .mov (.tmp 12)⟩,
 ⟨(some 97), (some (95, false)), .len (.tmp 96)⟩,
 ⟨(some 98), (some (95, false)), .bin .neq (.tmp 97) (.lit (.int .i64 0))⟩,
 ⟨(some 99), (some (88, true)), .pick (.tmp 95) (.lit (.bool true)) (.tmp 98)⟩,
 ⟨(some 100), (some (85, false)), .pick (.tmp 88) (.tmp 99) (.lit (.bool false))⟩,
 ⟨(some 101), none, .pick (.tmp 85) (.lit (.bool true)) (.tmp 100)⟩])
 (.cond (.tmp 101) (.seq (.reg [⟨(some 4), none, .mov (.lit (.bool false))⟩])
 (.ret))
 (.skip)))
 (.seq (.reg [⟨(some 14), none, .mov (.lit (.int .i64 0))⟩])
 (.seq (.seq (.reg [⟨(some 102), none, .faddr 0 (.tmp 2)⟩,
 ⟨(some 103), none, .load false 1 (.tmp 102)⟩,
 ⟨(some 104), none, .len (.tmp 103)⟩,
 ⟨(some 105), none, .mov (.lit (.int .i64 0))⟩])
 (.block 0 (.loop (.seq (.reg [⟨(some 106), none, .bin .lss (.tmp 105) (.tmp 104)⟩])
 (.seq (.cond (.tmp 106) (.skip)
 (.exit 0))
 (.seq (.block 1 (.seq (.reg [⟨(some 107), none, .mov (.tmp 105)⟩,
 ⟨(some 15), none, .mov (.tmp 107)⟩])
 (.seq (.reg [⟨(some 109), none, .load true 2 (.tmp 2)⟩,
 ⟨(some 110), none, .mov (.tmp 5)⟩,
 ⟨(some 111), none, .mov (.tmp 15)⟩,
 ⟨(some 112), none, .call (.fn 30) [(.tmp 109), (.tmp 110), (.tmp 111)]⟩,
 ⟨(some 113), none, .call (.fn 15) [(.tmp 112)]⟩,
 ⟨(some 108), none, .mov (.tmp 113)⟩,
 ⟨(some 114), none, .ext (.tmp 108) 0⟩,
 ⟨(some 115), none, .ext (.tmp 108) 1⟩,
 ⟨(some 16), none, .mov (.tmp 114)⟩,
 ⟨(some 17), none, .mov (.tmp 115)⟩])
 (.seq (.seq (.reg [⟨(some 116), none, .mov (.tmp 17)⟩,
 ⟨(some 117), none, .bin .neq (.tmp 116) (.lit (.int .i64 0))⟩,
 ⟨(some 118), none, .mov (.tmp 117)⟩,
 ⟨(some 119), (some (118, false)), .mov (.tmp 16)⟩,
 ⟨(some 120), (some (118, false)), .bin .lss (.tmp 119) (.lit (.int .i64 0))⟩,
 ⟨(some 121), none, .pick (.tmp 118) (.lit (.bool true)) (.tmp 120)⟩,
 ⟨(some 122), none, .mov (.tmp 121)⟩,
 ⟨(some 123), (some (122, false)), .mov (.tmp 16)⟩,
 ⟨(some 124), (some (122, false)), .bin .gtr (.tmp 123) (.lit (.int .i64 0))⟩,
 ⟨(some 125), (some (122, false)), .mov (.tmp 6)⟩,
 ⟨(some 126), (some (122, false)), .mov (.tmp 15)⟩,
 ⟨(some 127), (some (122, false)), .bin .shr (.tmp 125) (.tmp 126)⟩,
 ⟨(some 128), (some (122, false)), .bin .and (.tmp 127) (.lit (.int .i64 1))⟩,
 ⟨(some 129), (some (122, false)), .bin .eql (.tmp 128) (.lit (.int .i64 1))⟩,
 ⟨(some 130), (some (122, false)), .eqb true (.tmp 124) (.tmp 129)⟩,
 ⟨(some 131), none, .pick (.tmp 122) (.lit (.bool true)) (.tmp 130)⟩,
 ⟨(some 132), none, .mov (.tmp 131)⟩,
 ⟨(some 133), (some (132, false)), .mov (.tmp 16)⟩,
 ⟨(some 134), (some (132, false)), .bin .gtr (.tmp 133) (.lit (.int .i64 0))⟩,
 ⟨(some 135), (some (132, false)), .mov (.tmp 134)⟩,
 ⟨(some 136), (some (135, true)), .mov (.tmp 8)⟩,
 ⟨(some 137), (some (135, true)), .mov (.tmp 15)⟩,
 ⟨(some 138), (some (135, true)), .bin .shr (.tmp 136) (.tmp 137)⟩,
 ⟨(some 139), (some (135, true)), .bin .and (.tmp 138) (.lit (.int .i64 1))⟩,
 ⟨(some 140), (some (135, true)), .bin .eql (.tmp 139) (.lit (.int .i64 0))⟩,
 ⟨(some 141), (some (132, false)), .pick (.tmp 135) (.tmp 140) (.lit (.bool false))⟩,
 ⟨(some 142), none, .pick (.tmp 132) (.lit (.bool true)) (.tmp 141)⟩])
 (.cond (.tmp 142) (.seq (.reg [⟨(some 4), none, .mov (.lit (.bool false))⟩])
 (.ret))
 (.skip)))
 (.seq (.reg [⟨(some 143), none, .mov (.tmp 14)⟩,
 ⟨(some 144), none, .mov (.tmp 16)⟩,
 ⟨(some 145), none, .bin .add (.tmp 143) (.tmp 144)⟩,
 ⟨(some 14), none, .mov (.tmp 145)⟩])
 (.seq (.reg [⟨(some 147), none, .load true 2 (.tmp 2)⟩,
 ⟨(some 148), none, .mov (.tmp 15)⟩,
 ⟨(some 149), none, .call (.fn 17) [(.tmp 147), (.tmp 148)]⟩,
 ⟨(some 146), none, .mov (.tmp 149)⟩,
 ⟨(some 150), none, .ext (.tmp 146) 0⟩,
 ⟨(some 151), none, .ext (.tmp 146) 1⟩,
 ⟨(some 152), none, .ext (.tmp 146) 2⟩,
 ⟨(some 18), none, .mov (.tmp 150)⟩,
 ⟨(some 19), none, .mov (.tmp 151)⟩,
 ⟨(some 20), none, .mov (.tmp 152)⟩])
 (.seq (.draw (.step ⟨(some 153), none, .mov (.tmp 20)⟩ (
 .step ⟨(some 154), none, .mov (.tmp 7)⟩ (
 .step ⟨(some 155), none, .bin .neq (.tmp 153) (.tmp 154)⟩ (
 .step ⟨(some 156), none, .mov (.tmp 155)⟩ (
 .step ⟨(some 157), (some (156, false)), .mov (.tmp 18)⟩ (
 .step ⟨(some 158), (some (156, false)), .mov (.tmp 5)⟩ (
 .step ⟨(some 159), (some (156, false)), .bin .shr (.tmp 157) (.tmp 158)⟩ (
 .step ⟨(some 160), (some (156, false)), .bin .and (.tmp 159) (.lit (.int .i64 1))⟩ (
 .step ⟨(some 161), (some (156, false)), .mov (.tmp 6)⟩ (
 .step ⟨(some 162), (some (156, false)), .mov (.tmp 15)⟩ (
 .step ⟨(some 163), (some (156, false)), .bin .shr (.tmp 161) (.tmp 162)⟩ (
 .step ⟨(some 164), (some (156, false)), .bin .and (.tmp 163) (.lit (.int .i64 1))⟩ (
 .step ⟨(some 165), (some (156, false)), .bin .neq (.tmp 160) (.tmp 164)⟩ (
 .step ⟨(some 166), none, .pick (.tmp 156) (.lit (.bool true)) (.tmp 165)⟩ (
 .done))))))))))))))))
 (.cond (.tmp 166) (.seq (.reg [⟨(some 4), none, .mov (.lit (.bool false))⟩])
 (.ret))
 (.skip)))))))))
 (.reg [⟨(some 167), none, .bin .add (.tmp 105) (.lit (.int .i64 1))⟩,
 ⟨(some 105), none, .mov (.tmp 167)⟩])))))))
 (.seq (.reg [⟨(some 168), none, .mov (.tmp 14)⟩,
 ⟨(some 169), none, .mov (.tmp 10)⟩,
 ⟨(some 170), none, .bin .eql (.tmp 168) (.tmp 169)⟩,
 ⟨(some 171), none, .mov (.tmp 170)⟩,
 ⟨(some 172), (some (171, true)), .mov (.tmp 7)⟩,
 ⟨(some 173), (some (171, true)), .bin .neq (.tmp 172) (.lit (.int .i64 0))⟩,
 ⟨(some 174), (some (171, true)), .mov (.tmp 173)⟩,
 ⟨(some 175), (some (174, false)), .mov (.tmp 12)⟩,
 ⟨(some 176), (some (174, false)), .len (.tmp 175)⟩,
 ⟨(some 177), (some (174, false)), .faddr 1 (.tmp 2)⟩,
 ⟨(some 178), (some (174, false)), .load false 1 (.tmp 177)⟩,
 ⟨(some 179), (some (174, false)), .len (.tmp 178)⟩,
 ⟨(some 180), (some (174, false)), .bin .eql (.tmp 176) (.tmp 179)⟩,
 ⟨(some 181), (some (174, false)), .mov (.tmp 180)⟩,
 ⟨(some 182), (some (181, true)), .mov (.tmp 12)⟩,
 ⟨(some 183), (some (181, true)), .mov (.tmp 5)⟩,
 ⟨(some 184), (some (181, true)), .iaddr 1 (.tmp 182) (.tmp 183)⟩,
 ⟨(some 185), (some (181, true)), .load false 1 (.tmp 184)⟩,
 ⟨(some 186), (some (181, true)), .bin .geq (.tmp 185) (.lit (.int .i64 0))⟩,
 ⟨(some 187), (some (181, true)), .mov (.tmp 186)⟩,
 ⟨(some 188), (some (187, true)), .mov (.tmp 6)⟩,
 ⟨(some 189), (some (187, true)), .mov (.tmp 12)⟩,
 ⟨(some 190), (some (187, true)), .mov (.tmp 5)⟩,
 ⟨(some 191), (some (187, true)), .iaddr 1 (.tmp 189) (.tmp 190)⟩,
 ⟨(some 192), (some (187, true)), .load false 1 (.tmp 191)⟩,
 ⟨(some 193), (some (187, true)), .bin .shl (.lit (.int .i64 1)) (.tmp 192)⟩,
 ⟨(some 194), (some (187, true)), .bin .eql (.tmp 188) (.tmp 193)⟩,
 ⟨(some 195), (some (181, true)), .pick (.tmp 187) (.tmp 194) (.lit (.bool false))⟩,
 ⟨(some 196), (some (181, true)), .mov (.tmp 195)⟩,
 ⟨(some 197), (some (196, false)), .mov (.tmp 12)⟩,
 ⟨(some 198), (some (196, false)), .mov (.tmp 5)⟩,
 ⟨(some 199), (some (196, false)), .iaddr 1 (.tmp 197) (.tmp 198)⟩,
 ⟨(some 200), (some (196, false)), .load false 1 (.tmp 199)⟩,
 ⟨(some 201), (some (196, false)), .bin .eql (.tmp 200) (.lit (.int .i64 (-1)))⟩,
 ⟨(some 202), (some (196, false)), .mov (.tmp 201)⟩,
 ⟨(some 203), (some (202, true)), .mov (.tmp 6)⟩,
 ⟨(some 204), (some (202, true)), .mxmn true (.lit (.int .i64 0)) [(.tmp 203)]⟩,
 ⟨(some 205), (some (202, true)), .call (.fn 24) [(.tmp 204)]⟩,
 ⟨(some 206), (some (202, true)), .bin .gtr (.tmp 205) (.lit (.int .i64 1))⟩,
 ⟨(some 207), (some (196, false)), .pick (.tmp 202) (.tmp 206) (.lit (.bool false))⟩,
 ⟨(some 208), (some (181, true)), .pick (.tmp 196) (.lit (.bool true)) (.tmp 207)⟩,
 ⟨(some 209), (some (174, false)), .pick (.tmp 181) (.tmp 208) (.lit (.bool false))⟩,
 ⟨(some 210), (some (171, true)), .pick (.tmp 174) (.lit (.bool true)) (.tmp 209)⟩,
 ⟨(some 211), none, .pick (.tmp 171) (.tmp 210) (.lit (.bool false))⟩,
 ⟨(some 212), none, .mov (.tmp 211)⟩,
 ⟨(some 213), (some (212, true)), .call (.fn 20) []⟩,
 ⟨(some 214), none, .pick (.tmp 212) (.tmp 213) (.lit (.bool false))⟩,
 ⟨(some 4), none, .mov (.tmp 214)⟩])
 (.ret)))))))))))
theorem k7 : FnC Tryd.prog 7 215 [] [] [.tmp 4] c7 2 := ⟨Tryd.f7, _, Tryd.func7, rfl, by decide, rfl, by decide, by kernel_rfl, by kernel_rfl⟩
/-- dipworks/dipworkslaw07.fixed -/
def c30 : AC :=
 .seq (.reg [⟨(some 3), none, .box (.tmp 0)⟩,
 ⟨(some 6), none, .alloc [(.slice none 0 0), (.slice none 0 0)]⟩])
 (.seq (.reg [⟨(some 14), none, .load true 2 (.tmp 3)⟩,
 ⟨(some 7), none, .alloc [(.slice none 0 0), (.slice none 0 0)]⟩,
 ⟨none, none, .store 2 (.tmp 7) (.tmp 14)⟩])
 (.seq (.draw (.step ⟨(some 16), none, .faddr 0 (.tmp 3)⟩ (
 .step ⟨(some 17), none, .load false 1 (.tmp 16)⟩ (
 .step ⟨(some 20), none, .faddr 1 (.tmp 3)⟩ (
 .step ⟨(some 21), none, .load false 1 (.tmp 20)⟩ (
 .ev ⟨(some 15), none, .bslice 4 (.agg #[(.int .i64 0), (.int .i64 0), (.int .i64 0), (.int .i64 0)]) 0 []⟩ [⟨(some 21), none, .load false 1 (.tmp 20)⟩, ⟨(some 20), none, .faddr 1 (.tmp 3)⟩, ⟨(some 17), none, .load false 1 (.tmp 16)⟩, ⟨(some 16), none, .faddr 0 (.tmp 3)⟩] (
 .ev ⟨(some 18), none, .app 4 32 (.tmp 15) (.tmp 17)⟩ [⟨(some 21), none, .load false 1 (.tmp 20)⟩, ⟨(some 20), none, .faddr 1 (.tmp 3)⟩, ⟨(some 16), none, .faddr 0 (.tmp 3)⟩] (
 .step ⟨(some 23), none, .faddr 0 (.tmp 7)⟩ (
 .ev ⟨(some 19), none, .bslice 5 (.agg #[(.int .i64 0), (.int .i64 0), (.int .i64 0), (.int .i64 0), (.bool false)]) 0 []⟩ [⟨(some 23), none, .faddr 0 (.tmp 7)⟩, ⟨(some 21), none, .load false 1 (.tmp 20)⟩, ⟨(some 20), none, .faddr 1 (.tmp 3)⟩, ⟨(some 17), none, .load false 1 (.tmp 16)⟩, ⟨(some 16), none, .faddr 0 (.tmp 3)⟩] (
 .ev ⟨(some 22), none, .app 5 40 (.tmp 19) (.tmp 21)⟩ [⟨(some 23), none, .faddr 0 (.tmp 7)⟩, ⟨(some 20), none, .faddr 1 (.tmp 3)⟩, ⟨(some 17), none, .load false 1 (.tmp 16)⟩, ⟨(some 16), none, .faddr 0 (.tmp 3)⟩] (
 .ev ⟨none, none, .store 1 (.tmp 23) (.tmp 18)⟩ [⟨(some 21), none, .load false 1 (.tmp 20)⟩, ⟨(some 20), none, .faddr 1 (.tmp 3)⟩] (
 .step ⟨(some 24), none, .faddr 1 (.tmp 7)⟩ (
 .ev ⟨none, none, .store 1 (.tmp 24) (.tmp 22)⟩ [] (
 .done)
 (.stop)))
 (.stop))
 (.stop))
 (.stop)))
 (.ev ⟨(some 19), none, .bslice 5 (.agg #[(.int .i64 0), (.int .i64 0), (.int .i64 0), (.int .i64 0), (.bool false)]) 0 []⟩ [⟨(some 21), none, .load false 1 (.tmp 20)⟩, ⟨(some 20), none, .faddr 1 (.tmp 3)⟩, ⟨(some 17), none, .load false 1 (.tmp 16)⟩, ⟨(some 16), none, .faddr 0 (.tmp 3)⟩] (
 .ev ⟨(some 18), none, .app 4 32 (.tmp 15) (.tmp 17)⟩ [⟨(some 21), none, .load false 1 (.tmp 20)⟩, ⟨(some 20), none, .faddr 1 (.tmp 3)⟩, ⟨(some 16), none, .faddr 0 (.tmp 3)⟩] (
 .step ⟨(some 23), none, .faddr 0 (.tmp 7)⟩ (
 .ev ⟨(some 22), none, .app 5 40 (.tmp 19) (.tmp 21)⟩ [⟨(some 23), none, .faddr 0 (.tmp 7)⟩, ⟨(some 20), none, .faddr 1 (.tmp 3)⟩, ⟨(some 17), none, .load false 1 (.tmp 16)⟩, ⟨(some 16), none, .faddr 0 (.tmp 3)⟩] (
 .ev ⟨none, none, .store 1 (.tmp 23) (.tmp 18)⟩ [⟨(some 21), none, .load false 1 (.tmp 20)⟩, ⟨(some 20), none, .faddr 1 (.tmp 3)⟩] (
 .step ⟨(some 24), none, .faddr 1 (.tmp 7)⟩ (
 .ev ⟨none, none, .store 1 (.tmp 24) (.tmp 22)⟩ [] (
 .done)
 (.stop)))
 (.stop))
 (.stop)))
 (.stop))
 (.stop)))
 (.ev ⟨(some 19), none, .bslice 5 (.agg #[(.int .i64 0), (.int .i64 0), (.int .i64 0), (.int .i64 0), (.bool false)]) 0 []⟩ [⟨(some 21), none, .load false 1 (.tmp 20)⟩, ⟨(some 20), none, .faddr 1 (.tmp 3)⟩, ⟨(some 17), none, .load false 1 (.tmp 16)⟩, ⟨(some 16), none, .faddr 0 (.tmp 3)⟩] (
 .ev ⟨(some 15), none, .bslice 4 (.agg #[(.int .i64 0), (.int .i64 0), (.int .i64 0), (.int .i64 0)]) 0 []⟩ [⟨(some 21), none, .load false 1 (.tmp 20)⟩, ⟨(some 20), none, .faddr 1 (.tmp 3)⟩, ⟨(some 17), none, .load false 1 (.tmp 16)⟩, ⟨(some 16), none, .faddr 0 (.tmp 3)⟩] (
 .ev ⟨(some 18), none, .app 4 32 (.tmp 15) (.tmp 17)⟩ [⟨(some 21), none, .load false 1 (.tmp 20)⟩, ⟨(some 20), none, .faddr 1 (.tmp 3)⟩, ⟨(some 16), none, .faddr 0 (.tmp 3)⟩] (
 .step ⟨(some 23), none, .faddr 0 (.tmp 7)⟩ (
 .ev ⟨(some 22), none, .app 5 40 (.tmp 19) (.tmp 21)⟩ [⟨(some 23), none, .faddr 0 (.tmp 7)⟩, ⟨(some 20), none, .faddr 1 (.tmp 3)⟩, ⟨(some 17), none, .load false 1 (.tmp 16)⟩, ⟨(some 16), none, .faddr 0 (.tmp 3)⟩] (
 .ev ⟨none, none, .store 1 (.tmp 23) (.tmp 18)⟩ [⟨(some 21), none, .load false 1 (.tmp 20)⟩, ⟨(some 20), none, .faddr 1 (.tmp 3)⟩] (
 .step ⟨(some 24), none, .faddr 1 (.tmp 7)⟩ (
 .ev ⟨none, none, .store 1 (.tmp 24) (.tmp 22)⟩ [] (
 .done)
 (.stop)))
 (.stop))
 (.stop)))
 (.stop))
 (.stop))
 (.stop))))))))
 (.seq (.seq (.gcp)
 (.reg [⟨(some 8), none, .mov (.lit (.int .i64 (-1)))⟩]))
 (.seq (.reg [⟨(some 9), none, .mov (.lit (.int .i64 0))⟩])
 (.seq (.seq (.reg [⟨(some 25), none, .faddr 1 (.tmp 3)⟩,
 ⟨(some 26), none, .load false 1 (.tmp 25)⟩,
 ⟨(some 27), none, .len (.tmp 26)⟩,
 ⟨(some 28), none, .mov (.lit (.int .i64 0))⟩])
 (.block 0 (.loop (.seq (.reg [⟨(some 29), none, .bin .lss (.tmp 28) (.tmp 27)⟩])
 (.seq (.cond (.tmp 29) (.skip)
 (.exit 0))
 (.seq (.block 1 (.seq (.reg [⟨(some 30), none, .iaddr 5 (.tmp 26) (.tmp 28)⟩,
 ⟨(some 31), none, .load true 5 (.tmp 30)⟩,
 ⟨(some 11), none, .alloc [(.int .i64 0), (.int .i64 0), (.int .i64 0), (.int .i64 0), (.bool false)]⟩,
 ⟨none, none, .store 5 (.tmp 11) (.tmp 31)⟩])
 (.reg [⟨(some 32), none, .mov (.tmp 9)⟩,
 ⟨(some 33), none, .faddr 0 (.tmp 11)⟩,
 ⟨(some 34), none, .load false 1 (.tmp 33)⟩,
 ⟨(some 35), none, .bin .shl (.lit (.int .i64 1)) (.tmp 34)⟩,
 ⟨(some 36), none, .bin .or (.tmp 32) (.tmp 35)⟩,
 ⟨(some 9), none, .mov (.tmp 36)⟩])))
 (.reg [⟨(some 37), none, .bin .add (.tmp 28) (.lit (.int .i64 1))⟩,
 ⟨(some 28), none, .mov (.tmp 37)⟩])))))))
 (.seq (.seq (.reg [⟨(some 38), none, .mov (.lit (.int .i64 0))⟩])
 (.block 2 (.loop (.seq (.reg [⟨(some 39), none, .bin .lss (.tmp 38) (.lit (.int .i64 6))⟩])
 (.seq (.cond (.tmp 39) (.skip)
 (.exit 2))
 (.seq (.block 3 (.seq (.reg [⟨(some 40), none, .mov (.tmp 38)⟩,
 ⟨(some 12), none, .mov (.tmp 40)⟩])
 (.seq (.reg [⟨(some 41), none, .mov (.tmp 9)⟩,
 ⟨(some 42), none, .mov (.tmp 12)⟩,
 ⟨(some 43), none, .bin .shr (.tmp 41) (.tmp 42)⟩,
 ⟨(some 44), none, .bin .and (.tmp 43) (.lit (.int .i64 1))⟩,
 ⟨(some 45), none, .bin .eql (.tmp 44) (.lit (.int .i64 0))⟩])
 (.cond (.tmp 45) (.reg [⟨(some 46), none, .mov (.tmp 12)⟩,
 ⟨(some 8), none, .mov (.tmp 46)⟩])
 (.skip)))))
 (.reg [⟨(some 47), none, .bin .add (.tmp 38) (.lit (.int .i64 1))⟩,
 ⟨(some 38), none, .mov (.tmp 47)⟩])))))))
 (.seq (.reg [⟨(some 48), none, .faddr 1 (.tmp 7)⟩,
 ⟨(some 49), none, .load false 1 (.tmp 48)⟩,
 ⟨(some 50), none, .mov (.tmp 1)⟩,
 ⟨(some 51), none, .mov (.tmp 8)⟩,
 ⟨(some 52), none, .iaddr 5 (.tmp 49) (.tmp 50)⟩,
 ⟨(some 53), none, .faddr 0 (.tmp 52)⟩,
 ⟨none, none, .store 1 (.tmp 53) (.tmp 51)⟩])
 (.seq (.seq (.reg [⟨(some 54), none, .faddr 0 (.tmp 7)⟩,
 ⟨(some 55), none, .load false 1 (.tmp 54)⟩,
 ⟨(some 56), none, .len (.tmp 55)⟩,
 ⟨(some 57), none, .mov (.lit (.int .i64 0))⟩])
 (.block 4 (.loop (.seq (.reg [⟨(some 58), none, .bin .lss (.tmp 57) (.tmp 56)⟩])
 (.seq (.cond (.tmp 58) (.skip)
 (.exit 4))
 (.seq (.block 5 (.seq (.reg [⟨(some 59), none, .mov (.tmp 57)⟩,
 ⟨(some 13), none, .mov (.tmp 59)⟩])
 (.seq (.draw (.step ⟨(some 60), none, .faddr 0 (.tmp 7)⟩ (
 .step ⟨(some 61), none, .load false 1 (.tmp 60)⟩ (
 .step ⟨(some 62), none, .mov (.tmp 13)⟩ (
 .step ⟨(some 63), none, .iaddr 4 (.tmp 61) (.tmp 62)⟩ (
 .step ⟨(some 64), none, .faddr 3 (.tmp 63)⟩ (
 .step ⟨(some 65), none, .load false 1 (.tmp 64)⟩ (
 .step ⟨(some 66), none, .mov (.tmp 8)⟩ (
 .step ⟨(some 67), none, .bin .shl (.lit (.int .i64 1)) (.tmp 66)⟩ (
 .step ⟨(some 68), none, .bin .andNot (.tmp 65) (.tmp 67)⟩ (
 .step ⟨(some 69), none, .iaddr 4 (.tmp 61) (.tmp 62)⟩ (
 .step ⟨(some 70), none, .faddr 3 (.tmp 69)⟩ (
 .ev ⟨none, none, .store 1 (.tmp 70) (.tmp 68)⟩ [⟨(some 69), none, .iaddr 4 (.tmp 61) (.tmp 62)⟩] (
 .done)
 (.stop))))))))))))))
 (.seq (.draw (.step ⟨(some 71), none, .mov (.tmp 13)⟩ (
 .step ⟨(some 72), none, .mov (.tmp 2)⟩ (
 .step ⟨(some 73), none, .bin .eql (.tmp 71) (.tmp 72)⟩ (
 .step ⟨(some 74), none, .mov (.tmp 73)⟩ (
 .step ⟨(some 75), (some (74, true)), .faddr 0 (.tmp 3)⟩ (
 .step ⟨(some 76), (some (74, true)), .load false 1 (.tmp 75)⟩ (
 .step ⟨(some 77), (some (74, true)), .mov (.tmp 13)⟩ (
 .step ⟨(some 78), (some (74, true)), .iaddr 4 (.tmp 76) (.tmp 77)⟩ (
 .step ⟨(some 79), (some (74, true)), .faddr 3 (.tmp 78)⟩ (
 .step ⟨(some 80), (some (74, true)), .load false 1 (.tmp 79)⟩ (
 .step ⟨(some 81), (some (74, true)), .faddr 1 (.tmp 3)⟩ (
 .step ⟨(some 82), (some (74, true)), .load false 1 (.tmp 81)⟩ (
 .step ⟨(some 83), (some (74, true)), .mov (.tmp 1)⟩ (
 .step ⟨(some 84), (some (74, true)), .iaddr 5 (.tmp 82) (.tmp 83)⟩ (
 .step ⟨(some 85), (some (74, true)), .faddr 0 (.tmp 84)⟩ (
 .step ⟨(some 86), (some (74, true)), .load false 1 (.tmp 85)⟩ (
 .step ⟨(some 87), (some (74, true)), .bin .shr (.tmp 80) (.tmp 86)⟩ (
 .step ⟨(some 88), (some (74, true)), .bin .and (.tmp 87) (.lit (.int .i64 1))⟩ (
 .step ⟨(some 89), (some (74, true)), .bin .eql (.tmp 88) (.lit (.int .i64 1))⟩ (
 .step ⟨(some 90), none, .pick (.tmp 74) (.tmp 89) (.lit (.bool false))⟩ (
 .done))))))))))))))))))))))
 (.cond (.tmp 90) (.draw (.step ⟨(some 91), none, .faddr 0 (.tmp 7)⟩ (
 .step ⟨(some 92), none, .load false 1 (.tmp 91)⟩ (
 .step ⟨(some 93), none, .mov (.tmp 13)⟩ (
 .step ⟨(some 94), none, .iaddr 4 (.tmp 92) (.tmp 93)⟩ (
 .step ⟨(some 95), none, .faddr 3 (.tmp 94)⟩ (
 .step ⟨(some 96), none, .load false 1 (.tmp 95)⟩ (
 .step ⟨(some 97), none, .mov (.tmp 8)⟩ (
 .step ⟨(some 98), none, .bin .shl (.lit (.int .i64 1)) (.tmp 97)⟩ (
 .step ⟨(some 99), none, .bin .or (.tmp 96) (.tmp 98)⟩ (
 .step ⟨(some 100), none, .iaddr 4 (.tmp 92) (.tmp 93)⟩ (
 .step ⟨(some 101), none, .faddr 3 (.tmp 100)⟩ (
 .ev ⟨none, none, .store 1 (.tmp 101) (.tmp 99)⟩ [⟨(some 100), none, .iaddr 4 (.tmp 92) (.tmp 93)⟩] (
 .done)
 (.stop))))))))))))))
 (.skip))))))
 (.reg [⟨(some 102), none, .bin .add (.tmp 57) (.lit (.int .i64 1))⟩,
 ⟨(some 57), none, .mov (.tmp 102)⟩])))))))
 (.seq (.reg [⟨(some 103), none, .load true 2 (.tmp 7)⟩,
 ⟨none, none, .store 2 (.tmp 6) (.tmp 103)⟩])
 (.ret))))))))))
theorem k30 : FnC Tryd.prog 30 104 [6] [3] [.cell 6 true 2] c30 3 := ⟨Tryd.f30, _, Tryd.func30, rfl, by decide, rfl, by decide, by kernel_rfl, by kernel_rfl⟩
end Go.Proofs.YtnmmhkkmejbckaaDoor

/- Watches in which a find can be one owner's alone. -/
namespace Go.Proofs.YtnmmhkkmejbckaaDoor
open Go Go.Ab

/-! ### Whose a find can be: by huts, and by what was shown -/
def coreB (o : Ow) (f : Fi) : Bool := !(if f.stopped then (rngI o.set_ f.minute).filter (fun m => seen o m f.lo f.hi) else [f.minute].filter (fun m => seen o m f.lo f.hi)).isEmpty
theorem fitB_split (o : Ow) (f : Fi) : fitB o f = (hutB o f && coreB o f) := by
  unfold fitB coreB minsL
  cases hh : hutB o f
  · have : ∀ l : List Int, l.filter (atB o f) = [] := fun l => by
      rw [List.filter_eq_nil_iff]
      intro x _
      unfold atB
      rw [hh]
      simp
    split <;> rw [this] <;> rfl
  · have : atB o f = fun m => seen o m f.lo f.hi := by
      funext m
      unfold atB
      rw [hh, Bool.true_and]
    rw [this, Bool.true_and]
theorem coreB_hut (o : Ow) (f : Fi) (h h' : Int) : coreB { o with huts := h } { f with hut := h' } = coreB o f := rfl

/-! ### A hut that nobody uses -/
def usedN (fs : List Fi) : Nat := fs.foldl (fun a f => a ||| 2 ^ f.hut.toNat) 0
def freeI (U : Nat) : Nat → Int
  | 0 => -1
  | h + 1 => if U.testBit h then freeI U h else h
theorem usedN_snoc (fs : List Fi) (f : Fi) : usedN (fs ++ [f]) = usedN fs ||| 2 ^ f.hut.toNat := by unfold usedN; rw [List.foldl_append]; rfl
theorem usedN_bit {fs : List Fi} {f : Fi} (h : f ∈ fs) : (usedN fs).testBit f.hut.toNat = true := by
  have hor : ∀ (l : List Fi) (a : Nat), l.foldl (fun a f => a ||| 2 ^ f.hut.toNat) a = a ||| usedN l := by
    intro l
    induction l with
    | nil => intro a; simp [usedN]
    | cons x l ih =>
      intro a
      unfold usedN
      rw [List.foldl_cons, List.foldl_cons, ih, ih, Nat.zero_or, Nat.or_assoc]
  obtain ⟨a, b, rfl⟩ := List.append_of_mem h
  unfold usedN
  rw [List.foldl_append, hor, Nat.testBit_or]
  rw [show usedN (f :: b) = (0 ||| 2 ^ f.hut.toNat) ||| usedN b from hor b _, Nat.testBit_or, Nat.zero_or, Nat.testBit_two_pow_self]
  simp
theorem freeI_ok (U : Nat) : ∀ n, (∃ h, h < n ∧ U.testBit h = false) → ∃ h : Nat, freeI U n = h ∧ h < n ∧ U.testBit h = false
  | 0, ⟨_, h, _⟩ => by omega
  | n + 1, ⟨h, h1, h2⟩ => by
    unfold freeI
    cases hb : U.testBit n
    · exact ⟨n, rfl, by omega, hb⟩
    · rw [if_pos rfl]
      have hn : h < n := by
        rcases Nat.lt_or_ge h n with k | k
        · exact k
        · have : h = n := by omega
          rw [this, hb] at h2
          cases h2
      obtain ⟨x, a, b, c⟩ := freeI_ok U n ⟨h, hn, h2⟩
      exact ⟨x, a, by omega, c⟩
theorem free4 : ∀ a : Fin 6, ∀ b : Fin 6, ∀ c : Fin 6, ∀ d : Fin 6, ∃ h : Fin 6, h.val ≠ a.val ∧ h.val ≠ b.val ∧ h.val ≠ c.val ∧ h.val ≠ d.val := by decide +kernel
theorem usedN_lt {fs : List Fi} (hf : ∀ f ∈ fs, f.OK) : usedN fs < 64 := by
  suffices h : ∀ n, usedN (fs.take n) < 64 by
    have := h fs.length
    rwa [List.take_length] at this
  intro n
  induction n with
  | zero => simp [usedN]
  | succ n ih =>
    rw [List.take_add_one]
    cases hx : fs[n]? with
    | none => simpa using ih
    | some f =>
      rw [Option.toList_some, usedN_snoc]
      have := (hf f (List.mem_of_getElem? hx)).hut
      refine Nat.or_lt_two_pow (n := 6) (by omega) ?_
      exact Nat.pow_lt_pow_right (by decide) (by omega)
theorem used_free {fs : List Fi} (hf : ∀ f ∈ fs, f.OK) (h4 : fs.length ≤ 4) : ∃ h : Nat, freeI (usedN fs) 6 = h ∧ h < 6 ∧ (usedN fs).testBit h = false := by
  refine freeI_ok _ 6 ?_
  have key : ∀ l : List Nat, l.length ≤ 4 → (∀ x ∈ l, x < 6) → ∃ h, h < 6 ∧ ∀ x ∈ l, h ≠ x := by
    intro l hl hx
    have hg : ∀ i, l.getD i 0 < 6 := fun i => by
      rw [List.getD_eq_getElem?_getD]
      cases he : l[i]? with
      | none => simp
      | some y => exact hx y (List.mem_of_getElem? he)
    obtain ⟨h, h0, h1, h2, h3⟩ := free4 ⟨_, hg 0⟩ ⟨_, hg 1⟩ ⟨_, hg 2⟩ ⟨_, hg 3⟩
    simp only at h0 h1 h2 h3
    refine ⟨h.val, h.isLt, fun x hxm e => ?_⟩
    obtain ⟨i, hi⟩ := List.getElem?_of_mem hxm
    have hil := (List.getElem?_eq_some_iff.1 hi).1
    have hgi : l.getD i 0 = x := by rw [List.getD_eq_getElem?_getD, hi]; rfl
    have : i = 0 ∨ i = 1 ∨ i = 2 ∨ i = 3 := by omega
    rcases this with rfl | rfl | rfl | rfl
    · exact h0 (by rw [e, hgi])
    · exact h1 (by rw [e, hgi])
    · exact h2 (by rw [e, hgi])
    · exact h3 (by rw [e, hgi])
  obtain ⟨h, h6, hne⟩ := key (fs.map fun f => f.hut.toNat) (by simpa using h4) (fun x hx => by
    obtain ⟨f, hfm, rfl⟩ := List.mem_map.1 hx
    have := (hf f hfm).hut
    omega)
  refine ⟨h, h6, ?_⟩
  cases hb : (usedN fs).testBit h
  · rfl
  exfalso
  have : ∀ n, (usedN (fs.take n)).testBit h = false := by
    intro n
    induction n with
    | zero => simp [usedN]
    | succ n ih =>
      rw [List.take_add_one]
      cases hx : fs[n]? with
      | none => simpa using ih
      | some f =>
        rw [Option.toList_some, usedN_snoc, Nat.testBit_or, ih, Bool.false_or, Nat.testBit_two_pow]
        exact decide_eq_false fun e => hne _ (List.mem_map.2 ⟨f, List.mem_of_getElem? hx, rfl⟩) e.symm
  have h2 := this fs.length
  rw [List.take_length, hb] at h2
  cases h2

/-! ### The watches -/
def movO (h : Nat) (f : Fi) (o : Nat) (p : Nat) (x : Ow) : Ow := { x with huts := ((ndiff x.huts.toNat (2 ^ h) ||| (if p = o ∧ x.huts.toNat.testBit f.hut.toNat = true then 2 ^ h else 0) : Nat) : Int) }
def movL (h : Nat) (f : Fi) (o : Nat) (os : List Ow) : List Ow := os.mapIdx fun p x => movO h f o p x
def fixW (w : Wa) (i : Nat) (f : Fi) (h o : Nat) : Wa := { os := movL h f o w.os, fs := w.fs.set i { f with hut := (h : Int) } }
theorem movO_OK {x : Ow} (hx : x.OK) {h : Nat} (hh : h < 6) (f : Fi) (o p : Nat) : (movO h f o p x).OK := by
  have h1 := hx.huts
  have h2 : 2 ^ h ≤ 2 ^ 5 := Nat.pow_le_pow_right (by omega) (by omega)
  have hlt : ndiff x.huts.toNat (2 ^ h) ||| (if p = o ∧ x.huts.toNat.testBit f.hut.toNat = true then 2 ^ h else 0) < 2 ^ 6 := by
    have := ndiff_le x.huts.toNat (2 ^ h)
    refine Nat.or_lt_two_pow (by omega) ?_
    split
    · omega
    · omega
  refine ⟨hx.set_, hx.gain, ?_⟩
  unfold movO
  simp only
  omega
theorem fixW_OK {w : Wa} (hw : w.OK) {i : Nat} {f : Fi} (hf : w.fs[i]? = some f) {h : Nat} (hh : h < 6) (o : Nat) : (fixW w i f h o).OK := by
  have hfo := hw.fs f (List.mem_of_getElem? hf)
  refine ⟨?_, ?_, fun x hx => ?_, fun x hx => ?_⟩
  · unfold fixW movL; simp; exact hw.no
  · unfold fixW; simp; exact hw.nf
  · unfold fixW movL at hx
    obtain ⟨p, hp, rfl⟩ := List.mem_mapIdx.1 hx
    exact movO_OK (hw.os _ (List.getElem_mem hp)) hh f o p
  · unfold fixW at hx
    rcases List.mem_or_eq_of_mem_set hx with hx | rfl
    · exact hw.fs x hx
    · exact ⟨by simp only; omega, hfo.minute, hfo.shows⟩
theorem hutB_mov {x : Ow} {g : Fi} {h : Nat} (hne : g.hut.toNat ≠ h) (f : Fi) (o p : Nat) : hutB (movO h f o p x) g = hutB x g := by
  unfold hutB movO
  simp only [Int.toNat_natCast, Nat.testBit_or, ndiff_bit, Nat.testBit_two_pow]
  have e : decide (h = g.hut.toNat) = false := decide_eq_false fun e => hne e.symm
  rw [e]
  split
  · rw [Nat.testBit_two_pow, e]; simp
  · simp
theorem hutB_own {x : Ow} {h : Nat} (f : Fi) (o p : Nat) : hutB (movO h f o p x) { f with hut := (h : Int) } = (decide (p = o) && hutB x f) := by
  unfold hutB movO
  simp only [Int.toNat_natCast, Nat.testBit_or, ndiff_bit, Nat.testBit_two_pow_self, Bool.not_true, Bool.and_false, Bool.false_or]
  by_cases e : p = o
  · subst e
    rw [decide_eq_true rfl, Bool.true_and]
    cases hb : x.huts.toNat.testBit f.hut.toNat
    · simp
    · simp [Nat.testBit_two_pow_self]
  · rw [decide_eq_false e, Bool.false_and, if_neg (by simp [e])]
    simp
theorem fix_fits {w : Wa} (hw : w.OK) {i : Nat} {f : Fi} (hf : w.fs[i]? = some f) {h : Nat} (hh : h < 6) (hfree : (usedN w.fs).testBit h = false) (o : Nat) : (fixW w i f h o).fits = onlyN w.fits i o := by
  have hne : ∀ g ∈ w.fs, g.hut.toNat ≠ h := fun g hg e => by
    have := usedN_bit hg
    rw [e, hfree] at this
    cases this
  have hil := (List.getElem?_eq_some_iff.1 hf).1
  have hlen : (fixW w i f h o).os.length = w.os.length := by unfold fixW movL; simp
  have hget : ∀ k, (fixW w i f h o).os[k]? = (w.os[k]?).map (movO h f o k) := fun k => by unfold fixW movL; simp
  have hgi : w.fits.getD i 0 = fitN w.os f := by
    unfold Wa.fits
    rw [List.getD_eq_getElem?_getD, List.getElem?_map, hf]; rfl
  unfold onlyN
  rw [hgi]
  apply List.ext_getElem?
  intro j
  rw [List.getElem?_set]
  have hlf : w.fits.length = w.fs.length := by unfold Wa.fits; simp
  have hfj : (fixW w i f h o).fits[j]? = ((fixW w i f h o).fs[j]?).map (fitN (fixW w i f h o).os) := by unfold Wa.fits; rw [List.getElem?_map]
  rw [hfj]
  have hfs : (fixW w i f h o).fs[j]? = if i = j then some { f with hut := (h : Int) } else w.fs[j]? := by
    unfold fixW
    simp only
    rw [List.getElem?_set]
    by_cases e : i = j
    · subst e; rw [if_pos rfl, if_pos rfl, if_pos hil]
    · rw [if_neg e, if_neg e]
  rw [hfs]
  by_cases e : i = j
  · subst e
    rw [if_pos rfl, if_pos rfl, if_pos (by omega)]
    simp only [Option.map_some, Option.some.injEq]
    apply Nat.eq_of_testBit_eq
    intro k
    rw [fitN_bit, fitN_bit]
    have hk : fitP (fixW w i f h o).os { f with hut := (h : Int) } k = (decide (k = o) && fitP w.os f k) := by
      unfold fitP
      rw [hget]
      cases hx : w.os[k]? with
      | none => simp
      | some x =>
        simp only [Option.map_some]
        rw [fitB_split, fitB_split, hutB_own, Bool.and_assoc]
        rfl
    rw [hk]
    by_cases ek : k = o
    · subst ek
      rw [decide_eq_true rfl, Bool.true_and]
      cases hb : fitP w.os f k
      · simp
      · simp [Nat.testBit_two_pow_self]
    · rw [decide_eq_false ek, Bool.false_and]
      split
      · rw [Nat.testBit_two_pow, decide_eq_false (Ne.symm ek)]
      · simp
  · rw [if_neg e, if_neg e]
    unfold Wa.fits
    rw [List.getElem?_map]
    cases hg : w.fs[j]? with
    | none => rfl
    | some g =>
      simp only [Option.map_some, Option.some.injEq]
      apply Nat.eq_of_testBit_eq
      intro k
      rw [fitN_bit, fitN_bit]
      unfold fitP
      rw [hget]
      cases hx : w.os[k]? with
      | none => rfl
      | some x =>
        simp only [Option.map_some]
        rw [fitB_split, fitB_split, hutB_mov (hne g (List.mem_of_getElem? hg))]
        rfl
end Go.Proofs.YtnmmhkkmejbckaaDoor

/- The document's watches in which a find can be one owner's alone: the walk. -/
namespace Go.Proofs.YtnmmhkkmejbckaaDoor
open Go Go.Ab

def rowO (l : List Ow) : AO := .row 4 ((l.map tOw).map .t)
def rowF (l : List Fi) : AO := .row 5 ((l.map tFi).map .t)
def MF (w : Wa) (i o : Nat) (st : St) : Prop := lk st.env 1 = .t (vi i) ∧ lk st.env 2 = .t (vi o) ∧ lk st.env 3 = .ptr 0 0 ∧ lk st.env 6 = .ptr 1 0 ∧ lk st.env 7 = .ptr 2 0 ∧ lk st.env 8 = .t (vi (-1)) ∧ st.σ = [.cells ((wa2 w).map .t), .cells [.t (.lit (.slice none 0 0)), .t (.lit (.slice none 0 0))], .cells [.loc 3 w.os.length, .loc 4 w.fs.length], rowO w.os, rowF w.fs] ∧ st.df = [] ∧ st.k = 0
set_option maxRecDepth 8000 in
set_option maxHeartbeats 8000000 in
theorem fixed_ok (w : Wa) (hw : w.OK) {i : Nat} {f : Fi} (hf : w.fs[i]? = some f) {h : Nat} (hh : freeI (usedN w.fs) 6 = h) (h6 : h < 6) (o : Nat) (ho : o < w.os.length) : ACall Tryd.prog 30 [.t (tWa w), .t (vi i), .t (vi o)] [] (res (.ret (.t (tWa (fixW w i f h o))))) := by
  refine ACall.walk k30 ?_
  unfold c30
  have hno := hw.no
  have hnf := hw.nf
  have hil := (List.getElem?_eq_some_iff.1 hf).1
  have x1 : (w.os.length ≤ maxLen) = True := eq_true (by unfold maxLen; omega)
  have x2 : (w.os.length * 32 ≤ 140737488355328) = True := eq_true (by omega)
  have x3 : (w.fs.length ≤ maxLen) = True := eq_true (by unfold maxLen; omega)
  have x4 : (w.fs.length * 40 ≤ 140737488355328) = True := eq_true (by omega)
  refine awpL_chop 4 (c1 := ?a1) (c2 := ?a2) (MF w i o) ?hc ?_ ?_
  case hc => simp only [chop]; rfl
  · unfold tWa wa2
    simp only [go_sem, Nat.reduceEqDiff, Nat.reduceAdd, Nat.reduceLeDiff, undef]
    repeat' (first | refine AndL.mk ?_ ?_ | simp only [go_sem, Nat.reduceEqDiff, Nat.reduceAdd, Nat.reduceLeDiff, undef, List.length_map, x1, x2, x3, x4])
    · refine awpL_gcpE [0, 1, 2, 3, 4] [1, 2, 3, 6, 7] { env := [(1, .t (vi i)), (2, .t (vi o)), (3, .ptr 0 0), (6, .ptr 1 0), (7, .ptr 2 0)], σ := [.cells [.t (.slice 4 (w.os.map tOw)), .t (.slice 5 (w.fs.map tFi))], .cells [.t (.lit (.slice none 0 0)), .t (.lit (.slice none 0 0))], .cells [.loc 3 w.os.length, .loc 4 w.fs.length], rowO w.os, rowF w.fs] } (St.gc_mk rfl (by unfold σgc; simp only [List.map_cons, List.map_nil, List.getD_cons_zero, List.getD_cons_succ, AO.gc, gc_row]; rfl) rfl rfl) rfl rfl ?_
      simp only [go_sem, Int.reduceNeg]
      exact ⟨rfl, rfl, rfl, rfl, rfl, rfl, rfl, rfl, rfl⟩
    · refine awpL_gcpE [0, 1, 2, 3, 4] [1, 2, 3, 6, 7] { env := [(1, .t (vi i)), (2, .t (vi o)), (3, .ptr 0 0), (6, .ptr 1 0), (7, .ptr 2 0)], σ := [.cells [.t (.slice 4 (w.os.map tOw)), .t (.slice 5 (w.fs.map tFi))], .cells [.t (.lit (.slice none 0 0)), .t (.lit (.slice none 0 0))], .cells [.loc 3 w.os.length, .loc 4 w.fs.length], rowO w.os, rowF w.fs] } (St.gc_mk rfl (by unfold σgc; simp only [List.map_cons, List.map_nil, List.getD_cons_zero, List.getD_cons_succ, AO.gc, gc_row]; rfl) rfl rfl) rfl rfl ?_
      simp only [go_sem, Int.reduceNeg]
      exact ⟨rfl, rfl, rfl, rfl, rfl, rfl, rfl, rfl, rfl⟩
    · refine awpL_gcpE [0, 1, 2, 4, 3] [1, 2, 3, 6, 7] { env := [(1, .t (vi i)), (2, .t (vi o)), (3, .ptr 0 0), (6, .ptr 1 0), (7, .ptr 2 0)], σ := [.cells [.t (.slice 4 (w.os.map tOw)), .t (.slice 5 (w.fs.map tFi))], .cells [.t (.lit (.slice none 0 0)), .t (.lit (.slice none 0 0))], .cells [.loc 3 w.os.length, .loc 4 w.fs.length], rowO w.os, rowF w.fs] } (St.gc_mk rfl (by unfold σgc; simp only [List.map_cons, List.map_nil, List.getD_cons_zero, List.getD_cons_succ, AO.gc, gc_row]; rfl) rfl rfl) rfl rfl ?_
      simp only [go_sem, Int.reduceNeg]
      exact ⟨rfl, rfl, rfl, rfl, rfl, rfl, rfl, rfl, rfl⟩
  rintro ⟨env, σ, df, dk⟩ ⟨p1, p2, p3, p4, p5, p6, hσ, hdf, hk⟩
  simp only at p1 p2 p3 p4 p5 p6 hσ hdf hk
  subst hσ hdf hk
  unfold wa2
  simp only [go_sem, Nat.reduceEqDiff, Nat.reduceAdd, p3, List.length_map]
  have hU := usedN_lt hw.fs
  refine awpL_loopK w.fs.length (fun j s => s = { env := [(28, .t (vi j)), (9, .t (vi (usedN (w.fs.take j) : Nat))), (1, .t (vi i)), (2, .t (vi o)), (3, .ptr 0 0), (6, .ptr 1 0), (7, .ptr 2 0), (8, .t (vi (-1))), (26, .t (.slice 5 (w.fs.map tFi))), (27, .t (vi w.fs.length))], σ := [.cells [.t (.slice 4 (w.os.map tOw)), .t (.slice 5 (w.fs.map tFi))], .cells [.t (.lit (.slice none 0 0)), .t (.lit (.slice none 0 0))], .cells [.loc 3 w.os.length, .loc 4 w.fs.length], rowO w.os, rowF w.fs] })
    ⟨_, Sub.gc [0, 1, 2, 3, 4] [28, 9, 1, 2, 3, 6, 7, 8, 26, 27] rfl rfl, St.gc_mk (by simp only [List.map_cons, List.map_nil, lk, Nat.reduceEqDiff, reduceIte, p1, p2, p3, p4, p5, p6]; rfl) (by unfold σgc rowO rowF; simp only [List.map_cons, List.map_nil, List.getD_cons_zero, List.getD_cons_succ, AO.gc, gc_row]; rfl) rfl rfl⟩ ?_
  clear p1 p2 p3 p4 p5 p6 env
  rintro j s hj rfl
  have hj0 : ((j : Int) < 0) = False := eq_false (by omega)
  cases g : decide ((j : Int) < w.fs.length)
  rotate_left
  · have hjl : j < w.fs.length := by have := of_decide_eq_true g; omega
    have hx : w.fs[j]? = some w.fs[j] := List.getElem?_eq_getElem hjl
    have tx : w.fs.take (j + 1) = w.fs.take j ++ [w.fs[j]] := by rw [List.take_add_one, hx]; rfl
    have hx1 := (hw.fs _ (List.getElem_mem hjl)).hut
    have hU2 : usedN (w.fs.take j) < 64 := usedN_lt fun y hy => hw.fs y (List.mem_of_mem_take hy)
    rw [tx, usedN_snoc]
    generalize w.fs[j] = x at *
    generalize usedN (w.fs.take j) = U at *
    have hto : tFi x = .agg [vi x.hut, vi x.minute, vi x.lo, vi x.hi, vb x.stopped] := rfl
    have hw1 : IntKind.i64.wrap ((j : Int) + 1) = ((j + 1 : Nat) : Int) := by rw [wrap_id (by omega) (by omega)]; omega
    have hshl : IntKind.i64.wrap (1 * 2 ^ (min x.hut.toNat 64)) = ((2 ^ x.hut.toNat : Nat) : Int) := shl_one (by omega)
    have hn : (x.hut < 0) = False := eq_false (by omega)
    have hp : 2 ^ x.hut.toNat ≤ 2 ^ 5 := Nat.pow_le_pow_right (by omega) (by omega)
    have hor : bits .or .i64 (U : Int) ((2 ^ x.hut.toNat : Nat) : Int) = ((U ||| 2 ^ x.hut.toNat : Nat) : Int) := bits_or (by omega) (by omega)
    simp only [go_sem, Nat.reduceEqDiff, Nat.reduceAdd, Nat.reduceLeDiff, Int.reduceNeg, undef, g, List.getElem?_map, hx, Option.map_some, hto, hshl, hn, IntKind.bits, hor, hw1]
    exact ⟨hjl, _, Sub.gc [0, 1, 2, 3, 4] [28, 9, 1, 2, 3, 6, 7, 8, 26, 27] rfl rfl, St.gc_mk rfl (by unfold σgc rowO rowF; simp only [List.map_cons, List.map_nil, List.getD_cons_zero, List.getD_cons_succ, AO.gc, gc_row]; rfl) rfl rfl⟩
  have hje : j = w.fs.length := by have := of_decide_eq_false g; omega
  rw [hje] at g
  rw [hje, List.take_length]
  clear hje hj0 hj j
  generalize hUU : usedN w.fs = U at *
  simp only [go_sem, Nat.reduceEqDiff, Int.reduceNeg, g]
  clear g
  refine awpL_loopK 6 (fun k s => s = { env := [(38, .t (vi k)), (8, .t (vi (freeI U k))), (1, .t (vi i)), (2, .t (vi o)), (3, .ptr 0 0), (6, .ptr 1 0), (7, .ptr 2 0), (9, .t (vi U))], σ := [.cells [.t (.slice 4 (w.os.map tOw)), .t (.slice 5 (w.fs.map tFi))], .cells [.t (.lit (.slice none 0 0)), .t (.lit (.slice none 0 0))], .cells [.loc 3 w.os.length, .loc 4 w.fs.length], rowO w.os, rowF w.fs] })
    ⟨_, Sub.gc [0, 1, 2, 3, 4] [38, 8, 1, 2, 3, 6, 7, 9] rfl rfl, St.gc_mk rfl (by unfold σgc rowO rowF; simp only [List.map_cons, List.map_nil, List.getD_cons_zero, List.getD_cons_succ, AO.gc, gc_row]; rfl) rfl rfl⟩ ?_
  rintro k s hk rfl
  have hk0 : ((k : Int) < 0) = False := eq_false (by omega)
  have hb := bit_eq (a := U) (i := k) (by omega)
  have hfs : freeI U (k + 1) = if U.testBit k then freeI U k else k := rfl
  cases g : decide ((k : Int) < 6)
  rotate_left
  · have hkl : k < 6 := by have := of_decide_eq_true g; omega
    have hw1 : IntKind.i64.wrap ((k : Int) + 1) = ((k + 1 : Nat) : Int) := by rw [wrap_id (by omega) (by omega)]; omega
    have hb0 : (bits .and .i64 ((U : Int).fdiv (2 ^ (min k 64))) 1 == 0) = !U.testBit k := bit_eq0 (by omega)
    rw [hfs]
    cases hbb : U.testBit k
    · rw [hbb] at hb0
      simp only [go_sem, Nat.reduceEqDiff, Bool.not_false, g, hk0, IntKind.bits, hb0, hw1]
      exact ⟨hkl, _, Sub.gc [0, 1, 2, 3, 4] [38, 8, 1, 2, 3, 6, 7, 9] rfl rfl, St.gc_mk rfl (by unfold σgc rowO rowF; simp only [List.map_cons, List.map_nil, List.getD_cons_zero, List.getD_cons_succ, AO.gc, gc_row]; rfl) rfl rfl⟩
    · rw [hbb] at hb0
      simp only [go_sem, Nat.reduceEqDiff, Bool.not_true, g, hk0, IntKind.bits, hb0, hw1]
      exact ⟨hkl, _, Sub.gc [0, 1, 2, 3, 4] [38, 8, 1, 2, 3, 6, 7, 9] rfl rfl, St.gc_mk rfl (by unfold σgc rowO rowF; simp only [List.map_cons, List.map_nil, List.getD_cons_zero, List.getD_cons_succ, AO.gc, gc_row]; rfl) rfl rfl⟩
  have hke : k = 6 := by have := of_decide_eq_false g; omega
  subst hke
  rw [hh]
  have hi0 : ((i : Int) < 0) = False := eq_false (by omega)
  have hto : tFi f = .agg [vi f.hut, vi f.minute, vi f.lo, vi f.hi, vb f.stopped] := rfl
  have hil2 : ((i : Int) < (w.fs.length : Int)) = True := eq_true (by omega)
  have hset : ((w.fs.map tFi).map E.t).set i (.t (.agg [.lit (.int .i64 h), vi f.minute, vi f.lo, vi f.hi, vb f.stopped])) = ((w.fs.set i { f with hut := (h : Int) }).map tFi).map E.t := by
    rw [List.map_set, List.map_set]; rfl
  have hfl : (w.fs.set i { f with hut := (h : Int) }).length = w.fs.length := by simp
  unfold rowF rowO
  simp only [go_sem, Nat.reduceEqDiff, Nat.reduceAdd, Nat.reduceLeDiff, Int.reduceLT, Bool.not_false, decide_false, undef, hil2, List.getElem?_map, hf, Option.map_some, hto, List.length_map, hset]
  have hfx : (fixW w i f h o).fs = w.fs.set i { f with hut := (h : Int) } := rfl
  rw [← hfx]
  generalize hG : (fixW w i f h o).fs = G at *
  have hGl : G.length = w.fs.length := by rw [hfx, hfl]
  have hmv : ∀ (j : Nat), ((w.os.mapIdx fun p x => if p < j then movO h f o p x else x).map tOw).length = w.os.length := fun j => by simp
  refine awpL_loopK w.os.length (fun j s => s = { env := [(57, .t (vi j)), (1, .t (vi i)), (2, .t (vi o)), (3, .ptr 0 0), (6, .ptr 1 0), (7, .ptr 2 0), (8, .t (vi h)), (56, .t (vi w.os.length))], σ := [.cells [.t (.slice 4 (w.os.map tOw)), .t (.slice 5 (w.fs.map tFi))], .cells [.t (.lit (.slice none 0 0)), .t (.lit (.slice none 0 0))], .cells [.loc 3 w.os.length, .loc 4 w.fs.length], rowO (w.os.mapIdx fun p x => if p < j then movO h f o p x else x), rowF G] })
    ⟨_, Sub.gc [0, 1, 2, 3, 4] [57, 1, 2, 3, 6, 7, 8, 56] rfl rfl, St.gc_mk rfl (by
      have e : (w.os.mapIdx fun p x => if p < 0 then movO h f o p x else x) = w.os := by
        apply List.ext_getElem?
        intro q
        rw [List.getElem?_mapIdx]
        cases w.os[q]? <;> simp
      rw [e]
      unfold σgc rowO rowF; simp only [List.map_cons, List.map_nil, List.getD_cons_zero, List.getD_cons_succ, AO.gc, gc_row]; rfl) rfl rfl⟩ ?_
  rintro j s hj rfl
  have hj0 : ((j : Int) < 0) = False := eq_false (by omega)
  cases g : decide ((j : Int) < w.os.length)
  · have hje : j = w.os.length := by have := of_decide_eq_false g; omega
    subst hje
    have e : (w.os.mapIdx fun p x => if p < w.os.length then movO h f o p x else x) = (fixW w i f h o).os := by
      unfold fixW movL
      apply List.ext_getElem?
      intro q
      rw [List.getElem?_mapIdx, List.getElem?_mapIdx]
      cases hq : w.os[q]? with
      | none => rfl
      | some x =>
        have := (List.getElem?_eq_some_iff.1 hq).1
        simp only [Option.map_some, this, if_true]
    rw [e]
    have hol : (fixW w i f h o).os.length = w.os.length := by unfold fixW movL; simp
    simp only [go_sem, Nat.reduceEqDiff, Nat.reduceAdd, undef, g]
    refine finL_ret [] ⟨rfl, rfl, rfl, rfl, _, rfl, res_mk ?_⟩
    refine congrArg Out.ret ?_
    have key : ∀ σ : List AO, σ[3]? = some (rowO (fixW w i f h o).os) → σ[4]? = some (rowF G) → E.gc [] σ 12 (.agg [.loc 3 w.os.length, .loc 4 w.fs.length]) = .t (tWa (fixW w i f h o)) := fun σ h1 h2 => by
      rw [E.gc]
      simp only [List.map_cons, List.map_nil]
      rw [gc_loc (n := 9) rfl h1 (by rw [List.length_map, hol]), gc_loc (n := 9) rfl h2 (by rw [List.length_map, hGl])]
      unfold tWa wa2
      rw [hG]
      rfl
    exact key _ rfl rfl
  have hjl : j < w.os.length := by have := of_decide_eq_true g; omega
  have hxj : w.os[j]? = some w.os[j] := List.getElem?_eq_getElem hjl
  have hxo := hw.os _ (List.getElem_mem hjl)
  have hfo := hw.fs f (List.mem_of_getElem? hf)
  have hsub : ∀ y, (w.os.mapIdx fun p x => if p < j then movO h f o p x else x).set j y = (w.os.mapIdx fun p x => if p < j then movO h f o p x else x).set j y := fun _ => rfl
  have hstep : (w.os.mapIdx fun p x => if p < j + 1 then movO h f o p x else x) = (w.os.mapIdx fun p x => if p < j then movO h f o p x else x).set j (movO h f o j w.os[j]) := by
    apply List.ext_getElem?
    intro q
    rw [List.getElem?_set, List.getElem?_mapIdx, List.getElem?_mapIdx]
    by_cases e : j = q
    · subst e
      rw [if_pos rfl, if_pos (by simpa using hjl), hxj]
      simp
    · rw [if_neg e]
      cases hq : w.os[q]? with
      | none => rfl
      | some x =>
        simp only [Option.map_some]
        by_cases e2 : q < j
        · rw [if_pos e2, if_pos (by omega)]
        · rw [if_neg e2, if_neg (by omega)]
  have hgj : (w.os.mapIdx fun p x => if p < j then movO h f o p x else x)[j]? = some w.os[j] := by
    rw [List.getElem?_mapIdx, hxj]; simp
  have hml : (w.os.mapIdx fun p x => if p < j then movO h f o p x else x).length = w.os.length := by simp
  rw [hstep]
  generalize (w.os.mapIdx fun p x => if p < j then movO h f o p x else x) = Y at *
  generalize hX : w.os[j] = x at *
  have hto' : tOw x = .agg [vi x.set_, vi x.lo, vi x.hi, vi x.huts] := rfl
  have hw1 : IntKind.i64.wrap ((j : Int) + 1) = ((j + 1 : Nat) : Int) := by rw [wrap_id (by omega) (by omega)]; omega
  have hh0 : ((h : Int) < 0) = False := eq_false (by omega)
  have hshl : IntKind.i64.wrap (1 * 2 ^ (min h 64)) = ((2 ^ h : Nat) : Int) := shl_one (by omega)
  have hp : 2 ^ h ≤ 2 ^ 5 := Nat.pow_le_pow_right (by omega) (by omega)
  have hx63 := hxo.huts
  obtain ⟨H, hH⟩ : ∃ H : Nat, x.huts = H := ⟨x.huts.toNat, by omega⟩
  have hHt : x.huts.toNat = H := by rw [hH]; rfl
  have hand : bits .andNot .i64 (H : Int) ((2 ^ h : Nat) : Int) = ((ndiff H (2 ^ h) : Nat) : Int) := bits_andNot (by omega) (by omega)
  have hnd := ndiff_le H (2 ^ h)
  have hor : bits .or .i64 ((ndiff H (2 ^ h) : Nat) : Int) ((2 ^ h : Nat) : Int) = ((ndiff H (2 ^ h) ||| 2 ^ h : Nat) : Int) := bits_or (by omega) (by omega)
  have hbit := bit_eq (a := H) (i := f.hut.toNat) (by omega)
  have hfn : (f.hut < 0) = False := eq_false (by have := hfo.hut; omega)
  have hYl : ((j : Int) < (w.os.length : Int)) = True := eq_true (by omega)
  have hYt : (Y.map tOw)[j]? = some (.agg [vi x.set_, vi x.lo, vi x.hi, vi H]) := by rw [List.getElem?_map, hgj, ← hH]; rfl
  have hYs : ∀ a : Nat, ((Y.map tOw).map E.t).set j (.t (.agg [vi x.set_, vi x.lo, vi x.hi, .lit (.int .i64 a)])) = ((Y.set j { x with huts := (a : Int) }).map tOw).map E.t := fun a => by
    rw [List.map_set, List.map_set]; rfl
  have hYm : ((Y.map tOw).map E.t)[j]? = some (.t (.agg [vi x.set_, vi x.lo, vi x.hi, vi H])) := by rw [List.getElem?_map, hYt]; rfl
  rw [hH] at hto'
  have hmo : movO h f o j x = { x with huts := ((ndiff H (2 ^ h) ||| (if j = o ∧ H.testBit f.hut.toNat = true then 2 ^ h else 0) : Nat) : Int) } := by unfold movO; rw [hHt]
  rw [hmo]
  unfold rowO
  have hYs2 : ∀ a b : Nat, (((Y.set j { x with huts := (a : Int) }).map tOw).map E.t).set j (.t (.agg [vi x.set_, vi x.lo, vi x.hi, .lit (.int .i64 b)])) = ((Y.set j { x with huts := (b : Int) }).map tOw).map E.t := fun a b => by
    rw [List.map_set, List.map_set, List.map_set, List.map_set, List.set_set]; rfl
  have hYm2 : ∀ a : Nat, (((Y.set j { x with huts := (a : Int) }).map tOw))[j]? = some (.agg [vi x.set_, vi x.lo, vi x.hi, vi a]) := fun a => by
    rw [List.getElem?_map, List.getElem?_set_self (by omega)]; rfl
  have hYm3 : ∀ a : Nat, ((Y.set j { x with huts := (a : Int) }))[j]? = some { x with huts := (a : Int) } := fun a => by
    rw [List.getElem?_set_self (by omega)]
  have hto2 : ∀ a : Nat, tOw { x with huts := (a : Int) } = .agg [vi x.set_, vi x.lo, vi x.hi, vi a] := fun a => rfl
  have hends : ∀ a : Nat, σgc [0, 1, 2, 3, 4] [.cells [.t (.slice 4 (w.os.map tOw)), .t (.slice 5 (w.fs.map tFi))], .cells [.t (.lit (.slice none 0 0)), .t (.lit (.slice none 0 0))], .cells [.loc 3 w.os.length, .loc 4 w.fs.length], .row 4 (((Y.set j { x with huts := (a : Int) }).map tOw).map E.t), rowF G] 12 = [.cells [.t (.slice 4 (w.os.map tOw)), .t (.slice 5 (w.fs.map tFi))], .cells [.t (.lit (.slice none 0 0)), .t (.lit (.slice none 0 0))], .cells [.loc 3 w.os.length, .loc 4 w.fs.length], .row 4 (((Y.set j { x with huts := (a : Int) }).map tOw).map E.t), rowF G] := fun a => by
    unfold σgc rowF; simp only [List.map_cons, List.map_nil, List.getD_cons_zero, List.getD_cons_succ, AO.gc, gc_row]; rfl
  by_cases e1 : j = o
  · have z1 : ((j : Int) == (o : Int)) = true := beq_iff_eq.2 (by omega)
    cases hbb : H.testBit f.hut.toNat
    · rw [hbb] at hbit
      rw [if_neg (by simp), Nat.or_zero]
      simp only [go_sem, Nat.reduceEqDiff, Nat.reduceAdd, Nat.reduceLeDiff, Bool.not_false, decide_true, undef, beq_self_eq_true, hh0, hYl, hml, hYm, hshl, IntKind.bits, hand, List.length_map, List.length_set, List.getElem?_map, hxj, hf, Option.map_some, hto, hto', hYs, z1, hfn, hbit, hw1]
      exact ⟨hjl, _, Sub.gc [0, 1, 2, 3, 4] [57, 1, 2, 3, 6, 7, 8, 56] rfl rfl, St.gc_mk rfl (hends _) rfl rfl⟩
    · rw [hbb] at hbit
      rw [if_pos ⟨e1, rfl⟩]
      simp only [go_sem, Nat.reduceEqDiff, Nat.reduceAdd, Nat.reduceLeDiff, Bool.not_false, decide_true, undef, beq_self_eq_true, hh0, hYl, hml, hYm, hYm2, hYs2, hor, hshl, IntKind.bits, hand, List.length_map, List.length_set, List.getElem?_map, hxj, hf, Option.map_some, hto, hto', hYs, z1, hfn, hbit, hw1]
      exact ⟨hjl, _, Sub.gc [0, 1, 2, 3, 4] [57, 1, 2, 3, 6, 7, 8, 56] rfl rfl, St.gc_mk rfl (hends _) rfl rfl⟩
  · have z1 : ((j : Int) == (o : Int)) = false := beq_false_of_ne (by omega)
    rw [if_neg (by simp [e1]), Nat.or_zero]
    simp only [go_sem, Nat.reduceEqDiff, Nat.reduceAdd, Nat.reduceLeDiff, Bool.not_false, decide_true, undef, hh0, hYl, hml, hYm, hshl, IntKind.bits, hand, List.length_map, List.length_set, Option.map_some, hYs, z1, hw1]
    exact ⟨hjl, _, Sub.gc [0, 1, 2, 3, 4] [57, 1, 2, 3, 6, 7, 8, 56] rfl rfl, St.gc_mk rfl (hends _) rfl rfl⟩
end Go.Proofs.YtnmmhkkmejbckaaDoor
