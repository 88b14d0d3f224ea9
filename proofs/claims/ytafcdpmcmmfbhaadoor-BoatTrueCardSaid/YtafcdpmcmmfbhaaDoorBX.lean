/- Proved here: laws that the statements need (BoC36, BoXI). No conditions but those that each law states. -/
import Derived.Test.YtafcdpmcmmfbhaaDoorFL
import Derived.Test.YtafcdpmcmmfbhaaDoorProg
import Derived.Test.YtafcdpmcmmfbhaaDoorBO

set_option linter.unusedSimpArgs false
set_option linter.unusedVariables false

/- Compiled code of functions, printed by program; each is checked to be the program's. No conditions. -/
namespace Go.Proofs.YtafcdpmcmmfbhaaDoor
open Go Go.Ab
/-- dipworks/dipworkslaw12.BoatTrue -/
def c6 : AC :=
 .seq (.reg [⟨(some 6), none, .box (.tmp 0)⟩,
 ⟨(some 12), none, .mov (.lit (.bool false))⟩])
 (.seq (.seq (.reg [⟨(some 36), none, .load true 5 (.tmp 6)⟩,
 ⟨(some 37), none, .call (.fn 32) [(.tmp 36)]⟩,
 ⟨(some 38), none, .un .not (.tmp 37)⟩,
 ⟨(some 39), none, .mov (.tmp 38)⟩,
 ⟨(some 40), (some (39, false)), .faddr 4 (.tmp 6)⟩,
 ⟨(some 41), (some (39, false)), .load false 1 (.tmp 40)⟩,
 ⟨(some 42), (some (39, false)), .len (.tmp 41)⟩,
 ⟨(some 43), (some (39, false)), .bin .eql (.tmp 42) (.lit (.int .i64 0))⟩,
 ⟨(some 44), none, .pick (.tmp 39) (.lit (.bool true)) (.tmp 43)⟩])
 (.cond (.tmp 44) (.seq (.reg [⟨(some 45), none, .call (.fn 15) []⟩,
 ⟨(some 12), none, .mov (.tmp 45)⟩])
 (.ret))
 (.skip)))
 (.seq (.reg [⟨(some 46), none, .mov (.tmp 1)⟩,
 ⟨(some 47), none, .conv .i64 (.tmp 46)⟩,
 ⟨(some 48), none, .faddr 4 (.tmp 6)⟩,
 ⟨(some 49), none, .load false 1 (.tmp 48)⟩,
 ⟨(some 50), none, .len (.tmp 49)⟩,
 ⟨(some 51), none, .bin .rem (.tmp 47) (.tmp 50)⟩,
 ⟨(some 13), none, .mov (.tmp 51)⟩])
 (.seq (.reg [⟨(some 52), none, .load true 5 (.tmp 6)⟩,
 ⟨(some 53), none, .mov (.tmp 2)⟩,
 ⟨(some 54), none, .mov (.tmp 3)⟩,
 ⟨(some 55), none, .call (.fn 33) [(.tmp 52), (.tmp 53), (.tmp 54)]⟩,
 ⟨(some 14), none, .mov (.tmp 55)⟩])
 (.seq (.reg [⟨(some 56), none, .load true 5 (.tmp 6)⟩,
 ⟨(some 15), none, .alloc [(.int .i64 0), (.int .i64 0), (.int .i64 0), (.int .i64 0), (.slice none 0 0)]⟩,
 ⟨none, none, .store 5 (.tmp 15) (.tmp 56)⟩])
 (.seq (.draw (.step ⟨(some 57), none, .load true 5 (.tmp 6)⟩ (
 .step ⟨(some 58), none, .faddr 4 (.tmp 6)⟩ (
 .step ⟨(some 59), none, .load false 1 (.tmp 58)⟩ (
 .step ⟨(some 60), none, .mov (.tmp 13)⟩ (
 .step ⟨(some 61), none, .iaddr 1 (.tmp 59) (.tmp 60)⟩ (
 .step ⟨(some 62), none, .load false 1 (.tmp 61)⟩ (
 .step ⟨(some 63), none, .mov (.tmp 14)⟩ (
 .ev ⟨(some 64), none, .call (.fn 34) [(.tmp 57), (.tmp 62), (.tmp 63)]⟩ [⟨(some 61), none, .iaddr 1 (.tmp 59) (.tmp 60)⟩, ⟨(some 59), none, .load false 1 (.tmp 58)⟩, ⟨(some 58), none, .faddr 4 (.tmp 6)⟩] (
 .ev ⟨(some 65), none, .bslice 1 (.slice none 0 0) 1 [(0, (.tmp 64))]⟩ [⟨(some 62), none, .load false 1 (.tmp 61)⟩, ⟨(some 61), none, .iaddr 1 (.tmp 59) (.tmp 60)⟩, ⟨(some 59), none, .load false 1 (.tmp 58)⟩, ⟨(some 58), none, .faddr 4 (.tmp 6)⟩, ⟨(some 57), none, .load true 5 (.tmp 6)⟩] (
 .step ⟨(some 66), none, .faddr 4 (.tmp 15)⟩ (
 .ev ⟨none, none, .store 1 (.tmp 66) (.tmp 65)⟩ [] (
 .done)
 (.stop)))
 (.stop))
 (.stop))))))))))
 (.seq (.reg [⟨(some 67), none, .faddr 1 (.tmp 6)⟩,
 ⟨(some 68), none, .load false 1 (.tmp 67)⟩,
 ⟨(some 16), none, .mov (.tmp 68)⟩])
 (.seq (.seq (.seq (.gcp)
 (.reg [⟨(some 69), none, .mov (.tmp 14)⟩,
 ⟨(some 70), none, .len (.tmp 69)⟩,
 ⟨(some 71), none, .mov (.lit (.int .i64 0))⟩]))
 (.block 0 (.loop (.seq (.reg [⟨(some 72), none, .bin .lss (.tmp 71) (.tmp 70)⟩])
 (.seq (.cond (.tmp 72) (.skip)
 (.exit 0))
 (.seq (.block 1 (.seq (.reg [⟨(some 73), none, .mov (.tmp 71)⟩,
 ⟨(some 74), none, .iaddr 1 (.tmp 69) (.tmp 71)⟩,
 ⟨(some 75), none, .load false 1 (.tmp 74)⟩,
 ⟨(some 17), none, .mov (.tmp 73)⟩,
 ⟨(some 18), none, .mov (.tmp 75)⟩])
 (.seq (.reg [⟨(some 77), none, .load true 5 (.tmp 15)⟩,
 ⟨(some 78), none, .mov (.tmp 17)⟩,
 ⟨(some 79), none, .call (.fn 16) [(.tmp 77), (.lit (.int .i64 0)), (.tmp 78)]⟩,
 ⟨(some 76), none, .mov (.tmp 79)⟩,
 ⟨(some 80), none, .ext (.tmp 76) 0⟩,
 ⟨(some 81), none, .ext (.tmp 76) 1⟩,
 ⟨(some 19), none, .mov (.tmp 80)⟩,
 ⟨(some 20), none, .mov (.tmp 81)⟩])
 (.seq (.reg [⟨(some 83), none, .load true 5 (.tmp 15)⟩,
 ⟨(some 84), none, .mov (.tmp 17)⟩,
 ⟨(some 85), none, .call (.fn 18) [(.tmp 83), (.lit (.int .i64 0)), (.tmp 84)]⟩,
 ⟨(some 82), none, .mov (.tmp 85)⟩,
 ⟨(some 86), none, .ext (.tmp 82) 0⟩,
 ⟨(some 87), none, .ext (.tmp 82) 1⟩,
 ⟨(some 21), none, .alloc [(.int .i64 0), (.int .i64 0)]⟩,
 ⟨none, none, .store 2 (.tmp 21) (.tmp 86)⟩,
 ⟨(some 22), none, .mov (.tmp 87)⟩])
 (.seq (.seq (.draw (.step ⟨(some 88), none, .mov (.tmp 20)⟩ (
 .step ⟨(some 89), none, .bin .neq (.tmp 88) (.lit (.int .i64 0))⟩ (
 .step ⟨(some 90), none, .mov (.tmp 89)⟩ (
 .step ⟨(some 91), (some (90, false)), .mov (.tmp 22)⟩ (
 .step ⟨(some 92), (some (90, false)), .bin .neq (.tmp 91) (.lit (.int .i64 0))⟩ (
 .step ⟨(some 93), none, .pick (.tmp 90) (.lit (.bool true)) (.tmp 92)⟩ (
 .step ⟨(some 94), none, .mov (.tmp 93)⟩ (
 .step ⟨(some 95), (some (94, false)), .mov (.tmp 19)⟩ (
 .step ⟨(some 96), (some (94, false)), .mov (.tmp 18)⟩ (
 .step ⟨(some 97), (some (94, false)), .bin .shr (.tmp 95) (.tmp 96)⟩ (
 .step ⟨(some 98), (some (94, false)), .bin .and (.tmp 97) (.lit (.int .i64 1))⟩ (
 .step ⟨(some 99), (some (94, false)), .bin .eql (.tmp 98) (.lit (.int .i64 0))⟩ (
 .step ⟨(some 100), none, .pick (.tmp 94) (.lit (.bool true)) (.tmp 99)⟩ (
 .step ⟨(some 101), none, .mov (.tmp 100)⟩ (
 .step ⟨(some 102), (some (101, false)), .mov (.tmp 19)⟩ (
 .step ⟨(some 103), (some (101, false)), .load true 5 (.tmp 6)⟩ (
 .ev ⟨(some 104), (some (101, false)), .call (.fn 35) [(.tmp 103)]⟩ [] (
 .step ⟨(some 105), (some (101, false)), .bin .shr (.tmp 102) (.tmp 104)⟩ (
 .step ⟨(some 106), (some (101, false)), .bin .neq (.tmp 105) (.lit (.int .i64 0))⟩ (
 .step ⟨(some 107), none, .pick (.tmp 101) (.lit (.bool true)) (.tmp 106)⟩ (
 .step ⟨(some 108), none, .mov (.tmp 107)⟩ (
 .step ⟨(some 109), (some (108, false)), .mov (.tmp 18)⟩ (
 .step ⟨(some 110), (some (108, false)), .faddr 0 (.tmp 6)⟩ (
 .step ⟨(some 111), (some (108, false)), .load false 1 (.tmp 110)⟩ (
 .step ⟨(some 112), (some (108, false)), .bin .quo (.tmp 109) (.tmp 111)⟩ (
 .step ⟨(some 113), (some (108, false)), .faddr 0 (.tmp 21)⟩ (
 .step ⟨(some 114), (some (108, false)), .load false 1 (.tmp 113)⟩ (
 .step ⟨(some 115), (some (108, false)), .bin .lss (.tmp 112) (.tmp 114)⟩ (
 .step ⟨(some 116), none, .pick (.tmp 108) (.lit (.bool true)) (.tmp 115)⟩ (
 .step ⟨(some 117), none, .mov (.tmp 116)⟩ (
 .step ⟨(some 118), (some (117, false)), .mov (.tmp 18)⟩ (
 .step ⟨(some 119), (some (117, false)), .faddr 0 (.tmp 6)⟩ (
 .step ⟨(some 120), (some (117, false)), .load false 1 (.tmp 119)⟩ (
 .step ⟨(some 121), (some (117, false)), .bin .quo (.tmp 118) (.tmp 120)⟩ (
 .step ⟨(some 122), (some (117, false)), .faddr 1 (.tmp 21)⟩ (
 .step ⟨(some 123), (some (117, false)), .load false 1 (.tmp 122)⟩ (
 .step ⟨(some 124), (some (117, false)), .bin .gtr (.tmp 121) (.tmp 123)⟩ (
 .step ⟨(some 125), none, .pick (.tmp 117) (.lit (.bool true)) (.tmp 124)⟩ (
 .done))))))))))))))))))))))
 (.stop)))))))))))))))))))
 (.cond (.tmp 125) (.seq (.reg [⟨(some 12), none, .mov (.lit (.bool false))⟩])
 (.ret))
 (.skip)))
 (.reg [⟨(some 126), none, .mov (.tmp 16)⟩,
 ⟨(some 127), none, .mov (.tmp 18)⟩,
 ⟨(some 128), none, .faddr 0 (.tmp 6)⟩,
 ⟨(some 129), none, .load false 1 (.tmp 128)⟩,
 ⟨(some 130), none, .bin .quo (.tmp 127) (.tmp 129)⟩,
 ⟨(some 131), none, .mxmn false (.tmp 126) [(.tmp 130)]⟩,
 ⟨(some 16), none, .mov (.tmp 131)⟩]))))))
 (.reg [⟨(some 132), none, .bin .add (.tmp 71) (.lit (.int .i64 1))⟩,
 ⟨(some 71), none, .mov (.tmp 132)⟩])))))))
 (.seq (.reg [⟨(some 134), none, .load true 5 (.tmp 15)⟩,
 ⟨(some 135), none, .call (.fn 20) [(.tmp 134), (.lit (.int .i64 0))]⟩,
 ⟨(some 133), none, .mov (.tmp 135)⟩,
 ⟨(some 136), none, .ext (.tmp 133) 0⟩,
 ⟨(some 137), none, .ext (.tmp 133) 1⟩,
 ⟨(some 23), none, .alloc [(.int .i64 0), (.int .i64 0)]⟩,
 ⟨none, none, .store 2 (.tmp 23) (.tmp 136)⟩,
 ⟨(some 24), none, .mov (.tmp 137)⟩])
 (.seq (.reg [⟨(some 138), none, .mov (.tmp 5)⟩,
 ⟨(some 139), none, .conv .i64 (.tmp 138)⟩,
 ⟨(some 140), none, .faddr 1 (.tmp 6)⟩,
 ⟨(some 141), none, .load false 1 (.tmp 140)⟩,
 ⟨(some 142), none, .bin .add (.tmp 141) (.lit (.int .i64 1))⟩,
 ⟨(some 143), none, .bin .rem (.tmp 139) (.tmp 142)⟩,
 ⟨(some 25), none, .mov (.tmp 143)⟩])
 (.seq (.reg [⟨(some 145), none, .load true 5 (.tmp 15)⟩,
 ⟨(some 146), none, .mov (.tmp 25)⟩,
 ⟨(some 147), none, .call (.fn 22) [(.tmp 145), (.lit (.int .i64 0)), (.tmp 146)]⟩,
 ⟨(some 144), none, .mov (.tmp 147)⟩,
 ⟨(some 148), none, .ext (.tmp 144) 0⟩,
 ⟨(some 149), none, .ext (.tmp 144) 1⟩,
 ⟨(some 26), none, .mov (.tmp 148)⟩,
 ⟨(some 27), none, .mov (.tmp 149)⟩])
 (.seq (.reg [⟨(some 151), none, .load true 5 (.tmp 15)⟩,
 ⟨(some 152), none, .call (.fn 30) [(.tmp 151), (.lit (.int .i64 0))]⟩,
 ⟨(some 150), none, .mov (.tmp 152)⟩,
 ⟨(some 153), none, .ext (.tmp 150) 0⟩,
 ⟨(some 154), none, .ext (.tmp 150) 1⟩,
 ⟨(some 28), none, .mov (.tmp 153)⟩,
 ⟨(some 29), none, .mov (.tmp 154)⟩])
 (.seq (.reg [⟨(some 156), none, .load true 5 (.tmp 15)⟩,
 ⟨(some 157), none, .call (.fn 28) [(.tmp 156), (.lit (.int .i64 0))]⟩,
 ⟨(some 155), none, .mov (.tmp 157)⟩,
 ⟨(some 158), none, .ext (.tmp 155) 0⟩,
 ⟨(some 159), none, .ext (.tmp 155) 1⟩,
 ⟨(some 30), none, .mov (.tmp 158)⟩,
 ⟨(some 31), none, .mov (.tmp 159)⟩])
 (.seq (.reg [⟨(some 160), none, .mov (.tmp 4)⟩,
 ⟨(some 161), none, .conv .i64 (.tmp 160)⟩,
 ⟨(some 162), none, .mov (.tmp 14)⟩,
 ⟨(some 163), none, .len (.tmp 162)⟩,
 ⟨(some 164), none, .bin .rem (.tmp 161) (.tmp 163)⟩,
 ⟨(some 32), none, .mov (.tmp 164)⟩])
 (.seq (.draw (.step ⟨(some 166), none, .load true 5 (.tmp 15)⟩ (
 .step ⟨(some 167), none, .mov (.tmp 32)⟩ (
 .step ⟨(some 168), none, .mov (.tmp 14)⟩ (
 .step ⟨(some 169), none, .mov (.tmp 32)⟩ (
 .step ⟨(some 170), none, .iaddr 1 (.tmp 168) (.tmp 169)⟩ (
 .step ⟨(some 171), none, .load false 1 (.tmp 170)⟩ (
 .ev ⟨(some 172), none, .call (.fn 26) [(.tmp 166), (.tmp 167), (.tmp 171)]⟩ [⟨(some 170), none, .iaddr 1 (.tmp 168) (.tmp 169)⟩] (
 .step ⟨(some 165), none, .mov (.tmp 172)⟩ (
 .step ⟨(some 173), none, .ext (.tmp 165) 0⟩ (
 .step ⟨(some 174), none, .ext (.tmp 165) 1⟩ (
 .step ⟨(some 175), none, .ext (.tmp 165) 2⟩ (
 .step ⟨(some 33), none, .mov (.tmp 173)⟩ (
 .step ⟨(some 34), none, .mov (.tmp 174)⟩ (
 .step ⟨(some 35), none, .mov (.tmp 175)⟩ (
 .done))))))))
 (.stop)))))))))
 (.seq (.reg [⟨(some 176), none, .mov (.tmp 24)⟩,
 ⟨(some 177), none, .bin .eql (.tmp 176) (.lit (.int .i64 0))⟩,
 ⟨(some 178), none, .mov (.tmp 177)⟩,
 ⟨(some 179), (some (178, true)), .faddr 0 (.tmp 23)⟩,
 ⟨(some 180), (some (178, true)), .load false 1 (.tmp 179)⟩,
 ⟨(some 181), (some (178, true)), .mov (.tmp 16)⟩,
 ⟨(some 182), (some (178, true)), .bin .leq (.tmp 180) (.tmp 181)⟩,
 ⟨(some 183), none, .pick (.tmp 178) (.tmp 182) (.lit (.bool false))⟩,
 ⟨(some 184), none, .mov (.tmp 183)⟩,
 ⟨(some 185), (some (184, true)), .mov (.tmp 16)⟩,
 ⟨(some 186), (some (184, true)), .faddr 1 (.tmp 23)⟩,
 ⟨(some 187), (some (184, true)), .load false 1 (.tmp 186)⟩,
 ⟨(some 188), (some (184, true)), .bin .leq (.tmp 185) (.tmp 187)⟩,
 ⟨(some 189), none, .pick (.tmp 184) (.tmp 188) (.lit (.bool false))⟩,
 ⟨(some 190), none, .mov (.tmp 189)⟩,
 ⟨(some 191), (some (190, true)), .mov (.tmp 27)⟩,
 ⟨(some 192), (some (190, true)), .bin .eql (.tmp 191) (.lit (.int .i64 0))⟩,
 ⟨(some 193), none, .pick (.tmp 190) (.tmp 192) (.lit (.bool false))⟩,
 ⟨(some 194), none, .mov (.tmp 193)⟩,
 ⟨(some 195), (some (194, true)), .mov (.tmp 26)⟩,
 ⟨(some 196), (some (194, true)), .bin .neq (.tmp 195) (.lit (.int .i64 2))⟩,
 ⟨(some 197), (some (194, true)), .mov (.tmp 196)⟩,
 ⟨(some 198), (some (197, false)), .mov (.tmp 16)⟩,
 ⟨(some 199), (some (197, false)), .mov (.tmp 25)⟩,
 ⟨(some 200), (some (197, false)), .bin .lss (.tmp 198) (.tmp 199)⟩,
 ⟨(some 201), (some (194, true)), .pick (.tmp 197) (.lit (.bool true)) (.tmp 200)⟩,
 ⟨(some 202), none, .pick (.tmp 194) (.tmp 201) (.lit (.bool false))⟩,
 ⟨(some 203), none, .mov (.tmp 202)⟩,
 ⟨(some 204), (some (203, true)), .mov (.tmp 26)⟩,
 ⟨(some 205), (some (203, true)), .bin .neq (.tmp 204) (.lit (.int .i64 0))⟩,
 ⟨(some 206), (some (203, true)), .mov (.tmp 205)⟩,
 ⟨(some 207), (some (206, false)), .mov (.tmp 16)⟩,
 ⟨(some 208), (some (206, false)), .mov (.tmp 25)⟩,
 ⟨(some 209), (some (206, false)), .bin .geq (.tmp 207) (.tmp 208)⟩,
 ⟨(some 210), (some (203, true)), .pick (.tmp 206) (.lit (.bool true)) (.tmp 209)⟩,
 ⟨(some 211), none, .pick (.tmp 203) (.tmp 210) (.lit (.bool false))⟩,
 ⟨(some 212), none, .mov (.tmp 211)⟩,
 ⟨(some 213), (some (212, true)), .mov (.tmp 29)⟩,
 ⟨(some 214), (some (212, true)), .bin .eql (.tmp 213) (.lit (.int .i64 4))⟩,
 ⟨(some 215), none, .pick (.tmp 212) (.tmp 214) (.lit (.bool false))⟩,
 ⟨(some 216), none, .mov (.tmp 215)⟩,
 ⟨(some 217), (some (216, true)), .mov (.tmp 31)⟩,
 ⟨(some 218), (some (216, true)), .bin .eql (.tmp 217) (.lit (.int .i64 0))⟩,
 ⟨(some 219), none, .pick (.tmp 216) (.tmp 218) (.lit (.bool false))⟩,
 ⟨(some 220), none, .mov (.tmp 219)⟩,
 ⟨(some 221), (some (220, true)), .mov (.tmp 30)⟩,
 ⟨(some 222), (some (220, true)), .faddr 2 (.tmp 6)⟩,
 ⟨(some 223), (some (220, true)), .load false 1 (.tmp 222)⟩,
 ⟨(some 224), (some (220, true)), .bin .leq (.tmp 221) (.tmp 223)⟩,
 ⟨(some 225), none, .pick (.tmp 220) (.tmp 224) (.lit (.bool false))⟩,
 ⟨(some 226), none, .mov (.tmp 225)⟩,
 ⟨(some 227), (some (226, true)), .mov (.tmp 35)⟩,
 ⟨(some 228), (some (226, true)), .bin .eql (.tmp 227) (.lit (.int .i64 0))⟩,
 ⟨(some 229), none, .pick (.tmp 226) (.tmp 228) (.lit (.bool false))⟩,
 ⟨(some 230), none, .mov (.tmp 229)⟩,
 ⟨(some 231), (some (230, true)), .mov (.tmp 33)⟩,
 ⟨(some 232), (some (230, true)), .bin .andNot (.tmp 231) (.lit (.int .i64 1))⟩,
 ⟨(some 233), (some (230, true)), .bin .eql (.tmp 232) (.lit (.int .i64 0))⟩,
 ⟨(some 234), none, .pick (.tmp 230) (.tmp 233) (.lit (.bool false))⟩,
 ⟨(some 235), none, .mov (.tmp 234)⟩,
 ⟨(some 236), (some (235, true)), .mov (.tmp 34)⟩,
 ⟨(some 237), (some (235, true)), .bin .eql (.tmp 236) (.lit (.int .i64 1))⟩,
 ⟨(some 238), none, .pick (.tmp 235) (.tmp 237) (.lit (.bool false))⟩,
 ⟨(some 239), none, .mov (.tmp 238)⟩,
 ⟨(some 240), (some (239, true)), .call (.fn 15) []⟩,
 ⟨(some 241), none, .pick (.tmp 239) (.tmp 240) (.lit (.bool false))⟩,
 ⟨(some 12), none, .mov (.tmp 241)⟩])
 (.ret))))))))))))))))
theorem k6 : FnC Tryd.prog 6 242 [] [8] [.tmp 12] c6 6 := ⟨Tryd.f6, _, Tryd.func6, rfl, by decide, rfl, by decide, by kernel_rfl, by kernel_rfl⟩
/-- dipworks/dipworkslaw12.course -/
def c33 : AC :=
 .seq (.reg [⟨(some 3), none, .box (.tmp 0)⟩,
 ⟨(some 6), none, .mov (.lit (.slice none 0 0))⟩])
 (.seq (.draw (.step ⟨(some 12), none, .mov (.tmp 1)⟩ (
 .step ⟨(some 13), none, .conv .i64 (.tmp 12)⟩ (
 .step ⟨(some 14), none, .faddr 0 (.tmp 3)⟩ (
 .step ⟨(some 15), none, .load false 1 (.tmp 14)⟩ (
 .step ⟨(some 16), none, .bin .rem (.tmp 13) (.tmp 15)⟩ (
 .step ⟨(some 17), none, .mov (.tmp 1)⟩ (
 .step ⟨(some 18), none, .conv .i64 (.tmp 17)⟩ (
 .step ⟨(some 19), none, .bin .quo (.tmp 18) (.lit (.int .i64 16))⟩ (
 .step ⟨(some 20), none, .faddr 1 (.tmp 3)⟩ (
 .step ⟨(some 21), none, .load false 1 (.tmp 20)⟩ (
 .step ⟨(some 22), none, .bin .rem (.tmp 19) (.tmp 21)⟩ (
 .step ⟨(some 7), none, .mov (.tmp 16)⟩ (
 .step ⟨(some 8), none, .mov (.tmp 22)⟩ (
 .done)))))))))))))))
 (.seq (.reg [⟨(some 23), none, .mov (.tmp 8)⟩,
 ⟨(some 24), none, .faddr 0 (.tmp 3)⟩,
 ⟨(some 25), none, .load false 1 (.tmp 24)⟩,
 ⟨(some 26), none, .bin .mul (.tmp 23) (.tmp 25)⟩,
 ⟨(some 27), none, .mov (.tmp 7)⟩,
 ⟨(some 28), none, .bin .add (.tmp 26) (.tmp 27)⟩,
 ⟨(some 29), none, .bslice 1 (.int .i64 0) 1 [(0, (.tmp 28))]⟩,
 ⟨(some 9), none, .mov (.tmp 29)⟩])
 (.seq (.reg [⟨(some 10), none, .mov (.lit (.int .i64 0))⟩])
 (.seq (.seq (.reg [⟨(some 30), none, .faddr 3 (.tmp 3)⟩,
 ⟨(some 31), none, .load false 1 (.tmp 30)⟩,
 ⟨(some 32), none, .mov (.lit (.int .i64 0))⟩])
 (.block 0 (.loop (.seq (.reg [⟨(some 33), none, .bin .lss (.tmp 32) (.tmp 31)⟩])
 (.seq (.cond (.tmp 33) (.skip)
 (.exit 0))
 (.seq (.block 1 (.seq (.seq (.reg [⟨(some 34), none, .faddr 2 (.tmp 3)⟩,
 ⟨(some 35), none, .load false 1 (.tmp 34)⟩,
 ⟨(some 36), none, .mov (.lit (.int .i64 0))⟩])
 (.block 2 (.loop (.seq (.reg [⟨(some 37), none, .bin .lss (.tmp 36) (.tmp 35)⟩])
 (.seq (.cond (.tmp 37) (.skip)
 (.exit 2))
 (.seq (.block 3 (.seq (.reg [⟨(some 11), none, .mov (.lit (.int .i64 0))⟩])
 (.seq (.seq (.reg [⟨(some 38), none, .mov (.tmp 2)⟩,
 ⟨(some 39), none, .len (.tmp 38)⟩,
 ⟨(some 40), none, .bin .gtr (.tmp 39) (.lit (.int .i64 0))⟩])
 (.cond (.tmp 40) (.reg [⟨(some 41), none, .mov (.tmp 2)⟩,
 ⟨(some 42), none, .mov (.tmp 10)⟩,
 ⟨(some 43), none, .mov (.tmp 2)⟩,
 ⟨(some 44), none, .len (.tmp 43)⟩,
 ⟨(some 45), none, .bin .rem (.tmp 42) (.tmp 44)⟩,
 ⟨(some 46), none, .iaddr 1 (.tmp 41) (.tmp 45)⟩,
 ⟨(some 47), none, .load false 1 (.tmp 46)⟩,
 ⟨(some 48), none, .conv .i64 (.tmp 47)⟩,
 ⟨(some 11), none, .mov (.tmp 48)⟩])
 (.skip)))
 (.seq (.reg [⟨(some 49), none, .mov (.tmp 10)⟩,
 ⟨(some 50), none, .bin .add (.tmp 49) (.lit (.int .i64 1))⟩,
 ⟨(some 10), none, .mov (.tmp 50)⟩])
 (.seq (.reg [⟨(some 51), none, .mov (.tmp 11)⟩,
 ⟨(some 52), none, .bin .rem (.tmp 51) (.lit (.int .i64 6))⟩])
 (.block 4 (.seq (.reg [⟨(some 54), none, .bin .eql (.tmp 52) (.lit (.int .i64 1))⟩,
 ⟨(some 53), none, .mov (.tmp 54)⟩])
 (.cond (.tmp 53) (.reg [⟨(some 55), none, .mov (.tmp 7)⟩,
 ⟨(some 56), none, .bin .sub (.tmp 55) (.lit (.int .i64 1))⟩,
 ⟨(some 57), none, .mxmn true (.lit (.int .i64 0)) [(.tmp 56)]⟩,
 ⟨(some 7), none, .mov (.tmp 57)⟩])
 (.seq (.reg [⟨(some 59), none, .bin .eql (.tmp 52) (.lit (.int .i64 2))⟩,
 ⟨(some 58), none, .mov (.tmp 59)⟩])
 (.cond (.tmp 58) (.reg [⟨(some 60), none, .faddr 0 (.tmp 3)⟩,
 ⟨(some 61), none, .load false 1 (.tmp 60)⟩,
 ⟨(some 62), none, .bin .sub (.tmp 61) (.lit (.int .i64 1))⟩,
 ⟨(some 63), none, .mov (.tmp 7)⟩,
 ⟨(some 64), none, .bin .add (.tmp 63) (.lit (.int .i64 1))⟩,
 ⟨(some 65), none, .mxmn false (.tmp 62) [(.tmp 64)]⟩,
 ⟨(some 7), none, .mov (.tmp 65)⟩])
 (.seq (.seq (.reg [⟨(some 67), none, .bin .eql (.tmp 52) (.lit (.int .i64 3))⟩,
 ⟨(some 66), none, .mov (.tmp 67)⟩])
 (.cond (.tmp 66) (.skip)
 (.reg [⟨(some 68), none, .bin .eql (.tmp 52) (.lit (.int .i64 5))⟩,
 ⟨(some 66), none, .mov (.tmp 68)⟩])))
 (.cond (.tmp 66) (.reg [⟨(some 69), none, .mov (.tmp 8)⟩,
 ⟨(some 70), none, .bin .sub (.tmp 69) (.lit (.int .i64 1))⟩,
 ⟨(some 71), none, .mxmn true (.lit (.int .i64 0)) [(.tmp 70)]⟩,
 ⟨(some 8), none, .mov (.tmp 71)⟩])
 (.seq (.reg [⟨(some 73), none, .bin .eql (.tmp 52) (.lit (.int .i64 4))⟩,
 ⟨(some 72), none, .mov (.tmp 73)⟩])
 (.cond (.tmp 72) (.reg [⟨(some 74), none, .faddr 1 (.tmp 3)⟩,
 ⟨(some 75), none, .load false 1 (.tmp 74)⟩,
 ⟨(some 76), none, .bin .sub (.tmp 75) (.lit (.int .i64 1))⟩,
 ⟨(some 77), none, .mov (.tmp 8)⟩,
 ⟨(some 78), none, .bin .add (.tmp 77) (.lit (.int .i64 1))⟩,
 ⟨(some 79), none, .mxmn false (.tmp 76) [(.tmp 78)]⟩,
 ⟨(some 8), none, .mov (.tmp 79)⟩])
 (.skip)))))))))))))))
 (.reg [⟨(some 80), none, .bin .add (.tmp 36) (.lit (.int .i64 1))⟩,
 ⟨(some 36), none, .mov (.tmp 80)⟩])))))))
 (.reg [⟨(some 81), none, .mov (.tmp 9)⟩,
 ⟨(some 82), none, .mov (.tmp 8)⟩,
 ⟨(some 83), none, .faddr 0 (.tmp 3)⟩,
 ⟨(some 84), none, .load false 1 (.tmp 83)⟩,
 ⟨(some 85), none, .bin .mul (.tmp 82) (.tmp 84)⟩,
 ⟨(some 86), none, .mov (.tmp 7)⟩,
 ⟨(some 87), none, .bin .add (.tmp 85) (.tmp 86)⟩,
 ⟨(some 88), none, .bslice 1 (.int .i64 0) 1 [(0, (.tmp 87))]⟩,
 ⟨(some 89), none, .app 1 8 (.tmp 81) (.tmp 88)⟩,
 ⟨(some 9), none, .mov (.tmp 89)⟩])))
 (.reg [⟨(some 90), none, .bin .add (.tmp 32) (.lit (.int .i64 1))⟩,
 ⟨(some 32), none, .mov (.tmp 90)⟩])))))))
 (.seq (.reg [⟨(some 91), none, .mov (.tmp 9)⟩,
 ⟨(some 6), none, .mov (.tmp 91)⟩])
 (.ret))))))
theorem k33 : FnC Tryd.prog 33 92 [] [] [.tmp 6] c33 3 := ⟨Tryd.f33, _, Tryd.func33, rfl, by decide, rfl, by decide, by kernel_rfl, by kernel_rfl⟩
/-- dipworks/dipworkslaw12.right -/
def c34 : AC :=
 .seq (.reg [⟨(some 3), none, .box (.tmp 0)⟩,
 ⟨(some 6), none, .mov (.lit (.slice none 0 0))⟩])
 (.seq (.reg [⟨(some 7), none, .mov (.lit (.slice none 0 0))⟩])
 (.seq (.seq (.reg [⟨(some 14), none, .mov (.tmp 1)⟩,
 ⟨(some 15), none, .len (.tmp 14)⟩,
 ⟨(some 16), none, .mov (.lit (.int .i64 0))⟩])
 (.block 0 (.loop (.seq (.reg [⟨(some 17), none, .bin .lss (.tmp 16) (.tmp 15)⟩])
 (.seq (.cond (.tmp 17) (.skip)
 (.exit 0))
 (.seq (.block 1 (.seq (.reg [⟨(some 18), none, .iaddr 5 (.tmp 14) (.tmp 16)⟩,
 ⟨(some 19), none, .load true 5 (.tmp 18)⟩,
 ⟨(some 9), none, .alloc [(.int .i64 0), (.int .i64 0), (.int .i64 0), (.int .i64 0), (.int .i64 0)]⟩,
 ⟨none, none, .store 5 (.tmp 9) (.tmp 19)⟩])
 (.seq (.draw (.step ⟨(some 20), none, .mov (.tmp 2)⟩ (
 .step ⟨(some 21), none, .faddr 0 (.tmp 9)⟩ (
 .step ⟨(some 22), none, .load false 1 (.tmp 21)⟩ (
 .step ⟨(some 23), none, .iaddr 1 (.tmp 20) (.tmp 22)⟩ (
 .step ⟨(some 24), none, .load false 1 (.tmp 23)⟩ (
 .step ⟨(some 25), none, .faddr 0 (.tmp 3)⟩ (
 .step ⟨(some 26), none, .load false 1 (.tmp 25)⟩ (
 .step ⟨(some 27), none, .bin .rem (.tmp 24) (.tmp 26)⟩ (
 .step ⟨(some 28), none, .mov (.tmp 2)⟩ (
 .step ⟨(some 29), none, .faddr 0 (.tmp 9)⟩ (
 .step ⟨(some 30), none, .load false 1 (.tmp 29)⟩ (
 .step ⟨(some 31), none, .iaddr 1 (.tmp 28) (.tmp 30)⟩ (
 .step ⟨(some 32), none, .load false 1 (.tmp 31)⟩ (
 .step ⟨(some 33), none, .faddr 0 (.tmp 3)⟩ (
 .step ⟨(some 34), none, .load false 1 (.tmp 33)⟩ (
 .step ⟨(some 35), none, .bin .quo (.tmp 32) (.tmp 34)⟩ (
 .step ⟨(some 10), none, .mov (.tmp 27)⟩ (
 .step ⟨(some 11), none, .mov (.tmp 35)⟩ (
 .done))))))))))))))))))))
 (.seq (.draw (.step ⟨(some 36), none, .faddr 1 (.tmp 9)⟩ (
 .step ⟨(some 37), none, .faddr 1 (.tmp 36)⟩ (
 .step ⟨(some 38), none, .load false 1 (.tmp 37)⟩ (
 .step ⟨(some 39), none, .faddr 1 (.tmp 9)⟩ (
 .step ⟨(some 40), none, .faddr 0 (.tmp 39)⟩ (
 .step ⟨(some 41), none, .load false 1 (.tmp 40)⟩ (
 .step ⟨(some 42), none, .bin .sub (.tmp 38) (.tmp 41)⟩ (
 .step ⟨(some 43), none, .faddr 3 (.tmp 9)⟩ (
 .step ⟨(some 44), none, .faddr 1 (.tmp 43)⟩ (
 .step ⟨(some 45), none, .load false 1 (.tmp 44)⟩ (
 .step ⟨(some 46), none, .faddr 3 (.tmp 9)⟩ (
 .step ⟨(some 47), none, .faddr 0 (.tmp 46)⟩ (
 .step ⟨(some 48), none, .load false 1 (.tmp 47)⟩ (
 .step ⟨(some 49), none, .bin .sub (.tmp 45) (.tmp 48)⟩ (
 .step ⟨(some 12), none, .mov (.tmp 42)⟩ (
 .step ⟨(some 13), none, .mov (.tmp 49)⟩ (
 .done))))))))))))))))))
 (.draw (.step ⟨(some 50), none, .mov (.tmp 7)⟩ (
 .step ⟨(some 51), none, .faddr 0 (.tmp 9)⟩ (
 .step ⟨(some 52), none, .load false 1 (.tmp 51)⟩ (
 .step ⟨(some 53), none, .mov (.tmp 10)⟩ (
 .step ⟨(some 54), none, .mov (.tmp 12)⟩ (
 .step ⟨(some 55), none, .bin .quo (.tmp 54) (.lit (.int .i64 2))⟩ (
 .step ⟨(some 56), none, .bin .sub (.tmp 53) (.tmp 55)⟩ (
 .step ⟨(some 57), none, .mxmn true (.lit (.int .i64 0)) [(.tmp 56)]⟩ (
 .step ⟨(some 58), none, .faddr 0 (.tmp 3)⟩ (
 .step ⟨(some 59), none, .load false 1 (.tmp 58)⟩ (
 .step ⟨(some 60), none, .bin .sub (.tmp 59) (.lit (.int .i64 1))⟩ (
 .step ⟨(some 61), none, .mov (.tmp 10)⟩ (
 .step ⟨(some 62), none, .mov (.tmp 12)⟩ (
 .step ⟨(some 63), none, .bin .add (.tmp 61) (.tmp 62)⟩ (
 .step ⟨(some 64), none, .mov (.tmp 12)⟩ (
 .step ⟨(some 65), none, .bin .quo (.tmp 64) (.lit (.int .i64 2))⟩ (
 .step ⟨(some 66), none, .bin .sub (.tmp 63) (.tmp 65)⟩ (
 .step ⟨(some 67), none, .mxmn false (.tmp 60) [(.tmp 66)]⟩ (
 .step ⟨(some 69), none, .mov (.tmp 11)⟩ (
 .step ⟨(some 70), none, .mov (.tmp 13)⟩ (
 .step ⟨(some 71), none, .bin .quo (.tmp 70) (.lit (.int .i64 2))⟩ (
 .step ⟨(some 72), none, .bin .sub (.tmp 69) (.tmp 71)⟩ (
 .step ⟨(some 73), none, .mxmn true (.lit (.int .i64 0)) [(.tmp 72)]⟩ (
 .step ⟨(some 74), none, .faddr 1 (.tmp 3)⟩ (
 .step ⟨(some 75), none, .load false 1 (.tmp 74)⟩ (
 .step ⟨(some 76), none, .bin .sub (.tmp 75) (.lit (.int .i64 1))⟩ (
 .step ⟨(some 77), none, .mov (.tmp 11)⟩ (
 .step ⟨(some 78), none, .mov (.tmp 13)⟩ (
 .step ⟨(some 79), none, .bin .add (.tmp 77) (.tmp 78)⟩ (
 .step ⟨(some 80), none, .mov (.tmp 13)⟩ (
 .step ⟨(some 81), none, .bin .quo (.tmp 80) (.lit (.int .i64 2))⟩ (
 .step ⟨(some 82), none, .bin .sub (.tmp 79) (.tmp 81)⟩ (
 .step ⟨(some 83), none, .mxmn false (.tmp 76) [(.tmp 82)]⟩ (
 .ev ⟨(some 68), none, .call (.fn 45) [(.tmp 57), (.tmp 67)]⟩ [⟨(some 75), none, .load false 1 (.tmp 74)⟩, ⟨(some 74), none, .faddr 1 (.tmp 3)⟩, ⟨(some 59), none, .load false 1 (.tmp 58)⟩, ⟨(some 58), none, .faddr 0 (.tmp 3)⟩, ⟨(some 52), none, .load false 1 (.tmp 51)⟩, ⟨(some 51), none, .faddr 0 (.tmp 9)⟩] (
 .ev ⟨(some 84), none, .call (.fn 45) [(.tmp 73), (.tmp 83)]⟩ [⟨(some 75), none, .load false 1 (.tmp 74)⟩, ⟨(some 74), none, .faddr 1 (.tmp 3)⟩, ⟨(some 59), none, .load false 1 (.tmp 58)⟩, ⟨(some 58), none, .faddr 0 (.tmp 3)⟩, ⟨(some 52), none, .load false 1 (.tmp 51)⟩, ⟨(some 51), none, .faddr 0 (.tmp 9)⟩] (
 .ev ⟨(some 85), none, .call (.fn 47) [(.tmp 52), (.tmp 68), (.tmp 84)]⟩ [⟨(some 75), none, .load false 1 (.tmp 74)⟩, ⟨(some 74), none, .faddr 1 (.tmp 3)⟩, ⟨(some 59), none, .load false 1 (.tmp 58)⟩, ⟨(some 58), none, .faddr 0 (.tmp 3)⟩, ⟨(some 51), none, .faddr 0 (.tmp 9)⟩] (
 .ev ⟨(some 86), none, .bslice 5 (.agg #[(.int .i64 0), (.int .i64 0), (.int .i64 0), (.int .i64 0), (.int .i64 0)]) 1 [(0, (.tmp 85))]⟩ [⟨(some 75), none, .load false 1 (.tmp 74)⟩, ⟨(some 74), none, .faddr 1 (.tmp 3)⟩, ⟨(some 59), none, .load false 1 (.tmp 58)⟩, ⟨(some 58), none, .faddr 0 (.tmp 3)⟩, ⟨(some 52), none, .load false 1 (.tmp 51)⟩, ⟨(some 51), none, .faddr 0 (.tmp 9)⟩] (
 .ev ⟨(some 87), none, .app 5 40 (.tmp 50) (.tmp 86)⟩ [⟨(some 75), none, .load false 1 (.tmp 74)⟩, ⟨(some 74), none, .faddr 1 (.tmp 3)⟩, ⟨(some 59), none, .load false 1 (.tmp 58)⟩, ⟨(some 58), none, .faddr 0 (.tmp 3)⟩, ⟨(some 52), none, .load false 1 (.tmp 51)⟩, ⟨(some 51), none, .faddr 0 (.tmp 9)⟩] (
 .step ⟨(some 7), none, .mov (.tmp 87)⟩ (
 .done))
 (.stop))
 (.stop))
 (.stop))
 (.stop))
 (.stop))))))))))))))))))))))))))))))))))))))))
 (.reg [⟨(some 88), none, .bin .add (.tmp 16) (.lit (.int .i64 1))⟩,
 ⟨(some 16), none, .mov (.tmp 88)⟩])))))))
 (.seq (.reg [⟨(some 89), none, .mov (.tmp 7)⟩,
 ⟨(some 6), none, .mov (.tmp 89)⟩])
 (.ret))))
theorem k34 : FnC Tryd.prog 34 90 [] [] [.tmp 6] c34 3 := ⟨Tryd.f34, _, Tryd.func34, rfl, by decide, rfl, by decide, by kernel_rfl, by kernel_rfl⟩
end Go.Proofs.YtafcdpmcmmfbhaaDoor

/- Where a boat truly goes; sightings of it. -/
namespace Go.Proofs.YtafcdpmcmmfbhaaDoor
open Go Go.Ab

theorem tdivN (a n : Nat) : (a : Int).tdiv (n : Int) = ((a / n : Nat) : Int) := by rw [Int.tdiv_eq_ediv_of_nonneg (by omega)]; rfl
abbrev tB8 (ws : List Nat) : T := .slice 1 (ws.map fun w : Nat => .lit (.int .u8 w))
/-- What is said of a step, and where a boat is behind it. -/
def byAt (ws : List Nat) (t : Nat) : Nat := if 0 < ws.length then ws.getD (t % ws.length) 0 else 0
def moveP (W D : Nat) (p : Nat × Nat) (n : Nat) : Nat × Nat :=
  if n % 6 = 1 then (p.1 - 1, p.2) else if n % 6 = 2 then (min (W - 1) (p.1 + 1), p.2) else if n % 6 = 3 ∨ n % 6 = 5 then (p.1, p.2 - 1) else if n % 6 = 4 then (p.1, min (D - 1) (p.2 + 1)) else p
def posP (b : Bo) (u : Nat) (ws : List Nat) : Nat → Nat × Nat
  | 0 => (u % b.W, u / 16 % b.D)
  | t + 1 => moveP b.W b.D (posP b u ws t) (byAt ws t)
theorem posP_lt {b : Bo} (hb : b.OK) (u : Nat) (ws : List Nat) : ∀ t, (posP b u ws t).1 < b.W ∧ (posP b u ws t).2 < b.D
  | 0 => ⟨Nat.mod_lt _ (by have := hb.W; omega), Nat.mod_lt _ (by have := hb.D; omega)⟩
  | t + 1 => by
    obtain ⟨h1, h2⟩ := posP_lt hb u ws t
    show (moveP _ _ (posP b u ws t) _).1 < _ ∧ (moveP _ _ (posP b u ws t) _).2 < _
    unfold moveP
    have := hb.W
    have := hb.D
    split
    · simp only; omega
    · split
      · simp only; omega
      · split
        · simp only; omega
        · split
          · simp only; omega
          · exact ⟨h1, h2⟩
def plP (b : Bo) (p : Nat × Nat) : Nat := p.2 * b.W + p.1
theorem plP_at {b : Bo} {p : Nat × Nat} (h : p.1 < b.W) : plP b p % b.W = p.1 ∧ plP b p / b.W = p.2 := by
  unfold plP
  constructor
  · rw [Nat.mul_comm, Nat.mul_add_mod, Nat.mod_eq_of_lt h]
  · rw [Nat.mul_comm, Nat.mul_add_div (by omega), Nat.div_eq_of_lt h]; omega
theorem posP_step {b : Bo} (hb : b.OK) (u : Nat) (ws : List Nat) (t : Nat) : dist b (plP b (posP b u ws t)) (plP b (posP b u ws (t + 1))) ≤ 1 := by
  obtain ⟨h1, h2⟩ := posP_lt hb u ws t
  obtain ⟨h3, h4⟩ := posP_lt hb u ws (t + 1)
  unfold dist
  rw [(plP_at h1).1, (plP_at h1).2, (plP_at h3).1, (plP_at h3).2]
  show _ - (moveP _ _ (posP b u ws t) _).1 + ((moveP _ _ (posP b u ws t) _).1 - _) + (_ - (moveP _ _ (posP b u ws t) _).2 + ((moveP _ _ (posP b u ws t) _).2 - _)) ≤ 1
  unfold moveP
  have := hb.W
  have := hb.D
  split
  · simp only; omega
  · split
    · simp only; omega
    · split
      · simp only; omega
      · split
        · simp only; omega
        · omega
def S (b : Bo) : Nat := b.speed.toNat
/-- The course: the place in each minute. -/
def crs (b : Bo) (u : Nat) (ws : List Nat) (m : Nat) : Nat := plP b (posP b u ws (m * S b))
theorem crs_far {b : Bo} (hb : b.OK) (u : Nat) (ws : List Nat) (t : Nat) : ∀ k, dist b (plP b (posP b u ws t)) (plP b (posP b u ws (t + k))) ≤ k
  | 0 => by rw [Nat.add_zero, dist_self]; exact Nat.le_refl _
  | k + 1 => by
    have h1 := crs_far hb u ws t k
    have h2 := posP_step hb u ws (t + k)
    have h3 := dist_tri b (plP b (posP b u ws t)) (plP b (posP b u ws (t + k))) (plP b (posP b u ws (t + k + 1)))
    rw [show t + (k + 1) = t + k + 1 by omega]
    omega
theorem crs_near {b : Bo} (hb : b.OK) (u : Nat) (ws : List Nat) (m : Nat) : dist b (crs b u ws m) (crs b u ws (m + 1)) ≤ S b := by
  unfold crs
  have := crs_far hb u ws (m * S b) (S b)
  rwa [show m * S b + S b = (m + 1) * S b by rw [Nat.add_mul, Nat.one_mul]] at this
theorem crs_lt {b : Bo} (hb : b.OK) (u : Nat) (ws : List Nat) (m : Nat) : crs b u ws m < b.N := by
  obtain ⟨h1, h2⟩ := posP_lt hb u ws (m * S b)
  unfold crs plP Bo.N
  have h3 : ((posP b u ws (m * S b)).2 + 1) * b.W ≤ b.D * b.W := Nat.mul_le_mul_right _ h2
  rw [Nat.add_mul] at h3
  rw [Nat.mul_comm b.W b.D]
  omega
def crsL (b : Bo) (u : Nat) (ws : List Nat) (k : Nat) : List Nat := (List.range k).map (crs b u ws)
theorem crsL_succ (b : Bo) (u : Nat) (ws : List Nat) (k : Nat) : crsL b u ws (k + 1) = crsL b u ws k ++ [crs b u ws k] := by
  unfold crsL; rw [List.range_succ, List.map_append]; rfl
theorem crsL_len (b : Bo) (u : Nat) (ws : List Nat) (k : Nat) : (crsL b u ws k).length = k := by simp [crsL]
theorem crsL_at (b : Bo) (u : Nat) (ws : List Nat) {k m : Nat} (h : m < k) : (crsL b u ws k)[m]? = some (crs b u ws m) := by simp [crsL, h]

set_option maxRecDepth 8000 in
set_option maxHeartbeats 8000000 in
theorem course_ok (b : Bo) (hb : b.OK) (u : Nat) (hu : u < 256) (ws : List Nat) (hw : ∀ w ∈ ws, w < 256) (hwl : ws.length < 9223372036854775808) : ACall Tryd.prog 33 [.t (.agg (bo5 b)), .t (.lit (.int .u8 u)), .t (tB8 ws)] [] (ret (tN (crsL b u ws (b.L + 1)))) := by
  refine ACall.walk k33 ?_
  have hW := hb.W
  have hD := hb.D
  have hsp := hb.speed
  have hL := hb.L
  have hSe : b.speed = (S b : Nat) := by unfold S; omega
  have hS3 : S b ≤ 3 := by unfold S; omega
  unfold c33
  have w0 : IntKind.i64.wrap (u : Int) = u := wrap_id (by omega) (by omega)
  have w1 : IntKind.i64.wrap ((u / 16 : Nat) : Int) = ((u / 16 : Nat) : Int) := wrap_id (by omega) (by omega)
  have n1 : ¬ (b.wide = 0) := by omega
  have n2 : ¬ (b.deep = 0) := by omega
  have t1 : (u : Int).tmod b.wide = ((u % b.W : Nat) : Int) := by rw [hW.2.2]; exact mod_nat u b.W
  have t2 : (u : Int).tdiv 16 = ((u / 16 : Nat) : Int) := tdivN u 16
  have t3 : ((u / 16 : Nat) : Int).tmod b.deep = ((u / 16 % b.D : Nat) : Int) := by rw [hD.2.2]; exact mod_nat _ _
  have hp0 : posP b u ws 0 = (u % b.W, u / 16 % b.D) := rfl
  have hlt := posP_lt hb u ws
  have hsu : ∀ t, posP b u ws (t + 1) = moveP b.W b.D (posP b u ws t) (byAt ws t) := fun t => rfl
  have hpl : ∀ x y : Nat, x < b.W → y < b.D → IntKind.i64.wrap (y * b.wide) = ((y * b.W : Nat) : Int) ∧ IntKind.i64.wrap (((y * b.W : Nat) : Int) + x) = ((y * b.W + x : Nat) : Int) := fun x y hx hy => by
    have h1 : y * b.W ≤ 5 * 8 := Nat.mul_le_mul (by omega) hW.2.1
    constructor
    · rw [hW.2.2, show ((y : Int) * (b.W : Int)) = ((y * b.W : Nat) : Int) by push_cast; rfl]
      exact wrap_id (by omega) (by omega)
    · rw [wrap_id (by omega) (by omega)]; push_cast; rfl
  have hx0 := hlt 0
  rw [hp0] at hx0
  simp only at hx0
  have hcr : ∀ m, crs b u ws m = (posP b u ws (m * S b)).2 * b.W + (posP b u ws (m * S b)).1 := fun m => rfl
  have hc0 : crs b u ws 0 = u / 16 % b.D * b.W + u % b.W := by rw [hcr, Nat.zero_mul, hp0]
  obtain ⟨w2, w3⟩ := hpl _ _ hx0.1 hx0.2
  simp only [bo5, go_sem, Nat.reduceEqDiff, Nat.reduceAdd, Nat.reduceSub, Nat.reduceMul, Nat.reduceLT, Nat.reduceLeDiff, Nat.reduceMod, Nat.reduceDiv, Int.reduceToNat, Int.reduceLT, Int.reduceLE, Bool.not_true, Bool.not_false, reduceIte, Int.reduceEq, Int.reduceBEq, Int.reduceBNe, Int.reduceGT, Int.reduceGE, Int.reduceNeg, Int.reduceAdd, Int.reduceSub, Nat.reduceBEq, decide_true, decide_false, undef, beq_self_eq_true, bne_self_eq_false, Bool.and_true, Bool.true_and, Bool.and_false, Bool.false_and, Bool.or_true, Bool.true_or, Bool.or_false, Bool.false_or, undef, w0, w1, w2, w3, n1, n2, t1, t2, t3]
  refine awpL_for (i := 32) (L := 31) b.L (fun j st => st = { env := [(32, .t (vi j)), (31, .t (vi b.L)), (2, .t (tB8 ws)), (3, .ptr 0 0), (7, .t (vi (posP b u ws (j * S b)).1)), (8, .t (vi (posP b u ws (j * S b)).2)), (9, .loc 1 (crsL b u ws (j + 1)).length), (10, .t (vi ((j * S b : Nat))))], σ := [.cells ((bo5 b).map .t), .row 1 (((crsL b u ws (j + 1)).map fun z : Nat => vi z).map .t)] }) ?_ ⟨_, Sub.gc [0, 1] [32, 31, 2, 3, 7, 8, 9, 10] rfl rfl, ?_⟩ ?_ ?_
  · rintro k st rfl; exact ⟨rfl, rfl⟩
  · rw [Nat.zero_mul, hp0, show crsL b u ws (0 + 1) = [crs b u ws 0] from rfl, hc0]
    refine St.gc_mk ?_ rfl rfl rfl
    simp only [hL.2]
    rfl
  · rintro j st hj rfl
    have hwj : IntKind.i64.wrap ((j : Int) + 1) = ((j + 1 : Nat) : Int) := by rw [wrap_id (by omega) (by omega)]; omega
    have hjS : j * S b ≤ 12 * 3 := Nat.mul_le_mul (by omega) hS3
    have hcl := crsL_len b u ws (j + 1)
    have hcs := crsL_succ b u ws (j + 1)
    have hcj := hcr (j + 1)
    have he : (j + 1) * S b = j * S b + S b := by rw [Nat.add_mul, Nat.one_mul]
    rw [he] at hcj ⊢
    generalize crsL b u ws (j + 1 + 1) = cl1 at *
    generalize crsL b u ws (j + 1) = cl at *
    generalize crs b u ws (j + 1) = c1 at *
    generalize j * S b = t0 at *
    simp only [bo5, go_sem, Nat.reduceEqDiff, Nat.reduceAdd, Nat.reduceSub, Nat.reduceMul, Nat.reduceLT, Nat.reduceLeDiff, Nat.reduceMod, Nat.reduceDiv, Int.reduceToNat, Int.reduceLT, Int.reduceLE, Bool.not_true, Bool.not_false, reduceIte, Int.reduceEq, Int.reduceBEq, Int.reduceBNe, Int.reduceGT, Int.reduceGE, Int.reduceNeg, Int.reduceAdd, Int.reduceSub, Nat.reduceBEq, decide_true, decide_false, undef, beq_self_eq_true, bne_self_eq_false, Bool.and_true, Bool.true_and, Bool.and_false, Bool.false_and, Bool.or_true, Bool.true_or, Bool.or_false, Bool.false_or, undef, hSe]
    refine awpL_for (i := 36) (L := 35) (S b) (fun k st => st = { env := [(36, .t (vi k)), (35, .t (vi (S b))), (32, .t (vi j)), (31, .t (vi b.L)), (2, .t (tB8 ws)), (3, .ptr 0 0), (7, .t (vi (posP b u ws (t0 + k)).1)), (8, .t (vi (posP b u ws (t0 + k)).2)), (9, .loc 1 cl.length), (10, .t (vi ((t0 + k : Nat))))], σ := [.cells ((bo5 b).map .t), .row 1 ((cl.map fun z : Nat => vi z).map .t)] }) ?_ ⟨_, Sub.gc [0, 1] [36, 35, 32, 31, 2, 3, 7, 8, 9, 10] rfl rfl, ?_⟩ ?_ ?_
    · rintro k st rfl; exact ⟨rfl, rfl⟩
    · refine St.gc_mk rfl ?_ rfl rfl
      simp only [σgc, List.map_cons, List.map_nil, List.getD_cons_zero, List.getD_cons_succ, AO.gc, gc_row]
      rw [hSe.symm]
      rfl
    · rintro k st hk rfl
      have hwk : IntKind.i64.wrap ((k : Int) + 1) = ((k + 1 : Nat) : Int) := by rw [wrap_id (by omega) (by omega)]; omega
      have hwt : IntKind.i64.wrap (((t0 + k : Nat) : Int) + 1) = ((t0 + (k + 1) : Nat) : Int) := by rw [wrap_id (by omega) (by omega)]; omega
      have hstep := hsu (t0 + k)
      have hxy := hlt (t0 + k)
      have hby : byAt ws (t0 + k) < 256 := by
        unfold byAt
        split
        · rename_i h
          have hlt' : (t0 + k) % ws.length < ws.length := Nat.mod_lt _ h
          rw [List.getD_eq_getElem?_getD, List.getElem?_eq_getElem hlt']
          exact hw _ (List.getElem_mem hlt')
        · omega
      rw [show t0 + k + 1 = t0 + (k + 1) by omega] at hstep
      generalize posP b u ws (t0 + (k + 1)) = q at *
      generalize hpp : posP b u ws (t0 + k) = pp at *
      obtain ⟨x, y⟩ := pp
      simp only at hxy
      have hwl0 := hwl
      rw [awpL_seq, awpL_block]
      refine awpL_chop 2 (c1 := ?a1) (c2 := ?a2) (fun st => lk st.env 36 = .t (vi k) ∧ lk st.env 35 = .t (vi (S b)) ∧ lk st.env 32 = .t (vi j) ∧ lk st.env 31 = .t (vi b.L) ∧ lk st.env 2 = .t (tB8 ws) ∧ lk st.env 3 = .ptr 0 0 ∧ lk st.env 7 = .t (vi x) ∧ lk st.env 8 = .t (vi y) ∧ lk st.env 9 = .loc 1 cl.length ∧ lk st.env 10 = .t (vi ((t0 + k : Nat))) ∧ lk st.env 11 = .t (vi (byAt ws (t0 + k))) ∧ st.σ = [.cells ((bo5 b).map .t), .row 1 ((cl.map fun z : Nat => vi z).map .t)] ∧ st.df = [] ∧ st.k = 0) ?hc ?_ ?_
      case hc => simp only [chop]; rfl
      · simp only [bo5, go_sem, Nat.reduceEqDiff, Nat.reduceAdd, Nat.reduceSub, Nat.reduceMul, Nat.reduceLT, Nat.reduceLeDiff, Nat.reduceMod, Nat.reduceDiv, Int.reduceToNat, Int.reduceLT, Int.reduceLE, Bool.not_true, Bool.not_false, reduceIte, Int.reduceEq, Int.reduceBEq, Int.reduceBNe, Int.reduceGT, Int.reduceGE, Int.reduceNeg, Int.reduceAdd, Int.reduceSub, Nat.reduceBEq, decide_true, decide_false, undef, beq_self_eq_true, bne_self_eq_false, Bool.and_true, Bool.true_and, Bool.and_false, Bool.false_and, Bool.or_true, Bool.true_or, Bool.or_false, Bool.false_or, undef, List.length_map]
        cases g : decide ((ws.length : Int) > 0)
        · have hby0 : byAt ws (t0 + k) = 0 := by unfold byAt; rw [if_neg (by have := of_decide_eq_false g; omega)]
          simp only [bo5, go_sem, Nat.reduceEqDiff, Nat.reduceAdd, Nat.reduceSub, Nat.reduceMul, Nat.reduceLT, Nat.reduceLeDiff, Nat.reduceMod, Nat.reduceDiv, Int.reduceToNat, Int.reduceLT, Int.reduceLE, Bool.not_true, Bool.not_false, reduceIte, Int.reduceEq, Int.reduceBEq, Int.reduceBNe, Int.reduceGT, Int.reduceGE, Int.reduceNeg, Int.reduceAdd, Int.reduceSub, Nat.reduceBEq, decide_true, decide_false, undef, beq_self_eq_true, bne_self_eq_false, Bool.and_true, Bool.true_and, Bool.and_false, Bool.false_and, Bool.or_true, Bool.true_or, Bool.or_false, Bool.false_or, undef, List.length_map, g, hby0]
        · have hpos : 0 < ws.length := by have := of_decide_eq_true g; omega
          have hlt' : (t0 + k) % ws.length < ws.length := Nat.mod_lt _ hpos
          have hby0 : byAt ws (t0 + k) = ws[(t0 + k) % ws.length] := by unfold byAt; rw [if_pos hpos, List.getD_eq_getElem?_getD, List.getElem?_eq_getElem hlt']; rfl
          have e1 := List.getElem?_eq_getElem hlt'
          rw [← hby0] at e1
          have n0 : ¬ ((ws.length : Int) = 0) := by omega
          have t1 : ((t0 + k : Nat) : Int).tmod (ws.length : Int) = (((t0 + k) % ws.length : Nat) : Int) := mod_nat _ _
          have hil : (((t0 + k) % ws.length : Nat) : Int) < ws.length := by omega
          generalize (t0 + k) % ws.length = ix at *
          generalize byAt ws (t0 + k) = n at *
          have w5 : IntKind.i64.wrap (n : Int) = n := wrap_id (by omega) (by omega)
          simp only [bo5, go_sem, Nat.reduceEqDiff, Nat.reduceAdd, Nat.reduceSub, Nat.reduceMul, Nat.reduceLT, Nat.reduceLeDiff, Nat.reduceMod, Nat.reduceDiv, Int.reduceToNat, Int.reduceLT, Int.reduceLE, Bool.not_true, Bool.not_false, reduceIte, Int.reduceEq, Int.reduceBEq, Int.reduceBNe, Int.reduceGT, Int.reduceGE, Int.reduceNeg, Int.reduceAdd, Int.reduceSub, Nat.reduceBEq, decide_true, decide_false, undef, beq_self_eq_true, bne_self_eq_false, Bool.and_true, Bool.true_and, Bool.and_false, Bool.false_and, Bool.or_true, Bool.true_or, Bool.or_false, Bool.false_or, undef, List.length_map, g, n0, t1, List.getElem?_map, e1, Option.map_some, hil, w5]
      · rintro ⟨env, σ, df, k'⟩ ⟨q36, q35, q32, q31, q2, q3, q7, q8, q9, q10, q11, hσ, hdf, hk'⟩
        simp only at q36 q35 q32 q31 q2 q3 q7 q8 q9 q10 q11 hσ hdf hk'
        subst hσ hdf hk'
        generalize byAt ws (t0 + k) = n at *
        have n6 : ¬ ((6 : Int) = 0) := by decide
        have t0' : ((n : Nat) : Int).tmod 6 = ((n % 6 : Nat) : Int) := mod_nat n 6
        have h6 : n % 6 < 6 := Nat.mod_lt _ (by decide)
        rcases (show n % 6 = 0 ∨ n % 6 = 1 ∨ n % 6 = 2 ∨ n % 6 = 3 ∨ n % 6 = 4 ∨ n % 6 = 5 by omega) with hr | hr | hr | hr | hr | hr
        · have hq : q = (x, y) := by rw [hstep]; unfold moveP; rw [hr]; rfl
          have t1 : ((n : Nat) : Int).tmod 6 = 0 := by rw [t0', hr]; rfl
          subst hq
          simp only [bo5, go_sem, Nat.reduceEqDiff, Nat.reduceAdd, Nat.reduceSub, Nat.reduceMul, Nat.reduceLT, Nat.reduceLeDiff, Nat.reduceMod, Nat.reduceDiv, Int.reduceToNat, Int.reduceLT, Int.reduceLE, Bool.not_true, Bool.not_false, reduceIte, Int.reduceEq, Int.reduceBEq, Int.reduceBNe, Int.reduceGT, Int.reduceGE, Int.reduceNeg, Int.reduceAdd, Int.reduceSub, Nat.reduceBEq, decide_true, decide_false, undef, beq_self_eq_true, bne_self_eq_false, Bool.and_true, Bool.true_and, Bool.and_false, Bool.false_and, Bool.or_true, Bool.true_or, Bool.or_false, Bool.false_or, undef, q36, q35, q32, q31, q2, q3, q7, q8, q9, q10, q11, t1, n6]
          refine ⟨_, Sub.gc [0, 1] [36, 35, 32, 31, 2, 3, 7, 8, 9, 10] rfl rfl, ?_⟩
          refine St.gc_mk ?_ ?_ rfl rfl
          · simp only [List.map_cons, List.map_nil, lk, Nat.reduceEqDiff, reduceIte, q36, q35, q32, q31, q2, q3, q7, q8, q9, q10, q11, hwk, hwt]
            rfl
          · simp only [σgc, List.map_cons, List.map_nil, List.getD_cons_zero, List.getD_cons_succ, AO.gc, gc_row]
            rfl
        · have hq : q = (x - 1, y) := by rw [hstep]; unfold moveP; rw [hr]; rfl
          have t1 : ((n : Nat) : Int).tmod 6 = 1 := by rw [t0', hr]; rfl
          subst hq
          have w5 : IntKind.i64.wrap ((x : Int) - 1) = (x : Int) - 1 := wrap_id (by omega) (by omega)
          have m1 : max 0 ((x : Int) - 1) = ((x - 1 : Nat) : Int) := by omega
          simp only [bo5, go_sem, Nat.reduceEqDiff, Nat.reduceAdd, Nat.reduceSub, Nat.reduceMul, Nat.reduceLT, Nat.reduceLeDiff, Nat.reduceMod, Nat.reduceDiv, Int.reduceToNat, Int.reduceLT, Int.reduceLE, Bool.not_true, Bool.not_false, reduceIte, Int.reduceEq, Int.reduceBEq, Int.reduceBNe, Int.reduceGT, Int.reduceGE, Int.reduceNeg, Int.reduceAdd, Int.reduceSub, Nat.reduceBEq, decide_true, decide_false, undef, beq_self_eq_true, bne_self_eq_false, Bool.and_true, Bool.true_and, Bool.and_false, Bool.false_and, Bool.or_true, Bool.true_or, Bool.or_false, Bool.false_or, undef, q36, q35, q32, q31, q2, q3, q7, q8, q9, q10, q11, t1, n6, w5, m1]
          refine ⟨_, Sub.gc [0, 1] [36, 35, 32, 31, 2, 3, 7, 8, 9, 10] rfl rfl, ?_⟩
          refine St.gc_mk ?_ ?_ rfl rfl
          · simp only [List.map_cons, List.map_nil, lk, Nat.reduceEqDiff, reduceIte, q36, q35, q32, q31, q2, q3, q7, q8, q9, q10, q11, hwk, hwt]
            rfl
          · simp only [σgc, List.map_cons, List.map_nil, List.getD_cons_zero, List.getD_cons_succ, AO.gc, gc_row]
            rfl
        · have hq : q = (min (b.W - 1) (x + 1), y) := by rw [hstep]; unfold moveP; rw [hr]; rfl
          have t1 : ((n : Nat) : Int).tmod 6 = 2 := by rw [t0', hr]; rfl
          subst hq
          have w5 : IntKind.i64.wrap ((x : Int) + 1) = (x : Int) + 1 := wrap_id (by omega) (by omega)
          have w6 : IntKind.i64.wrap (b.wide - 1) = b.wide - 1 := wrap_id (by omega) (by omega)
          have m1 : min (b.wide - 1) ((x : Int) + 1) = ((min (b.W - 1) (x + 1) : Nat) : Int) := by omega
          simp only [bo5, go_sem, Nat.reduceEqDiff, Nat.reduceAdd, Nat.reduceSub, Nat.reduceMul, Nat.reduceLT, Nat.reduceLeDiff, Nat.reduceMod, Nat.reduceDiv, Int.reduceToNat, Int.reduceLT, Int.reduceLE, Bool.not_true, Bool.not_false, reduceIte, Int.reduceEq, Int.reduceBEq, Int.reduceBNe, Int.reduceGT, Int.reduceGE, Int.reduceNeg, Int.reduceAdd, Int.reduceSub, Nat.reduceBEq, decide_true, decide_false, undef, beq_self_eq_true, bne_self_eq_false, Bool.and_true, Bool.true_and, Bool.and_false, Bool.false_and, Bool.or_true, Bool.true_or, Bool.or_false, Bool.false_or, undef, q36, q35, q32, q31, q2, q3, q7, q8, q9, q10, q11, t1, n6, w5, w6, m1]
          refine ⟨_, Sub.gc [0, 1] [36, 35, 32, 31, 2, 3, 7, 8, 9, 10] rfl rfl, ?_⟩
          refine St.gc_mk ?_ ?_ rfl rfl
          · simp only [List.map_cons, List.map_nil, lk, Nat.reduceEqDiff, reduceIte, q36, q35, q32, q31, q2, q3, q7, q8, q9, q10, q11, hwk, hwt]
            rfl
          · simp only [σgc, List.map_cons, List.map_nil, List.getD_cons_zero, List.getD_cons_succ, AO.gc, gc_row]
            rfl
        · have hq : q = (x, y - 1) := by rw [hstep]; unfold moveP; rw [hr]; rfl
          have t1 : ((n : Nat) : Int).tmod 6 = 3 := by rw [t0', hr]; rfl
          subst hq
          have w5 : IntKind.i64.wrap ((y : Int) - 1) = (y : Int) - 1 := wrap_id (by omega) (by omega)
          have m1 : max 0 ((y : Int) - 1) = ((y - 1 : Nat) : Int) := by omega
          simp only [bo5, go_sem, Nat.reduceEqDiff, Nat.reduceAdd, Nat.reduceSub, Nat.reduceMul, Nat.reduceLT, Nat.reduceLeDiff, Nat.reduceMod, Nat.reduceDiv, Int.reduceToNat, Int.reduceLT, Int.reduceLE, Bool.not_true, Bool.not_false, reduceIte, Int.reduceEq, Int.reduceBEq, Int.reduceBNe, Int.reduceGT, Int.reduceGE, Int.reduceNeg, Int.reduceAdd, Int.reduceSub, Nat.reduceBEq, decide_true, decide_false, undef, beq_self_eq_true, bne_self_eq_false, Bool.and_true, Bool.true_and, Bool.and_false, Bool.false_and, Bool.or_true, Bool.true_or, Bool.or_false, Bool.false_or, undef, q36, q35, q32, q31, q2, q3, q7, q8, q9, q10, q11, t1, n6, w5, m1]
          refine ⟨_, Sub.gc [0, 1] [36, 35, 32, 31, 2, 3, 7, 8, 9, 10] rfl rfl, ?_⟩
          refine St.gc_mk ?_ ?_ rfl rfl
          · simp only [List.map_cons, List.map_nil, lk, Nat.reduceEqDiff, reduceIte, q36, q35, q32, q31, q2, q3, q7, q8, q9, q10, q11, hwk, hwt]
            rfl
          · simp only [σgc, List.map_cons, List.map_nil, List.getD_cons_zero, List.getD_cons_succ, AO.gc, gc_row]
            rfl
        · have hq : q = (x, min (b.D - 1) (y + 1)) := by rw [hstep]; unfold moveP; rw [hr]; rfl
          have t1 : ((n : Nat) : Int).tmod 6 = 4 := by rw [t0', hr]; rfl
          subst hq
          have w5 : IntKind.i64.wrap ((y : Int) + 1) = (y : Int) + 1 := wrap_id (by omega) (by omega)
          have w6 : IntKind.i64.wrap (b.deep - 1) = b.deep - 1 := wrap_id (by omega) (by omega)
          have m1 : min (b.deep - 1) ((y : Int) + 1) = ((min (b.D - 1) (y + 1) : Nat) : Int) := by omega
          simp only [bo5, go_sem, Nat.reduceEqDiff, Nat.reduceAdd, Nat.reduceSub, Nat.reduceMul, Nat.reduceLT, Nat.reduceLeDiff, Nat.reduceMod, Nat.reduceDiv, Int.reduceToNat, Int.reduceLT, Int.reduceLE, Bool.not_true, Bool.not_false, reduceIte, Int.reduceEq, Int.reduceBEq, Int.reduceBNe, Int.reduceGT, Int.reduceGE, Int.reduceNeg, Int.reduceAdd, Int.reduceSub, Nat.reduceBEq, decide_true, decide_false, undef, beq_self_eq_true, bne_self_eq_false, Bool.and_true, Bool.true_and, Bool.and_false, Bool.false_and, Bool.or_true, Bool.true_or, Bool.or_false, Bool.false_or, undef, q36, q35, q32, q31, q2, q3, q7, q8, q9, q10, q11, t1, n6, w5, w6, m1]
          refine ⟨_, Sub.gc [0, 1] [36, 35, 32, 31, 2, 3, 7, 8, 9, 10] rfl rfl, ?_⟩
          refine St.gc_mk ?_ ?_ rfl rfl
          · simp only [List.map_cons, List.map_nil, lk, Nat.reduceEqDiff, reduceIte, q36, q35, q32, q31, q2, q3, q7, q8, q9, q10, q11, hwk, hwt]
            rfl
          · simp only [σgc, List.map_cons, List.map_nil, List.getD_cons_zero, List.getD_cons_succ, AO.gc, gc_row]
            rfl
        · have hq : q = (x, y - 1) := by rw [hstep]; unfold moveP; rw [hr]; rfl
          have t1 : ((n : Nat) : Int).tmod 6 = 5 := by rw [t0', hr]; rfl
          subst hq
          have w5 : IntKind.i64.wrap ((y : Int) - 1) = (y : Int) - 1 := wrap_id (by omega) (by omega)
          have m1 : max 0 ((y : Int) - 1) = ((y - 1 : Nat) : Int) := by omega
          simp only [bo5, go_sem, Nat.reduceEqDiff, Nat.reduceAdd, Nat.reduceSub, Nat.reduceMul, Nat.reduceLT, Nat.reduceLeDiff, Nat.reduceMod, Nat.reduceDiv, Int.reduceToNat, Int.reduceLT, Int.reduceLE, Bool.not_true, Bool.not_false, reduceIte, Int.reduceEq, Int.reduceBEq, Int.reduceBNe, Int.reduceGT, Int.reduceGE, Int.reduceNeg, Int.reduceAdd, Int.reduceSub, Nat.reduceBEq, decide_true, decide_false, undef, beq_self_eq_true, bne_self_eq_false, Bool.and_true, Bool.true_and, Bool.and_false, Bool.false_and, Bool.or_true, Bool.true_or, Bool.or_false, Bool.false_or, undef, q36, q35, q32, q31, q2, q3, q7, q8, q9, q10, q11, t1, n6, w5, m1]
          refine ⟨_, Sub.gc [0, 1] [36, 35, 32, 31, 2, 3, 7, 8, 9, 10] rfl rfl, ?_⟩
          refine St.gc_mk ?_ ?_ rfl rfl
          · simp only [List.map_cons, List.map_nil, lk, Nat.reduceEqDiff, reduceIte, q36, q35, q32, q31, q2, q3, q7, q8, q9, q10, q11, hwk, hwt]
            rfl
          · simp only [σgc, List.map_cons, List.map_nil, List.getD_cons_zero, List.getD_cons_succ, AO.gc, gc_row]
            rfl
    · rintro st rfl
      have hxy := hlt (t0 + S b)
      generalize posP b u ws (t0 + S b) = pp at *
      obtain ⟨x, y⟩ := pp
      simp only at hxy hcj
      obtain ⟨w5, w6⟩ := hpl x y hxy.1 hxy.2
      rw [← hcj] at w6
      have hcl1 : cl1.length = cl.length + 1 := by rw [hcs]; simp
      simp only [bo5, go_sem, Nat.reduceEqDiff, Nat.reduceAdd, Nat.reduceSub, Nat.reduceMul, Nat.reduceLT, Nat.reduceLeDiff, Nat.reduceMod, Nat.reduceDiv, Int.reduceToNat, Int.reduceLT, Int.reduceLE, Bool.not_true, Bool.not_false, reduceIte, Int.reduceEq, Int.reduceBEq, Int.reduceBNe, Int.reduceGT, Int.reduceGE, Int.reduceNeg, Int.reduceAdd, Int.reduceSub, Nat.reduceBEq, decide_true, decide_false, undef, beq_self_eq_true, bne_self_eq_false, Bool.and_true, Bool.true_and, Bool.and_false, Bool.false_and, Bool.or_true, Bool.true_or, Bool.or_false, Bool.false_or, undef, w5, w6, List.length_map, hwj]
      have hrow : (cl.map fun z : Nat => vi z).map E.t ++ [E.t (vi (c1 : Int))] = (cl1.map fun z : Nat => vi z).map E.t := by rw [hcs]; simp
      refine ⟨⟨Nat.le_trans (show _ ≤ 14 by omega) (by decide), by omega⟩, _, Sub.gc [0, 1] [32, 31, 2, 3, 7, 8, 9, 10] rfl rfl, ?_⟩
      rw [hrow, hcl1]
      refine St.gc_mk rfl ?_ rfl rfl
      simp only [σgc, List.map_cons, List.map_nil, List.getD_cons_zero, List.getD_cons_succ, AO.gc, gc_row]
      rfl
  · rintro st rfl
    simp only [bo5, go_sem, Nat.reduceEqDiff, Nat.reduceAdd, Nat.reduceSub, Nat.reduceMul, Nat.reduceLT, Nat.reduceLeDiff, Nat.reduceMod, Nat.reduceDiv, Int.reduceToNat, Int.reduceLT, Int.reduceLE, Bool.not_true, Bool.not_false, reduceIte, Int.reduceEq, Int.reduceBEq, Int.reduceBNe, Int.reduceGT, Int.reduceGE, Int.reduceNeg, Int.reduceAdd, Int.reduceSub, Nat.reduceBEq, decide_true, decide_false, undef, beq_self_eq_true, bne_self_eq_false, Bool.and_true, Bool.true_and, Bool.and_false, Bool.false_and, Bool.or_true, Bool.true_or, Bool.or_false, Bool.false_or, undef]
    refine finL_ret [] ⟨rfl, rfl, rfl, rfl, .loc 1 (crsL b u ws (b.L + 1)).length, rfl, res_mk ?_⟩
    rw [gc_loc (n := 10) (es := 1) (xs := (crsL b u ws (b.L + 1)).map fun z : Nat => vi z) rfl rfl (by simp)]

/-! ### Sightings of it -/
def rightS (b : Bo) (c : Nat → Nat) (s : Si) : Si :=
  ⟨s.minute, max 0 (((c s.minute.toNat % b.W : Nat) : Int) - (s.c2 - s.c1).tdiv 2), min (b.wide - 1) (((c s.minute.toNat % b.W : Nat) : Int) + (s.c2 - s.c1) - (s.c2 - s.c1).tdiv 2), max 0 (((c s.minute.toNat / b.W : Nat) : Int) - (s.r2 - s.r1).tdiv 2), min (b.deep - 1) (((c s.minute.toNat / b.W : Nat) : Int) + (s.r2 - s.r1) - (s.r2 - s.r1).tdiv 2)⟩
theorem rightS_spec {b : Bo} (hb : b.OK) {c : Nat → Nat} (hc : ∀ m, c m < b.N) {s : Si} (hs : s.OK b) : (rightS b c s).OK b ∧ inB b (rightS b c s) (c s.minute.toNat) = true := by
  obtain ⟨h1, h2⟩ := row_lt hb (hc s.minute.toNat)
  have hW := hb.W
  have hD := hb.D
  have k1 := hs.col
  have k2 := hs.row
  have e1 : (s.c2 - s.c1).tdiv 2 = (s.c2 - s.c1) / 2 := Int.tdiv_eq_ediv_of_nonneg (by omega)
  have e2 : (s.r2 - s.r1).tdiv 2 = (s.r2 - s.r1) / 2 := Int.tdiv_eq_ediv_of_nonneg (by omega)
  unfold rightS
  rw [e1, e2]
  constructor
  · refine ⟨hs.min, ?_, ?_⟩
    · simp only
      generalize c s.minute.toNat % b.W = C at *
      omega
    · simp only
      generalize c s.minute.toNat / b.W = R at *
      omega
  · unfold inB
    simp only [Bool.and_eq_true, decide_eq_true_eq]
    generalize c s.minute.toNat % b.W = C at *
    generalize c s.minute.toNat / b.W = R at *
    omega
set_option maxRecDepth 8000 in
set_option maxHeartbeats 8000000 in
theorem right_ok (b : Bo) (hb : b.OK) (l : List Si) (hl : ∀ s ∈ l, s.OK b) (h5 : l.length ≤ 5) (c : Nat → Nat) (hc : ∀ m, c m < b.N) (cl : List Nat) (hcl : cl.length = b.L + 1) (hat : ∀ m, m ≤ b.L → cl[m]? = some (c m)) : ACall Tryd.prog 34 [.t (.agg (bo5 b)), .t (tSis l), .t (tN cl)] [] (ret (tSis (l.map (rightS b c)))) := by
  refine ACall.walk k34 ?_
  have hW := hb.W
  have hD := hb.D
  have hL := hb.L
  unfold c34 tSis
  simp only [bo5, go_sem, Nat.reduceEqDiff, Nat.reduceAdd, Nat.reduceSub, Nat.reduceMul, Nat.reduceLT, Nat.reduceLeDiff, Nat.reduceMod, Nat.reduceDiv, Int.reduceToNat, Int.reduceLT, Int.reduceLE, Bool.not_true, Bool.not_false, reduceIte, Int.reduceEq, Int.reduceBEq, Int.reduceBNe, Int.reduceGT, Int.reduceGE, Int.reduceNeg, Int.reduceAdd, Int.reduceSub, Nat.reduceBEq, decide_true, decide_false, undef, beq_self_eq_true, bne_self_eq_false, Bool.and_true, Bool.true_and, Bool.and_false, Bool.false_and, Bool.or_true, Bool.true_or, Bool.or_false, Bool.false_or, undef, List.length_map]
  refine awpL_for (i := 16) (L := 15) l.length (fun j st => st = { env := [(16, .t (vi j)), (15, .t (vi l.length)), (14, .t (.slice 5 (l.map tSi))), (2, .t (tN cl)), (3, .t (.ptr (.agg (bo5 b)) 0)), (7, .loc 0 ((l.map (rightS b c)).take j).length)], σ := [.row 5 ((((l.map (rightS b c)).take j).map tSi).map .t)] }) ?_ ⟨_, Sub.trans (Sub.ghost 7 5 (by decide) rfl) (Sub.gc [1] [16, 15, 14, 2, 3, 7] rfl rfl), rfl⟩ ?_ ?_
  · rintro k st rfl; exact ⟨rfl, rfl⟩
  · rintro j st hj rfl
    have hx : l[j]? = some l[j] := List.getElem?_eq_getElem hj
    have hwj : IntKind.i64.wrap ((j : Int) + 1) = ((j + 1 : Nat) : Int) := by rw [wrap_id (by omega) (by omega)]; omega
    have htk : (l.map (rightS b c)).take (j + 1) = (l.map (rightS b c)).take j ++ [rightS b c l[j]] := by rw [List.take_add_one, List.getElem?_map, hx]; rfl
    have hO := hl _ (List.getElem_mem hj)
    have hA : ((l.map (rightS b c)).take j).length ≤ 5 := by rw [List.length_take]; omega
    generalize (l.map (rightS b c)).take (j + 1) = A1 at *
    generalize (l.map (rightS b c)).take j = A at *
    generalize l[j] = x at *
    obtain ⟨x1, x2, x3, x4, x5⟩ := x
    have k0 := hO.min
    have k1 := hO.col
    have k2 := hO.row
    simp only at k0 k1 k2
    obtain ⟨m, rfl⟩ : ∃ m : Nat, x1 = m := ⟨x1.toNat, by omega⟩
    have hg := hat m (by omega)
    have hml : (m : Int) < cl.length := by omega
    obtain ⟨hC, hR⟩ := row_lt hb (hc m)
    have hr : rightS b c ⟨m, x2, x3, x4, x5⟩ = ⟨m, max 0 (((c m % b.W : Nat) : Int) - (x3 - x2).tdiv 2), min (b.wide - 1) (((c m % b.W : Nat) : Int) + (x3 - x2) - (x3 - x2).tdiv 2), max 0 (((c m / b.W : Nat) : Int) - (x5 - x4).tdiv 2), min (b.deep - 1) (((c m / b.W : Nat) : Int) + (x5 - x4) - (x5 - x4).tdiv 2)⟩ := by
      unfold rightS
      rw [Int.toNat_natCast]
    rw [hr] at htk
    clear hr
    have n1 : ¬ (b.wide = 0) := by omega
    have n2 : ¬ ((2 : Int) = 0) := by decide
    have d1 : ((c m : Nat) : Int).tmod b.wide = ((c m % b.W : Nat) : Int) := by rw [hW.2.2]; exact mod_nat _ _
    have d2 : ((c m : Nat) : Int).tdiv b.wide = ((c m / b.W : Nat) : Int) := by rw [hW.2.2]; exact tdivN _ _
    have e1 : (x3 - x2).tdiv 2 = (x3 - x2) / 2 := Int.tdiv_eq_ediv_of_nonneg (by omega)
    have e2 : (x5 - x4).tdiv 2 = (x5 - x4) / 2 := Int.tdiv_eq_ediv_of_nonneg (by omega)
    generalize c m % b.W = C at *
    generalize c m / b.W = R at *
    have w1 : IntKind.i64.wrap (R : Int) = R := i64_nat (by omega)
    have w2 : IntKind.i64.wrap (x3 - x2) = x3 - x2 := wrap_id (by omega) (by omega)
    have w3 : IntKind.i64.wrap (x5 - x4) = x5 - x4 := wrap_id (by omega) (by omega)
    have w4 : IntKind.i64.wrap ((x3 - x2).tdiv 2) = (x3 - x2).tdiv 2 := wrap_id (by omega) (by omega)
    have w5 : IntKind.i64.wrap ((x5 - x4).tdiv 2) = (x5 - x4).tdiv 2 := wrap_id (by omega) (by omega)
    have w6 : IntKind.i64.wrap ((C : Int) - (x3 - x2).tdiv 2) = (C : Int) - (x3 - x2).tdiv 2 := wrap_id (by omega) (by omega)
    have w7 : IntKind.i64.wrap ((R : Int) - (x5 - x4).tdiv 2) = (R : Int) - (x5 - x4).tdiv 2 := wrap_id (by omega) (by omega)
    have w8 : IntKind.i64.wrap ((C : Int) + (x3 - x2)) = (C : Int) + (x3 - x2) := wrap_id (by omega) (by omega)
    have w9 : IntKind.i64.wrap ((R : Int) + (x5 - x4)) = (R : Int) + (x5 - x4) := wrap_id (by omega) (by omega)
    have w10 : IntKind.i64.wrap ((C : Int) + (x3 - x2) - (x3 - x2).tdiv 2) = (C : Int) + (x3 - x2) - (x3 - x2).tdiv 2 := wrap_id (by omega) (by omega)
    have w11 : IntKind.i64.wrap ((R : Int) + (x5 - x4) - (x5 - x4).tdiv 2) = (R : Int) + (x5 - x4) - (x5 - x4).tdiv 2 := wrap_id (by omega) (by omega)
    have w12 : IntKind.i64.wrap (b.wide - 1) = b.wide - 1 := wrap_id (by omega) (by omega)
    have w13 : IntKind.i64.wrap (b.deep - 1) = b.deep - 1 := wrap_id (by omega) (by omega)
    simp only [bo5, go_sem, Nat.reduceEqDiff, Nat.reduceAdd, Nat.reduceSub, Nat.reduceMul, Nat.reduceLT, Nat.reduceLeDiff, Nat.reduceMod, Nat.reduceDiv, Int.reduceToNat, Int.reduceLT, Int.reduceLE, Bool.not_true, Bool.not_false, reduceIte, Int.reduceEq, Int.reduceBEq, Int.reduceBNe, Int.reduceGT, Int.reduceGE, Int.reduceNeg, Int.reduceAdd, Int.reduceSub, Nat.reduceBEq, decide_true, decide_false, undef, beq_self_eq_true, bne_self_eq_false, Bool.and_true, Bool.true_and, Bool.and_false, Bool.false_and, Bool.or_true, Bool.true_or, Bool.or_false, Bool.false_or, undef, List.length_map, List.getElem?_map, hx, Option.map_some, hg, tSi, n1, n2, d1, d2, w1, w2, w3, w4, w5, w6, w7, w8, w9, w10, w11, w12, w13, hwj, hml]
    repeat' (first | refine AndL.mk ?_ ?_ | refine ACallL.quiet1 (span2_ok _ _) rfl rfl rfl ?_ | refine ACallL.quiet1 (seen2_ok _ _ _ _ _) rfl rfl rfl ?_ | simp only [bo5, go_sem, Nat.reduceEqDiff, Nat.reduceAdd, Nat.reduceSub, Nat.reduceMul, Nat.reduceLT, Nat.reduceLeDiff, Nat.reduceMod, Nat.reduceDiv, Int.reduceToNat, Int.reduceLT, Int.reduceLE, Bool.not_true, Bool.not_false, reduceIte, Int.reduceEq, Int.reduceBEq, Int.reduceBNe, Int.reduceGT, Int.reduceGE, Int.reduceNeg, Int.reduceAdd, Int.reduceSub, Nat.reduceBEq, decide_true, decide_false, undef, beq_self_eq_true, bne_self_eq_false, Bool.and_true, Bool.true_and, Bool.and_false, Bool.false_and, Bool.or_true, Bool.true_or, Bool.or_false, Bool.false_or, undef, List.length_map, List.getElem?_map, hx, Option.map_some, hg, tSi, n1, n2, d1, d2, w1, w2, w3, w4, w5, w6, w7, w8, w9, w10, w11, w12, w13, hwj, hml])
    have eA : (A.map tSi).map E.t ++ [E.t (.agg [vi (m : Int), vi (max 0 ((C : Int) - (x3 - x2).tdiv 2)), vi (min (b.wide - 1) ((C : Int) + (x3 - x2) - (x3 - x2).tdiv 2)), vi (max 0 ((R : Int) - (x5 - x4).tdiv 2)), vi (min (b.deep - 1) ((R : Int) + (x5 - x4) - (x5 - x4).tdiv 2))])] = (A1.map tSi).map E.t := by rw [htk]; simp [tSi]
    have eA' : A1.length = A.length + 1 := by rw [htk]; simp
    refine ⟨⟨Nat.le_trans (show _ ≤ 6 by omega) (by decide), by omega⟩, _, Sub.gc [0] [16, 15, 14, 2, 3, 7] rfl rfl, ?_⟩
    rw [eA, eA']
    refine St.gc_mk rfl ?_ rfl rfl
    simp only [σgc, List.map_cons, List.map_nil, List.getD_cons_zero, AO.gc, gc_row]
  · rintro st rfl
    rw [List.take_of_length_le (by rw [List.length_map]; exact Nat.le_refl _)]
    simp only [bo5, go_sem, Nat.reduceEqDiff, Nat.reduceAdd, Nat.reduceSub, Nat.reduceMul, Nat.reduceLT, Nat.reduceLeDiff, Nat.reduceMod, Nat.reduceDiv, Int.reduceToNat, Int.reduceLT, Int.reduceLE, Bool.not_true, Bool.not_false, reduceIte, Int.reduceEq, Int.reduceBEq, Int.reduceBNe, Int.reduceGT, Int.reduceGE, Int.reduceNeg, Int.reduceAdd, Int.reduceSub, Nat.reduceBEq, decide_true, decide_false, undef, beq_self_eq_true, bne_self_eq_false, Bool.and_true, Bool.true_and, Bool.and_false, Bool.false_and, Bool.or_true, Bool.true_or, Bool.or_false, Bool.false_or, undef]
    refine finL_ret [] ⟨rfl, rfl, rfl, rfl, .loc 0 (l.map (rightS b c)).length, rfl, res_mk ?_⟩
    rw [gc_loc (n := 10) (es := 5) (xs := (l.map (rightS b c)).map tSi) rfl rfl (by simp)]
end Go.Proofs.YtafcdpmcmmfbhaaDoor
