/- Proved here: laws that the statements need (SuC312, SuZ4). No conditions but those that each law states. -/
import Derived.Test.YtmahocdmkpigjaaDoorFL
import Derived.Test.YtmahocdmkpigjaaDoorProg
import Derived.Test.YtmahocdmkpigjaaDoorSN
import Derived.Test.YtmahocdmkpigjaaDoorSL

set_option linter.unusedSimpArgs false
set_option linter.unusedVariables false

/- Compiled code of functions, printed by program; each is checked to be the program's. No conditions. -/
namespace Go.Proofs.YtmahocdmkpigjaaDoor
open Go Go.Ab
/-- dipworks/dipworkslaw04.SurfFarther -/
def c12 : AC :=
 .seq (.reg [⟨(some 3), none, .box (.tmp 0)⟩,
 ⟨(some 6), none, .mov (.lit (.bool false))⟩])
 (.seq (.seq (.reg [⟨(some 52), none, .load true 5 (.tmp 3)⟩,
 ⟨(some 53), none, .call (.fn 33) [(.tmp 52)]⟩,
 ⟨(some 54), none, .un .not (.tmp 53)⟩])
 (.cond (.tmp 54) (.seq (.reg [⟨(some 55), none, .call (.fn 14) []⟩,
 ⟨(some 6), none, .mov (.tmp 55)⟩])
 (.ret))
 (.skip)))
 (.seq (.reg [⟨(some 56), none, .faddr 4 (.tmp 3)⟩,
 ⟨(some 57), none, .load false 1 (.tmp 56)⟩,
 ⟨(some 58), none, .len (.tmp 57)⟩,
 ⟨(some 59), none, .mov (.tmp 2)⟩,
 ⟨(some 60), none, .conv .i64 (.tmp 59)⟩,
 ⟨(some 61), none, .bin .rem (.tmp 60) (.lit (.int .i64 6))⟩,
 ⟨(some 7), none, .mov (.tmp 58)⟩,
 ⟨(some 8), none, .mov (.tmp 61)⟩])
 (.seq (.reg [⟨(some 62), none, .load true 5 (.tmp 3)⟩,
 ⟨(some 9), none, .alloc [(.int .i64 0), (.int .i64 0), (.slice none 0 0), (.slice none 0 0), (.slice none 0 0)]⟩,
 ⟨none, none, .store 5 (.tmp 9) (.tmp 62)⟩])
 (.seq (.reg [⟨(some 63), none, .faddr 4 (.tmp 9)⟩,
 ⟨none, none, .store 1 (.tmp 63) (.lit (.slice none 0 0))⟩])
 (.seq (.seq (.reg [⟨(some 64), none, .faddr 4 (.tmp 3)⟩,
 ⟨(some 65), none, .load false 1 (.tmp 64)⟩,
 ⟨(some 66), none, .len (.tmp 65)⟩,
 ⟨(some 67), none, .mov (.lit (.int .i64 0))⟩])
 (.block 0 (.loop (.seq (.reg [⟨(some 68), none, .bin .lss (.tmp 67) (.tmp 66)⟩])
 (.seq (.cond (.tmp 68) (.skip)
 (.exit 0))
 (.seq (.block 1 (.seq (.reg [⟨(some 69), none, .mov (.tmp 67)⟩,
 ⟨(some 10), none, .mov (.tmp 69)⟩])
 (.draw (.step ⟨(some 70), none, .faddr 4 (.tmp 9)⟩ (
 .step ⟨(some 71), none, .load false 1 (.tmp 70)⟩ (
 .step ⟨(some 72), none, .faddr 4 (.tmp 3)⟩ (
 .step ⟨(some 73), none, .load false 1 (.tmp 72)⟩ (
 .step ⟨(some 74), none, .mov (.tmp 7)⟩ (
 .step ⟨(some 75), none, .bin .sub (.tmp 74) (.lit (.int .i64 1))⟩ (
 .step ⟨(some 76), none, .mov (.tmp 10)⟩ (
 .step ⟨(some 77), none, .bin .sub (.tmp 75) (.tmp 76)⟩ (
 .step ⟨(some 78), none, .iaddr 3 (.tmp 73) (.tmp 77)⟩ (
 .step ⟨(some 79), none, .load true 3 (.tmp 78)⟩ (
 .ev ⟨(some 80), none, .bslice 3 (.agg #[(.int .i64 0), (.int .i64 0), (.int .i64 0)]) 1 [(0, (.tmp 79))]⟩ [⟨(some 78), none, .iaddr 3 (.tmp 73) (.tmp 77)⟩, ⟨(some 73), none, .load false 1 (.tmp 72)⟩, ⟨(some 72), none, .faddr 4 (.tmp 3)⟩, ⟨(some 71), none, .load false 1 (.tmp 70)⟩, ⟨(some 70), none, .faddr 4 (.tmp 9)⟩] (
 .ev ⟨(some 81), none, .app 3 24 (.tmp 71) (.tmp 80)⟩ [⟨(some 79), none, .load true 3 (.tmp 78)⟩, ⟨(some 78), none, .iaddr 3 (.tmp 73) (.tmp 77)⟩, ⟨(some 73), none, .load false 1 (.tmp 72)⟩, ⟨(some 72), none, .faddr 4 (.tmp 3)⟩, ⟨(some 70), none, .faddr 4 (.tmp 9)⟩] (
 .step ⟨(some 82), none, .faddr 4 (.tmp 9)⟩ (
 .ev ⟨none, none, .store 1 (.tmp 82) (.tmp 81)⟩ [] (
 .done)
 (.stop)))
 (.stop))
 (.stop)))))))))))))))
 (.reg [⟨(some 83), none, .bin .add (.tmp 67) (.lit (.int .i64 1))⟩,
 ⟨(some 67), none, .mov (.tmp 83)⟩])))))))
 (.seq (.draw (.step ⟨(some 85), none, .faddr 2 (.tmp 3)⟩ (
 .step ⟨(some 86), none, .load false 1 (.tmp 85)⟩ (
 .step ⟨(some 89), none, .faddr 4 (.tmp 3)⟩ (
 .step ⟨(some 90), none, .load false 1 (.tmp 89)⟩ (
 .ev ⟨(some 84), none, .bslice 2 (.agg #[(.int .i64 0), (.int .i64 0)]) 0 []⟩ [⟨(some 90), none, .load false 1 (.tmp 89)⟩, ⟨(some 89), none, .faddr 4 (.tmp 3)⟩, ⟨(some 86), none, .load false 1 (.tmp 85)⟩, ⟨(some 85), none, .faddr 2 (.tmp 3)⟩] (
 .ev ⟨(some 87), none, .app 2 16 (.tmp 84) (.tmp 86)⟩ [⟨(some 90), none, .load false 1 (.tmp 89)⟩, ⟨(some 89), none, .faddr 4 (.tmp 3)⟩, ⟨(some 85), none, .faddr 2 (.tmp 3)⟩] (
 .ev ⟨(some 88), none, .bslice 3 (.agg #[(.int .i64 0), (.int .i64 0), (.int .i64 0)]) 0 []⟩ [⟨(some 90), none, .load false 1 (.tmp 89)⟩, ⟨(some 89), none, .faddr 4 (.tmp 3)⟩, ⟨(some 86), none, .load false 1 (.tmp 85)⟩, ⟨(some 85), none, .faddr 2 (.tmp 3)⟩] (
 .ev ⟨(some 91), none, .app 3 24 (.tmp 88) (.tmp 90)⟩ [⟨(some 89), none, .faddr 4 (.tmp 3)⟩, ⟨(some 86), none, .load false 1 (.tmp 85)⟩, ⟨(some 85), none, .faddr 2 (.tmp 3)⟩] (
 .step ⟨(some 11), none, .mov (.tmp 87)⟩ (
 .step ⟨(some 12), none, .mov (.tmp 91)⟩ (
 .done)))
 (.stop))
 (.stop))
 (.ev ⟨(some 88), none, .bslice 3 (.agg #[(.int .i64 0), (.int .i64 0), (.int .i64 0)]) 0 []⟩ [⟨(some 90), none, .load false 1 (.tmp 89)⟩, ⟨(some 89), none, .faddr 4 (.tmp 3)⟩, ⟨(some 86), none, .load false 1 (.tmp 85)⟩, ⟨(some 85), none, .faddr 2 (.tmp 3)⟩] (
 .ev ⟨(some 87), none, .app 2 16 (.tmp 84) (.tmp 86)⟩ [⟨(some 90), none, .load false 1 (.tmp 89)⟩, ⟨(some 89), none, .faddr 4 (.tmp 3)⟩, ⟨(some 85), none, .faddr 2 (.tmp 3)⟩] (
 .ev ⟨(some 91), none, .app 3 24 (.tmp 88) (.tmp 90)⟩ [⟨(some 89), none, .faddr 4 (.tmp 3)⟩, ⟨(some 86), none, .load false 1 (.tmp 85)⟩, ⟨(some 85), none, .faddr 2 (.tmp 3)⟩] (
 .step ⟨(some 11), none, .mov (.tmp 87)⟩ (
 .step ⟨(some 12), none, .mov (.tmp 91)⟩ (
 .done)))
 (.stop))
 (.stop))
 (.stop)))
 (.ev ⟨(some 88), none, .bslice 3 (.agg #[(.int .i64 0), (.int .i64 0), (.int .i64 0)]) 0 []⟩ [⟨(some 90), none, .load false 1 (.tmp 89)⟩, ⟨(some 89), none, .faddr 4 (.tmp 3)⟩, ⟨(some 86), none, .load false 1 (.tmp 85)⟩, ⟨(some 85), none, .faddr 2 (.tmp 3)⟩] (
 .ev ⟨(some 84), none, .bslice 2 (.agg #[(.int .i64 0), (.int .i64 0)]) 0 []⟩ [⟨(some 90), none, .load false 1 (.tmp 89)⟩, ⟨(some 89), none, .faddr 4 (.tmp 3)⟩, ⟨(some 86), none, .load false 1 (.tmp 85)⟩, ⟨(some 85), none, .faddr 2 (.tmp 3)⟩] (
 .ev ⟨(some 87), none, .app 2 16 (.tmp 84) (.tmp 86)⟩ [⟨(some 90), none, .load false 1 (.tmp 89)⟩, ⟨(some 89), none, .faddr 4 (.tmp 3)⟩, ⟨(some 85), none, .faddr 2 (.tmp 3)⟩] (
 .ev ⟨(some 91), none, .app 3 24 (.tmp 88) (.tmp 90)⟩ [⟨(some 89), none, .faddr 4 (.tmp 3)⟩, ⟨(some 86), none, .load false 1 (.tmp 85)⟩, ⟨(some 85), none, .faddr 2 (.tmp 3)⟩] (
 .step ⟨(some 11), none, .mov (.tmp 87)⟩ (
 .step ⟨(some 12), none, .mov (.tmp 91)⟩ (
 .done)))
 (.stop))
 (.stop))
 (.stop))
 (.stop))))))))
 (.seq (.seq (.gcp)
 (.reg [⟨(some 93), none, .load true 5 (.tmp 3)⟩,
 ⟨(some 94), none, .mov (.tmp 8)⟩,
 ⟨(some 95), none, .call (.fn 30) [(.tmp 93), (.tmp 94)]⟩,
 ⟨(some 92), none, .mov (.tmp 95)⟩,
 ⟨(some 96), none, .ext (.tmp 92) 0⟩,
 ⟨(some 97), none, .ext (.tmp 92) 1⟩,
 ⟨(some 98), none, .ext (.tmp 92) 2⟩,
 ⟨(some 13), none, .mov (.tmp 96)⟩,
 ⟨(some 14), none, .mov (.tmp 97)⟩,
 ⟨(some 15), none, .mov (.tmp 98)⟩]))
 (.seq (.reg [⟨(some 100), none, .load true 5 (.tmp 9)⟩,
 ⟨(some 101), none, .mov (.tmp 8)⟩,
 ⟨(some 102), none, .call (.fn 30) [(.tmp 100), (.tmp 101)]⟩,
 ⟨(some 99), none, .mov (.tmp 102)⟩,
 ⟨(some 103), none, .ext (.tmp 99) 0⟩,
 ⟨(some 104), none, .ext (.tmp 99) 1⟩,
 ⟨(some 105), none, .ext (.tmp 99) 2⟩,
 ⟨(some 16), none, .mov (.tmp 103)⟩,
 ⟨(some 17), none, .mov (.tmp 104)⟩,
 ⟨(some 18), none, .mov (.tmp 105)⟩])
 (.seq (.reg [⟨(some 19), none, .mov (.fn 39)⟩])
 (.seq (.seq (.reg [⟨(some 106), none, .mov (.tmp 15)⟩,
 ⟨(some 107), none, .bin .neq (.tmp 106) (.lit (.int .i64 0))⟩,
 ⟨(some 108), none, .mov (.tmp 107)⟩,
 ⟨(some 109), (some (108, false)), .mov (.tmp 18)⟩,
 ⟨(some 110), (some (108, false)), .bin .neq (.tmp 109) (.lit (.int .i64 0))⟩,
 ⟨(some 111), none, .pick (.tmp 108) (.lit (.bool true)) (.tmp 110)⟩,
 ⟨(some 112), none, .mov (.tmp 111)⟩,
 ⟨(some 113), (some (112, false)), .mov (.tmp 14)⟩,
 ⟨(some 114), (some (112, false)), .bin .lss (.tmp 113) (.lit (.int .i64 0))⟩,
 ⟨(some 115), none, .pick (.tmp 112) (.lit (.bool true)) (.tmp 114)⟩,
 ⟨(some 116), none, .mov (.tmp 115)⟩,
 ⟨(some 117), (some (116, false)), .mov (.tmp 17)⟩,
 ⟨(some 118), (some (116, false)), .bin .lss (.tmp 117) (.lit (.int .i64 0))⟩,
 ⟨(some 119), none, .pick (.tmp 116) (.lit (.bool true)) (.tmp 118)⟩,
 ⟨(some 120), none, .mov (.tmp 119)⟩,
 ⟨(some 121), (some (120, false)), .mov (.tmp 19)⟩,
 ⟨(some 122), (some (120, false)), .mov (.tmp 14)⟩,
 ⟨(some 123), (some (120, false)), .call (.tmp 121) [(.tmp 122)]⟩,
 ⟨(some 124), (some (120, false)), .mov (.tmp 19)⟩,
 ⟨(some 125), (some (120, false)), .mov (.tmp 17)⟩,
 ⟨(some 126), (some (120, false)), .call (.tmp 124) [(.tmp 125)]⟩,
 ⟨(some 127), (some (120, false)), .bin .neq (.tmp 123) (.tmp 126)⟩,
 ⟨(some 128), none, .pick (.tmp 120) (.lit (.bool true)) (.tmp 127)⟩])
 (.cond (.tmp 128) (.seq (.reg [⟨(some 6), none, .mov (.lit (.bool false))⟩])
 (.ret))
 (.skip)))
 (.seq (.seq (.reg [⟨(some 129), none, .faddr 4 (.tmp 3)⟩,
 ⟨(some 130), none, .load false 1 (.tmp 129)⟩,
 ⟨(some 131), none, .len (.tmp 130)⟩,
 ⟨(some 132), none, .mov (.lit (.int .i64 0))⟩])
 (.block 2 (.loop (.seq (.reg [⟨(some 133), none, .bin .lss (.tmp 132) (.tmp 131)⟩])
 (.seq (.cond (.tmp 133) (.skip)
 (.exit 2))
 (.seq (.block 3 (.seq (.reg [⟨(some 134), none, .mov (.tmp 132)⟩,
 ⟨(some 20), none, .mov (.tmp 134)⟩])
 (.seq (.reg [⟨(some 136), none, .load true 5 (.tmp 3)⟩,
 ⟨(some 137), none, .mov (.tmp 20)⟩,
 ⟨(some 138), none, .call (.fn 19) [(.tmp 136), (.tmp 137)]⟩,
 ⟨(some 135), none, .mov (.tmp 138)⟩,
 ⟨(some 139), none, .ext (.tmp 135) 0⟩,
 ⟨(some 140), none, .ext (.tmp 135) 1⟩,
 ⟨(some 141), none, .ext (.tmp 135) 2⟩,
 ⟨(some 21), none, .mov (.tmp 139)⟩,
 ⟨(some 22), none, .mov (.tmp 140)⟩,
 ⟨(some 23), none, .mov (.tmp 141)⟩])
 (.seq (.reg [⟨(some 143), none, .load true 5 (.tmp 9)⟩,
 ⟨(some 144), none, .mov (.tmp 7)⟩,
 ⟨(some 145), none, .bin .sub (.tmp 144) (.lit (.int .i64 1))⟩,
 ⟨(some 146), none, .mov (.tmp 20)⟩,
 ⟨(some 147), none, .bin .sub (.tmp 145) (.tmp 146)⟩,
 ⟨(some 148), none, .call (.fn 19) [(.tmp 143), (.tmp 147)]⟩,
 ⟨(some 142), none, .mov (.tmp 148)⟩,
 ⟨(some 149), none, .ext (.tmp 142) 0⟩,
 ⟨(some 150), none, .ext (.tmp 142) 1⟩,
 ⟨(some 151), none, .ext (.tmp 142) 2⟩,
 ⟨(some 24), none, .mov (.tmp 149)⟩,
 ⟨(some 25), none, .mov (.tmp 150)⟩,
 ⟨(some 26), none, .mov (.tmp 151)⟩])
 (.seq (.reg [⟨(some 153), none, .load true 5 (.tmp 3)⟩,
 ⟨(some 154), none, .mov (.tmp 20)⟩,
 ⟨(some 155), none, .call (.fn 25) [(.tmp 153), (.tmp 154)]⟩,
 ⟨(some 152), none, .mov (.tmp 155)⟩,
 ⟨(some 156), none, .ext (.tmp 152) 0⟩,
 ⟨(some 157), none, .ext (.tmp 152) 1⟩,
 ⟨(some 27), none, .mov (.tmp 156)⟩,
 ⟨(some 28), none, .mov (.tmp 157)⟩])
 (.seq (.reg [⟨(some 159), none, .load true 5 (.tmp 9)⟩,
 ⟨(some 160), none, .mov (.tmp 7)⟩,
 ⟨(some 161), none, .bin .sub (.tmp 160) (.lit (.int .i64 1))⟩,
 ⟨(some 162), none, .mov (.tmp 20)⟩,
 ⟨(some 163), none, .bin .sub (.tmp 161) (.tmp 162)⟩,
 ⟨(some 164), none, .call (.fn 25) [(.tmp 159), (.tmp 163)]⟩,
 ⟨(some 158), none, .mov (.tmp 164)⟩,
 ⟨(some 165), none, .ext (.tmp 158) 0⟩,
 ⟨(some 166), none, .ext (.tmp 158) 1⟩,
 ⟨(some 29), none, .mov (.tmp 165)⟩,
 ⟨(some 30), none, .mov (.tmp 166)⟩])
 (.seq (.reg [⟨(some 168), none, .load true 5 (.tmp 3)⟩,
 ⟨(some 169), none, .mov (.tmp 20)⟩,
 ⟨(some 170), none, .call (.fn 27) [(.tmp 168), (.tmp 169)]⟩,
 ⟨(some 167), none, .mov (.tmp 170)⟩,
 ⟨(some 171), none, .ext (.tmp 167) 0⟩,
 ⟨(some 172), none, .ext (.tmp 167) 1⟩,
 ⟨(some 31), none, .mov (.tmp 171)⟩,
 ⟨(some 32), none, .mov (.tmp 172)⟩])
 (.seq (.reg [⟨(some 174), none, .load true 5 (.tmp 9)⟩,
 ⟨(some 175), none, .mov (.tmp 7)⟩,
 ⟨(some 176), none, .bin .sub (.tmp 175) (.lit (.int .i64 1))⟩,
 ⟨(some 177), none, .mov (.tmp 20)⟩,
 ⟨(some 178), none, .bin .sub (.tmp 176) (.tmp 177)⟩,
 ⟨(some 179), none, .call (.fn 27) [(.tmp 174), (.tmp 178)]⟩,
 ⟨(some 173), none, .mov (.tmp 179)⟩,
 ⟨(some 180), none, .ext (.tmp 173) 0⟩,
 ⟨(some 181), none, .ext (.tmp 173) 1⟩,
 ⟨(some 33), none, .mov (.tmp 180)⟩,
 ⟨(some 34), none, .mov (.tmp 181)⟩])
 (.seq (.reg [⟨(some 182), none, .mov (.tmp 21)⟩,
 ⟨(some 183), none, .mov (.tmp 24)⟩,
 ⟨(some 184), none, .bin .neq (.tmp 182) (.tmp 183)⟩,
 ⟨(some 185), none, .mov (.tmp 184)⟩,
 ⟨(some 186), (some (185, false)), .mov (.tmp 22)⟩,
 ⟨(some 187), (some (185, false)), .mov (.tmp 25)⟩,
 ⟨(some 188), (some (185, false)), .bin .neq (.tmp 186) (.tmp 187)⟩,
 ⟨(some 189), none, .pick (.tmp 185) (.lit (.bool true)) (.tmp 188)⟩,
 ⟨(some 190), none, .mov (.tmp 189)⟩,
 ⟨(some 191), (some (190, false)), .mov (.tmp 23)⟩,
 ⟨(some 192), (some (190, false)), .mov (.tmp 26)⟩,
 ⟨(some 193), (some (190, false)), .bin .neq (.tmp 191) (.tmp 192)⟩,
 ⟨(some 194), none, .pick (.tmp 190) (.lit (.bool true)) (.tmp 193)⟩,
 ⟨(some 195), none, .mov (.tmp 194)⟩,
 ⟨(some 196), (some (195, false)), .mov (.tmp 27)⟩,
 ⟨(some 197), (some (195, false)), .mov (.tmp 29)⟩,
 ⟨(some 198), (some (195, false)), .bin .neq (.tmp 196) (.tmp 197)⟩,
 ⟨(some 199), none, .pick (.tmp 195) (.lit (.bool true)) (.tmp 198)⟩,
 ⟨(some 200), none, .mov (.tmp 199)⟩,
 ⟨(some 201), (some (200, false)), .mov (.tmp 28)⟩,
 ⟨(some 202), (some (200, false)), .mov (.tmp 30)⟩,
 ⟨(some 203), (some (200, false)), .bin .neq (.tmp 201) (.tmp 202)⟩,
 ⟨(some 204), none, .pick (.tmp 200) (.lit (.bool true)) (.tmp 203)⟩,
 ⟨(some 205), none, .mov (.tmp 204)⟩,
 ⟨(some 206), (some (205, false)), .mov (.tmp 31)⟩,
 ⟨(some 207), (some (205, false)), .mov (.tmp 33)⟩,
 ⟨(some 208), (some (205, false)), .bin .neq (.tmp 206) (.tmp 207)⟩,
 ⟨(some 209), none, .pick (.tmp 205) (.lit (.bool true)) (.tmp 208)⟩,
 ⟨(some 210), none, .mov (.tmp 209)⟩,
 ⟨(some 211), (some (210, false)), .mov (.tmp 32)⟩,
 ⟨(some 212), (some (210, false)), .mov (.tmp 34)⟩,
 ⟨(some 213), (some (210, false)), .bin .neq (.tmp 211) (.tmp 212)⟩,
 ⟨(some 214), none, .pick (.tmp 210) (.lit (.bool true)) (.tmp 213)⟩])
 (.cond (.tmp 214) (.seq (.reg [⟨(some 6), none, .mov (.lit (.bool false))⟩])
 (.ret))
 (.skip)))))))))))
 (.reg [⟨(some 215), none, .bin .add (.tmp 132) (.lit (.int .i64 1))⟩,
 ⟨(some 132), none, .mov (.tmp 215)⟩])))))))
 (.seq (.seq (.reg [⟨(some 216), none, .mov (.tmp 7)⟩,
 ⟨(some 217), none, .bin .gtr (.tmp 216) (.lit (.int .i64 0))⟩])
 (.cond (.tmp 217) (.seq (.reg [⟨(some 218), none, .mov (.tmp 1)⟩,
 ⟨(some 219), none, .conv .i64 (.tmp 218)⟩,
 ⟨(some 220), none, .mov (.tmp 7)⟩,
 ⟨(some 221), none, .bin .rem (.tmp 219) (.tmp 220)⟩,
 ⟨(some 35), none, .mov (.tmp 221)⟩])
 (.seq (.reg [⟨(some 222), none, .load true 5 (.tmp 3)⟩,
 ⟨(some 36), none, .alloc [(.int .i64 0), (.int .i64 0), (.slice none 0 0), (.slice none 0 0), (.slice none 0 0)]⟩,
 ⟨none, none, .store 5 (.tmp 36) (.tmp 222)⟩])
 (.seq (.reg [⟨(some 223), none, .bslice 3 (.agg #[(.int .i64 0), (.int .i64 0), (.int .i64 0)]) 0 []⟩,
 ⟨(some 224), none, .faddr 4 (.tmp 3)⟩,
 ⟨(some 225), none, .load false 1 (.tmp 224)⟩,
 ⟨(some 226), none, .app 3 24 (.tmp 223) (.tmp 225)⟩,
 ⟨(some 227), none, .faddr 4 (.tmp 36)⟩,
 ⟨none, none, .store 1 (.tmp 227) (.tmp 226)⟩])
 (.seq (.reg [⟨(some 228), none, .faddr 4 (.tmp 36)⟩,
 ⟨(some 229), none, .load false 1 (.tmp 228)⟩,
 ⟨(some 230), none, .mov (.tmp 35)⟩,
 ⟨(some 231), none, .iaddr 3 (.tmp 229) (.tmp 230)⟩,
 ⟨(some 232), none, .faddr 2 (.tmp 231)⟩,
 ⟨(some 233), none, .load false 1 (.tmp 232)⟩,
 ⟨(some 234), none, .bin .add (.tmp 233) (.lit (.int .i64 1))⟩,
 ⟨(some 235), none, .iaddr 3 (.tmp 229) (.tmp 230)⟩,
 ⟨(some 236), none, .faddr 2 (.tmp 235)⟩,
 ⟨none, none, .store 1 (.tmp 236) (.tmp 234)⟩])
 (.seq (.seq (.gcp)
 (.reg [⟨(some 237), none, .load true 5 (.tmp 36)⟩,
 ⟨(some 238), none, .call (.fn 33) [(.tmp 237)]⟩]))
 (.cond (.tmp 238) (.seq (.reg [⟨(some 240), none, .load true 5 (.tmp 3)⟩,
 ⟨(some 241), none, .mov (.tmp 35)⟩,
 ⟨(some 242), none, .call (.fn 21) [(.tmp 240), (.tmp 241)]⟩,
 ⟨(some 239), none, .mov (.tmp 242)⟩,
 ⟨(some 243), none, .ext (.tmp 239) 0⟩,
 ⟨(some 244), none, .ext (.tmp 239) 1⟩,
 ⟨(some 37), none, .mov (.tmp 243)⟩,
 ⟨(some 38), none, .mov (.tmp 244)⟩])
 (.seq (.reg [⟨(some 246), none, .load true 5 (.tmp 36)⟩,
 ⟨(some 247), none, .mov (.tmp 35)⟩,
 ⟨(some 248), none, .call (.fn 21) [(.tmp 246), (.tmp 247)]⟩,
 ⟨(some 245), none, .mov (.tmp 248)⟩,
 ⟨(some 249), none, .ext (.tmp 245) 0⟩,
 ⟨(some 250), none, .ext (.tmp 245) 1⟩,
 ⟨(some 39), none, .mov (.tmp 249)⟩,
 ⟨(some 40), none, .mov (.tmp 250)⟩])
 (.seq (.reg [⟨(some 252), none, .load true 5 (.tmp 3)⟩,
 ⟨(some 253), none, .mov (.tmp 35)⟩,
 ⟨(some 254), none, .call (.fn 23) [(.tmp 252), (.tmp 253)]⟩,
 ⟨(some 251), none, .mov (.tmp 254)⟩,
 ⟨(some 255), none, .ext (.tmp 251) 0⟩,
 ⟨(some 256), none, .ext (.tmp 251) 1⟩,
 ⟨(some 41), none, .mov (.tmp 255)⟩,
 ⟨(some 42), none, .mov (.tmp 256)⟩])
 (.seq (.reg [⟨(some 258), none, .load true 5 (.tmp 36)⟩,
 ⟨(some 259), none, .mov (.tmp 35)⟩,
 ⟨(some 260), none, .call (.fn 23) [(.tmp 258), (.tmp 259)]⟩,
 ⟨(some 257), none, .mov (.tmp 260)⟩,
 ⟨(some 261), none, .ext (.tmp 257) 0⟩,
 ⟨(some 262), none, .ext (.tmp 257) 1⟩,
 ⟨(some 43), none, .mov (.tmp 261)⟩,
 ⟨(some 44), none, .mov (.tmp 262)⟩])
 (.seq (.reg [⟨(some 263), none, .mov (.tmp 38)⟩,
 ⟨(some 264), none, .bin .neq (.tmp 263) (.lit (.int .i64 0))⟩,
 ⟨(some 265), none, .mov (.tmp 264)⟩,
 ⟨(some 266), (some (265, false)), .mov (.tmp 40)⟩,
 ⟨(some 267), (some (265, false)), .bin .neq (.tmp 266) (.lit (.int .i64 0))⟩,
 ⟨(some 268), none, .pick (.tmp 265) (.lit (.bool true)) (.tmp 267)⟩,
 ⟨(some 269), none, .mov (.tmp 268)⟩,
 ⟨(some 270), (some (269, false)), .mov (.tmp 39)⟩,
 ⟨(some 271), (some (269, false)), .mov (.tmp 37)⟩,
 ⟨(some 272), (some (269, false)), .bin .gtr (.tmp 270) (.tmp 271)⟩,
 ⟨(some 273), none, .pick (.tmp 269) (.lit (.bool true)) (.tmp 272)⟩,
 ⟨(some 274), none, .mov (.tmp 273)⟩,
 ⟨(some 275), (some (274, false)), .mov (.tmp 44)⟩,
 ⟨(some 276), (some (274, false)), .bin .eql (.tmp 275) (.lit (.int .i64 0))⟩,
 ⟨(some 277), (some (274, false)), .mov (.tmp 276)⟩,
 ⟨(some 278), (some (277, true)), .mov (.tmp 42)⟩,
 ⟨(some 279), (some (277, true)), .bin .neq (.tmp 278) (.lit (.int .i64 0))⟩,
 ⟨(some 280), (some (277, true)), .mov (.tmp 279)⟩,
 ⟨(some 281), (some (280, false)), .mov (.tmp 43)⟩,
 ⟨(some 282), (some (280, false)), .mov (.tmp 41)⟩,
 ⟨(some 283), (some (280, false)), .bin .lss (.tmp 281) (.tmp 282)⟩,
 ⟨(some 284), (some (277, true)), .pick (.tmp 280) (.lit (.bool true)) (.tmp 283)⟩,
 ⟨(some 285), (some (274, false)), .pick (.tmp 277) (.tmp 284) (.lit (.bool false))⟩,
 ⟨(some 286), none, .pick (.tmp 274) (.lit (.bool true)) (.tmp 285)⟩])
 (.cond (.tmp 286) (.seq (.reg [⟨(some 6), none, .mov (.lit (.bool false))⟩])
 (.ret))
 (.skip)))))))
 (.skip)))))))
 (.skip)))
 (.seq (.reg [⟨(some 287), none, .bslice 1 (.int .i64 0) 0 []⟩,
 ⟨(some 288), none, .mov (.tmp 13)⟩,
 ⟨(some 289), none, .app 1 8 (.tmp 287) (.tmp 288)⟩,
 ⟨(some 45), none, .mov (.tmp 289)⟩])
 (.seq (.seq (.reg [⟨(some 290), none, .mov (.tmp 13)⟩,
 ⟨(some 291), none, .len (.tmp 290)⟩,
 ⟨(some 292), none, .mov (.lit (.int .i64 0))⟩])
 (.block 4 (.loop (.seq (.reg [⟨(some 293), none, .bin .lss (.tmp 292) (.tmp 291)⟩])
 (.seq (.cond (.tmp 293) (.skip)
 (.exit 4))
 (.seq (.block 5 (.seq (.reg [⟨(some 294), none, .mov (.tmp 292)⟩,
 ⟨(some 46), none, .mov (.tmp 294)⟩])
 (.reg [⟨(some 295), none, .mov (.tmp 13)⟩,
 ⟨(some 296), none, .mov (.tmp 46)⟩,
 ⟨(some 297), none, .iaddr 1 (.tmp 295) (.tmp 296)⟩,
 ⟨none, none, .store 1 (.tmp 297) (.lit (.int .i64 (-9)))⟩])))
 (.reg [⟨(some 298), none, .bin .add (.tmp 292) (.lit (.int .i64 1))⟩,
 ⟨(some 292), none, .mov (.tmp 298)⟩])))))))
 (.seq (.reg [⟨(some 300), none, .load true 5 (.tmp 3)⟩,
 ⟨(some 301), none, .mov (.tmp 8)⟩,
 ⟨(some 302), none, .call (.fn 30) [(.tmp 300), (.tmp 301)]⟩,
 ⟨(some 299), none, .mov (.tmp 302)⟩,
 ⟨(some 303), none, .ext (.tmp 299) 0⟩,
 ⟨(some 304), none, .ext (.tmp 299) 1⟩,
 ⟨(some 305), none, .ext (.tmp 299) 2⟩,
 ⟨(some 47), none, .mov (.tmp 303)⟩,
 ⟨(some 48), none, .mov (.tmp 304)⟩,
 ⟨(some 49), none, .mov (.tmp 305)⟩])
 (.seq (.seq (.reg [⟨(some 306), none, .mov (.tmp 49)⟩,
 ⟨(some 307), none, .bin .neq (.tmp 306) (.lit (.int .i64 0))⟩,
 ⟨(some 308), none, .mov (.tmp 307)⟩,
 ⟨(some 309), (some (308, false)), .mov (.tmp 47)⟩,
 ⟨(some 310), (some (308, false)), .mov (.tmp 45)⟩,
 ⟨(some 311), (some (308, false)), .call (.fn 32) [(.tmp 309), (.tmp 310)]⟩,
 ⟨(some 312), (some (308, false)), .un .not (.tmp 311)⟩,
 ⟨(some 313), none, .pick (.tmp 308) (.lit (.bool true)) (.tmp 312)⟩])
 (.cond (.tmp 313) (.seq (.reg [⟨(some 6), none, .mov (.lit (.bool false))⟩])
 (.ret))
 (.skip)))
 (.seq (.seq (.reg [⟨(some 314), none, .mov (.tmp 11)⟩,
 ⟨(some 315), none, .len (.tmp 314)⟩,
 ⟨(some 316), none, .mov (.lit (.int .i64 0))⟩])
 (.block 6 (.loop (.seq (.reg [⟨(some 317), none, .bin .lss (.tmp 316) (.tmp 315)⟩])
 (.seq (.cond (.tmp 317) (.skip)
 (.exit 6))
 (.seq (.block 7 (.seq (.reg [⟨(some 318), none, .mov (.tmp 316)⟩,
 ⟨(some 50), none, .mov (.tmp 318)⟩])
 (.seq (.draw (.step ⟨(some 319), none, .mov (.tmp 11)⟩ (
 .step ⟨(some 320), none, .mov (.tmp 50)⟩ (
 .step ⟨(some 321), none, .iaddr 2 (.tmp 319) (.tmp 320)⟩ (
 .step ⟨(some 322), none, .load true 2 (.tmp 321)⟩ (
 .step ⟨(some 323), none, .faddr 2 (.tmp 3)⟩ (
 .step ⟨(some 324), none, .load false 1 (.tmp 323)⟩ (
 .step ⟨(some 325), none, .mov (.tmp 50)⟩ (
 .step ⟨(some 326), none, .iaddr 2 (.tmp 324) (.tmp 325)⟩ (
 .step ⟨(some 327), none, .load true 2 (.tmp 326)⟩ (
 .step ⟨(some 328), none, .eqs true [(some .i64), (some .i64)] (.tmp 322) (.tmp 327)⟩ (
 .done))))))))))))
 (.cond (.tmp 328) (.seq (.reg [⟨(some 6), none, .mov (.lit (.bool false))⟩])
 (.ret))
 (.skip)))))
 (.reg [⟨(some 329), none, .bin .add (.tmp 316) (.lit (.int .i64 1))⟩,
 ⟨(some 316), none, .mov (.tmp 329)⟩])))))))
 (.seq (.seq (.reg [⟨(some 330), none, .mov (.tmp 12)⟩,
 ⟨(some 331), none, .len (.tmp 330)⟩,
 ⟨(some 332), none, .mov (.lit (.int .i64 0))⟩])
 (.block 8 (.loop (.seq (.reg [⟨(some 333), none, .bin .lss (.tmp 332) (.tmp 331)⟩])
 (.seq (.cond (.tmp 333) (.skip)
 (.exit 8))
 (.seq (.block 9 (.seq (.reg [⟨(some 334), none, .mov (.tmp 332)⟩,
 ⟨(some 51), none, .mov (.tmp 334)⟩])
 (.seq (.draw (.step ⟨(some 335), none, .mov (.tmp 12)⟩ (
 .step ⟨(some 336), none, .mov (.tmp 51)⟩ (
 .step ⟨(some 337), none, .iaddr 3 (.tmp 335) (.tmp 336)⟩ (
 .step ⟨(some 338), none, .load true 3 (.tmp 337)⟩ (
 .step ⟨(some 339), none, .faddr 4 (.tmp 3)⟩ (
 .step ⟨(some 340), none, .load false 1 (.tmp 339)⟩ (
 .step ⟨(some 341), none, .mov (.tmp 51)⟩ (
 .step ⟨(some 342), none, .iaddr 3 (.tmp 340) (.tmp 341)⟩ (
 .step ⟨(some 343), none, .load true 3 (.tmp 342)⟩ (
 .step ⟨(some 344), none, .eqs true [(some .i64), (some .i64), (some .i64)] (.tmp 338) (.tmp 343)⟩ (
 .done))))))))))))
 (.cond (.tmp 344) (.seq (.reg [⟨(some 6), none, .mov (.lit (.bool false))⟩])
 (.ret))
 (.skip)))))
 (.reg [⟨(some 345), none, .bin .add (.tmp 332) (.lit (.int .i64 1))⟩,
 ⟨(some 332), none, .mov (.tmp 345)⟩])))))))
 (.seq (.reg [⟨(some 346), none, .call (.fn 14) []⟩,
 ⟨(some 6), none, .mov (.tmp 346)⟩])
 (.ret))))))))))))))))))))
theorem k12 : FnC Tryd.prog 12 347 [] [12, 34] [.tmp 6] c12 3 := ⟨Tryd.f12, _, Tryd.func12, rfl, by decide, rfl, by decide, by kernel_rfl, by kernel_rfl⟩
end Go.Proofs.YtmahocdmkpigjaaDoor

/- SurfFarther: the law's function. -/
namespace Go.Proofs.YtmahocdmkpigjaaDoor
open Go Go.Ab

theorem gc_x9 (A : AO) (a b c d : T) (xs : List T) (n : Nat) (hn : n = xs.length) (R : List AO) : E.gc [] (A :: .cells [.t a, .t b, .t c, .t d, .loc 2 n] :: .row 3 (xs.map .t) :: R) 12 (.ptr 1 0) = .t (.ptr (.agg [a, b, c, d, .slice 3 xs]) 0) := by
  rw [E.gc]
  simp only [pos?, Nat.reduceEqDiff, reduceIte, Option.map_none, List.getElem?_cons_succ, List.getElem?_cons_zero, List.map_cons, List.map_nil, gc_t]
  rw [gc_loc (n := 9) (xs := xs) rfl rfl hn]
  rfl
theorem gc_xi (A : AO) (a b c d : T) (xs : List T) (n : Nat) (hn : n = xs.length) : E.gc [0] [A, .cells [.t a, .t b, .t c, .t d, .loc 2 n], .row 3 (xs.map .t)] 12 (.ptr 1 0) = .t (.ptr (.agg [a, b, c, d, .slice 3 xs]) 0) := by
  rw [E.gc]
  simp only [pos?, Nat.reduceEqDiff, reduceIte, Option.map_none, List.getElem?_cons_succ, List.getElem?_cons_zero, List.map_cons, List.map_nil, gc_t]
  rw [gc_loc (n := 9) (xs := xs) rfl rfl hn]
  rfl
def faSt (s : Su) (u m : Nat) : St := { env := [(1, .t (.lit (.int .u8 u))), (3, .t (.ptr (.agg (su5 s)) 0)), (7, .t (vi s.huts.length)), (8, .t (vi m)), (9, .t (.ptr (.agg (su5 (revS s))) 0)), (11, .t (.slice 2 (s.water.map tSp))), (12, .t (.slice 3 (s.huts.map tHu)))], σ := [], df := [], k := 0 }
def FaMid (s : Su) (u m : Nat) (l : List Int) (a : Nat) (st : St) : Prop := lk st.env 1 = .t (.lit (.int .u8 u)) ∧ lk st.env 3 = .t (.ptr (.agg (su5 s)) 0) ∧ lk st.env 7 = .t (vi s.huts.length) ∧ lk st.env 8 = .t (vi m) ∧ lk st.env 9 = .t (.ptr (.agg (su5 (revS s))) 0) ∧ lk st.env 11 = .t (.slice 2 (s.water.map tSp)) ∧ lk st.env 12 = .t (.slice 3 (s.huts.map tHu)) ∧
  lk st.env 13 = .loc 0 l.length ∧ lk st.env 14 = .t (vi a) ∧ lk st.env 15 = .t (vi 0) ∧ st.σ = [.row 1 ((l.map fun z : Int => vi z).map .t)] ∧ st.df = [] ∧ st.k = 0

def FaMid2 (s : Su) (u m : Nat) (l : List Int) (st : St) : Prop := lk st.env 1 = .t (.lit (.int .u8 u)) ∧ lk st.env 3 = .t (.ptr (.agg (su5 s)) 0) ∧ lk st.env 7 = .t (vi s.huts.length) ∧ lk st.env 8 = .t (vi m) ∧ lk st.env 9 = .t (.ptr (.agg (su5 (revS s))) 0) ∧ lk st.env 11 = .t (.slice 2 (s.water.map tSp)) ∧ lk st.env 12 = .t (.slice 3 (s.huts.map tHu)) ∧
  lk st.env 13 = .loc 0 l.length ∧ st.σ = [.row 1 ((l.map fun z : Int => vi z).map .t)] ∧ st.df = [] ∧ st.k = 0
def FaMid3 (s : Su) (m : Nat) (l : List Int) (st : St) : Prop := lk st.env 3 = .t (.ptr (.agg (su5 s)) 0) ∧ lk st.env 8 = .t (vi m) ∧ lk st.env 11 = .t (.slice 2 (s.water.map tSp)) ∧ lk st.env 12 = .t (.slice 3 (s.huts.map tHu)) ∧
  lk st.env 13 = .loc 0 l.length ∧ st.σ = [.row 1 ((l.map fun z : Int => vi z).map .t)] ∧ st.df = [] ∧ st.k = 0
theorem toKey2S (a b : Int) : toKey (some [some .i64, some .i64], none) (.t (.agg [vi a, vi b])) = some [a, b] := rfl
theorem toKey3S (a b c : Int) : toKey (some [some .i64, some .i64, some .i64], none) (.t (.agg [vi a, vi b, vi c])) = some [a, b, c] := rfl
theorem kEq2S (a b : Int) : kEq [some .i64, some .i64] [a, b] [a, b] = true := by simp [kEq, cellEq]
theorem kEq3S (a b c : Int) : kEq [some .i64, some .i64, some .i64] [a, b, c] [a, b, c] = true := by simp [kEq, cellEq]
theorem sureM_huts (s : Su) (H : List Hu) (h : Hu) : sureM { s with huts := H } h = sureM s h := by
  have : sureB { s with huts := H } h = sureB s h := by
    funext i
    unfold sureB
    rw [talS_huts]
  show maskOf (sureB { s with huts := H } h) s.water.length = _
  rw [this]
theorem holdsB_huts (s : Su) (H : List Hu) (h : Hu) : holdsB { s with huts := H } h = holdsB s h := by
  funext n
  unfold holdsB
  rw [logS_huts]
theorem restsF_huts (s : Su) (H : List Hu) (h : Hu) : restsF { s with huts := H } h = restsF s h := by
  funext n
  unfold restsF
  rw [firstS_huts]

set_option maxRecDepth 8000 in
set_option maxHeartbeats 8000000 in
theorem SurfFarther_ok (s : Su) (hL : Lens s) (u : Nat) (hu : u < 256) (v : Nat) (hv : v < 256) :
    ACall Tryd.prog 12 [.t (.agg (su5 s)), .t (.lit (.int .u8 u)), .t (.lit (.int .u8 v))] [] (res (.ret (.t (vb true)))) := by
  refine ACall.walk k12 ?_
  have h33 := fine_ok s hL
  unfold c12
  refine awpL_chop 8 (c1 := ?a1) (c2 := ?a2) (fun st => s.OK ∧ ∃ m l a, m ≤ 5 ∧ saveF s (m : Nat) = some (l, a) ∧ l.length = s.huts.length ∧ FaMid s u m l a st) ?hc ?_ ?_
  case hc => simp only [chop]; rfl
  · unfold su5 at h33 ⊢
    simp only [go_sem, Nat.reduceEqDiff, Nat.reduceAdd, Nat.reduceSub, Nat.reduceMul, Nat.reduceLT, Nat.reduceLeDiff, Nat.reduceMod, Nat.reduceDiv, Int.reduceToNat, Int.reduceLT, Int.reduceLE, Bool.not_true, Bool.not_false, reduceIte, Int.reduceEq, Int.reduceBEq, Int.reduceBNe, Int.reduceGT, Int.reduceGE, Int.reduceNeg, Int.reduceAdd, Int.reduceSub, Nat.reduceBEq, decide_true, decide_false, undef, beq_self_eq_true, bne_self_eq_false, Bool.and_true, Bool.true_and, Bool.and_false, Bool.false_and, Bool.or_true, Bool.true_or, Bool.or_false, Bool.false_or]
    refine ACallL.quiet1 h33 rfl rfl rfl ?_
    cases hF : fineB s
    · simp only [go_sem, Nat.reduceEqDiff, Nat.reduceAdd, Nat.reduceSub, Nat.reduceMul, Nat.reduceLT, Nat.reduceLeDiff, Nat.reduceMod, Nat.reduceDiv, Int.reduceToNat, Int.reduceLT, Int.reduceLE, Bool.not_true, Bool.not_false, reduceIte, Int.reduceEq, Int.reduceBEq, Int.reduceBNe, Int.reduceGT, Int.reduceGE, Int.reduceNeg, Int.reduceAdd, Int.reduceSub, Nat.reduceBEq, decide_true, decide_false, undef, beq_self_eq_true, bne_self_eq_false, Bool.and_true, Bool.true_and, Bool.and_false, Bool.false_and, Bool.or_true, Bool.true_or, Bool.or_false, Bool.false_or, undef]
      refine ACallL.quiet1 awake_ok rfl rfl rfl ?_
      simp only [go_sem, Nat.reduceEqDiff, Nat.reduceAdd, Nat.reduceSub, Nat.reduceMul, Nat.reduceLT, Nat.reduceLeDiff, Nat.reduceMod, Nat.reduceDiv, Int.reduceToNat, Int.reduceLT, Int.reduceLE, Bool.not_true, Bool.not_false, reduceIte, Int.reduceEq, Int.reduceBEq, Int.reduceBNe, Int.reduceGT, Int.reduceGE, Int.reduceNeg, Int.reduceAdd, Int.reduceSub, Nat.reduceBEq, decide_true, decide_false, undef, beq_self_eq_true, bne_self_eq_false, Bool.and_true, Bool.true_and, Bool.and_false, Bool.false_and, Bool.or_true, Bool.true_or, Bool.or_false, Bool.false_or, undef]
      exact finL_ret [] ⟨rfl, rfl, rfl, rfl, _, rfl, res_mk rfl⟩
    obtain ⟨hok, hs⟩ := fine_iff hF
    have hnh := hs.nh
    have hnw := hs.nw
    have hnv := hs.nv
    have w0 : IntKind.i64.wrap (v : Int) = v := wrap_id (by omega) (by omega)
    have t1 : (v : Int).tmod 6 = ((v % 6 : Nat) : Int) := mod_nat v 6
    have hm6 : v % 6 ≤ 5 := by have := Nat.mod_lt v (show 6 > 0 by omega); omega
    have n6 : ¬ ((6 : Int) = 0) := by omega
    generalize v % 6 = m at *
    simp only [go_sem, Nat.reduceEqDiff, Nat.reduceAdd, Nat.reduceSub, Nat.reduceMul, Nat.reduceLT, Nat.reduceLeDiff, Nat.reduceMod, Nat.reduceDiv, Int.reduceToNat, Int.reduceLT, Int.reduceLE, Bool.not_true, Bool.not_false, reduceIte, Int.reduceEq, Int.reduceBEq, Int.reduceBNe, Int.reduceGT, Int.reduceGE, Int.reduceNeg, Int.reduceAdd, Int.reduceSub, Nat.reduceBEq, decide_true, decide_false, undef, beq_self_eq_true, bne_self_eq_false, Bool.and_true, Bool.true_and, Bool.and_false, Bool.false_and, Bool.or_true, Bool.true_or, Bool.or_false, Bool.false_or, undef, List.length_map, w0, t1, n6]
    refine awpL_for (i := 67) (L := 66) s.huts.length (fun j st => st = { env := [(67, .t (vi j)), (66, .t (vi s.huts.length)), (1, .t (.lit (.int .u8 u))), (3, .ptr 0 0), (7, .t (vi s.huts.length)), (8, .t (vi m)), (9, .ptr 1 0)], σ := [.cells ((su5 s).map .t), .cells [.t (vi s.rows), .t (vi s.step), .t (.slice 2 (s.water.map tSp)), .t (.slice 2 (s.waves.map tSp)), .loc 2 j], .row 3 (((s.huts.reverse.take j).map tHu).map .t)] }) ?_
      ⟨_, (Sub.ghostC 1 4 3 (by decide) rfl rfl).trans (Sub.gc [0, 1, 2] [67, 66, 1, 3, 7, 8, 9] rfl rfl), rfl⟩ ?_ ?_
    · rintro k st rfl; exact ⟨rfl, rfl⟩
    · rintro j st hj rfl
      have hwj : IntKind.i64.wrap ((j : Int) + 1) = ((j + 1 : Nat) : Int) := by rw [wrap_id (by omega) (by omega)]; omega
      have wa : IntKind.i64.wrap ((s.huts.length : Int) - 1) = (s.huts.length : Int) - 1 := wrap_id (by omega) (by omega)
      have wb : IntKind.i64.wrap ((s.huts.length : Int) - 1 - (j : Int)) = ((s.huts.length - 1 - j : Nat) : Int) := by rw [wrap_id (by omega) (by omega)]; omega
      have hg : s.huts[s.huts.length - 1 - j]? = some (s.huts.getD (s.huts.length - 1 - j) ⟨0, 0, 0⟩) := hut_get (by omega)
      have htk : s.huts.reverse.take (j + 1) = s.huts.reverse.take j ++ [s.huts.getD (s.huts.length - 1 - j) ⟨0, 0, 0⟩] := by
        have hjl : j < s.huts.reverse.length := by rw [List.length_reverse]; exact hj
        rw [List.take_succ_eq_append_getElem hjl, List.getElem_reverse]
        congr 1
        rw [List.getElem?_eq_getElem (by omega)] at hg
        exact congrArg (fun x => [x]) (Option.some.inj hg)
      have hlt : (s.huts.reverse.take j).length = j := by rw [List.length_take, List.length_reverse]; omega
      generalize s.huts.reverse.take (j + 1) = H2 at *
      generalize s.huts.reverse.take j = H1 at *
      generalize s.huts.getD (s.huts.length - 1 - j) ⟨0, 0, 0⟩ = h at *
      have hli : ((s.huts.length - 1 - j : Nat) : Int) < s.huts.length := by omega
      generalize s.huts.length - 1 - j = i at *
      obtain ⟨f, b, r⟩ := h
      simp only [su5, go_sem, Nat.reduceEqDiff, Nat.reduceAdd, Nat.reduceSub, Nat.reduceMul, Nat.reduceLT, Nat.reduceLeDiff, Nat.reduceMod, Nat.reduceDiv, Int.reduceToNat, Int.reduceLT, Int.reduceLE, Bool.not_true, Bool.not_false, reduceIte, Int.reduceEq, Int.reduceBEq, Int.reduceBNe, Int.reduceGT, Int.reduceGE, Int.reduceNeg, Int.reduceAdd, Int.reduceSub, Nat.reduceBEq, decide_true, decide_false, undef, beq_self_eq_true, bne_self_eq_false, Bool.and_true, Bool.true_and, Bool.and_false, Bool.false_and, Bool.or_true, Bool.true_or, Bool.or_false, Bool.false_or, undef, List.length_map, wa, wb, List.getElem?_map, hg, Option.map_some, tHu, hlt, hwj, hli, Nat.mul_one]
      refine ⟨⟨by unfold maxLen; omega, by omega⟩, _, Sub.gc [0, 1, 2] [67, 66, 1, 3, 7, 8, 9] rfl rfl, ?_⟩
      rw [htk, List.map_append, List.map_append]
      exact St.gc_mk rfl (by
        show [AO.cells _, AO.cells _, AO.row 3 ((List.map E.t _ ++ List.map E.t [_]).map (E.gc _ _ _))] = _
        rw [List.map_append, gc_row, gc_row]
        rfl) rfl rfl
    · rintro st rfl
      have hrev : s.huts.reverse.take s.huts.length = (revS s).huts := by
        show _ = s.huts.reverse
        rw [← List.length_reverse, List.take_length]
      have hrl : s.huts.length = (((revS s).huts).map tHu).length := by show _ = ((s.huts.reverse).map tHu).length; simp
      simp only [su5, go_sem, Nat.reduceEqDiff, Nat.reduceAdd, Nat.reduceSub, Nat.reduceMul, Nat.reduceLT, Nat.reduceLeDiff, Nat.reduceMod, Nat.reduceDiv, Int.reduceToNat, Int.reduceLT, Int.reduceLE, Bool.not_true, Bool.not_false, reduceIte, Int.reduceEq, Int.reduceBEq, Int.reduceBNe, Int.reduceGT, Int.reduceGE, Int.reduceNeg, Int.reduceAdd, Int.reduceSub, Nat.reduceBEq, decide_true, decide_false, undef, beq_self_eq_true, bne_self_eq_false, Bool.and_true, Bool.true_and, Bool.and_false, Bool.false_and, Bool.or_true, Bool.true_or, Bool.or_false, Bool.false_or, undef, List.length_map, hrev]
      repeat' (first | refine AndL.mk ?_ ?_ | refine ⟨⟨by unfold maxLen; omega, by omega⟩, ?_⟩ | simp only [go_sem, Nat.reduceEqDiff, Nat.reduceAdd, Nat.reduceSub, Nat.reduceMul, Nat.reduceLT, Nat.reduceLeDiff, Nat.reduceMod, Nat.reduceDiv, Int.reduceToNat, Int.reduceLT, Int.reduceLE, Bool.not_true, Bool.not_false, reduceIte, Int.reduceEq, Int.reduceBEq, Int.reduceBNe, Int.reduceGT, Int.reduceGE, Int.reduceNeg, Int.reduceAdd, Int.reduceSub, Nat.reduceBEq, decide_true, decide_false, undef, beq_self_eq_true, bne_self_eq_false, Bool.and_true, Bool.true_and, Bool.and_false, Bool.false_and, Bool.or_true, Bool.true_or, Bool.or_false, Bool.false_or, undef, List.length_map])
      all_goals
        refine awpL_gcpE [] [1, 3, 7, 8, 9, 11, 12] (faSt s u m) (St.gc_mk (by
          simp only [List.map_cons, List.map_nil, lk, Nat.reduceEqDiff, reduceIte]
          rw [gc_x9 _ _ _ _ _ _ _ hrl, gc_loc (n := 10) (xs := s.water.map tSp) rfl rfl (by simp), gc_loc (n := 10) (xs := s.huts.map tHu) rfl rfl (by simp)]
          rfl) rfl rfl rfl) rfl rfl ?_
      all_goals
        unfold faSt
        obtain ⟨l, p, hsv, hl, _⟩ := save_some hs (many := (m : Int)) (by omega)
        have h30 := (Save_own s hL (m : Int))
        unfold su5 at h30
        simp only [su5, go_sem, Nat.reduceEqDiff, Nat.reduceAdd, Nat.reduceSub, Nat.reduceMul, Nat.reduceLT, Nat.reduceLeDiff, Nat.reduceMod, Nat.reduceDiv, Int.reduceToNat, Int.reduceLT, Int.reduceLE, Bool.not_true, Bool.not_false, reduceIte, Int.reduceEq, Int.reduceBEq, Int.reduceBNe, Int.reduceGT, Int.reduceGE, Int.reduceNeg, Int.reduceAdd, Int.reduceSub, Nat.reduceBEq, decide_true, decide_false, undef, beq_self_eq_true, bne_self_eq_false, Bool.and_true, Bool.true_and, Bool.and_false, Bool.false_and, Bool.or_true, Bool.true_or, Bool.or_false, Bool.false_or, undef]
        refine ACallL.of h30 ?_
        rintro o σ ⟨_, hr⟩
        have hwi : wI (m : Int) 0 5 = true := by unfold wI; simp; omega
        obtain ⟨rfl, rfl⟩ := hr l p hok hwi hsv
        simp only [su5, go_sem, Nat.reduceEqDiff, Nat.reduceAdd, Nat.reduceSub, Nat.reduceMul, Nat.reduceLT, Nat.reduceLeDiff, Nat.reduceMod, Nat.reduceDiv, Int.reduceToNat, Int.reduceLT, Int.reduceLE, Bool.not_true, Bool.not_false, reduceIte, Int.reduceEq, Int.reduceBEq, Int.reduceBNe, Int.reduceGT, Int.reduceGE, Int.reduceNeg, Int.reduceAdd, Int.reduceSub, Nat.reduceBEq, decide_true, decide_false, undef, beq_self_eq_true, bne_self_eq_false, Bool.and_true, Bool.true_and, Bool.and_false, Bool.false_and, Bool.or_true, Bool.true_or, Bool.or_false, Bool.false_or, undef]
        exact ⟨hs, m, l, p, hm6, hsv, hl, rfl, rfl, rfl, rfl, rfl, rfl, rfl, rfl, rfl, rfl, rfl, rfl, rfl⟩
  rintro ⟨env, σ, df, k⟩ ⟨hs, m, l, p, hm5, hsv, hl, q1, q3, q7, q8, q9, q11, q12, q13, q14, q15, hσ, hdf, hk⟩
  simp only at q1 q3 q7 q8 q9 q11 q12 q13 q14 q15 hσ hdf hk
  subst hσ hdf hk
  have hnh := hs.nh
  have hnw := hs.nw
  have hnv := hs.nv
  have hwi : wI (m : Int) 0 5 = true := by unfold wI; simp; omega
  have h30 := Save_ok s hL (m : Int)
  unfold specSave at h30
  rw [s.ok_iff.2 hs, if_pos rfl, hsv, hwi, if_pos rfl] at h30
  simp only [saveT] at h30
  unfold su5 at h30
  refine awpL_chop 3 (c1 := ?b1) (c2 := ?b2) (FaMid2 s u m l) ?hc2 ?_ ?_
  case hc2 => simp only [chop]; rfl
  · obtain ⟨l1, p1, l2, q, e1, e2, hsz, hp, hq⟩ := save_rev hs (many := (m : Int)) (by omega)
    rw [hsv] at e1
    cases e1
    have hx := revS_OK hs
    have hLx : Lens (revS s) := ⟨by have := hx.nw; omega, by have := hx.nw; have := hx.nv; omega, by have := hx.nh; omega⟩
    have h30x := Save_ok (revS s) hLx (m : Int)
    unfold specSave at h30x
    rw [(revS s).ok_iff.2 hx, if_pos rfl, e2, hwi, if_pos rfl] at h30x
    simp only [saveT] at h30x
    generalize hxe : revS s = x at *
    have h39 := rsize_ok p (by omega)
    have h39' := rsize_ok q (by omega)
    rw [hsz] at h39'
    have p0 : decide (((p : Nat) : Int) < 0) = false := by simp
    have q0 : decide (((q : Nat) : Int) < 0) = false := by simp
    unfold su5 at h30x q9
    simp only [go_sem, Nat.reduceEqDiff, Nat.reduceAdd, Nat.reduceSub, Nat.reduceMul, Nat.reduceLT, Nat.reduceLeDiff, Nat.reduceMod, Nat.reduceDiv, Int.reduceToNat, Int.reduceLT, Int.reduceLE, Bool.not_true, Bool.not_false, reduceIte, Int.reduceEq, Int.reduceBEq, Int.reduceBNe, Int.reduceGT, Int.reduceGE, Int.reduceNeg, Int.reduceAdd, Int.reduceSub, Nat.reduceBEq, decide_true, decide_false, undef, beq_self_eq_true, bne_self_eq_false, Bool.and_true, Bool.true_and, Bool.and_false, Bool.false_and, Bool.or_true, Bool.true_or, Bool.or_false, Bool.false_or, undef, q1, q3, q7, q8, q9, q11, q12, q13, q14, q15]
    refine ACallL.fresh1 h30x rfl ?_
    simp only [go_sem, Nat.reduceEqDiff, Nat.reduceAdd, Nat.reduceSub, Nat.reduceMul, Nat.reduceLT, Nat.reduceLeDiff, Nat.reduceMod, Nat.reduceDiv, Int.reduceToNat, Int.reduceLT, Int.reduceLE, Bool.not_true, Bool.not_false, reduceIte, Int.reduceEq, Int.reduceBEq, Int.reduceBNe, Int.reduceGT, Int.reduceGE, Int.reduceNeg, Int.reduceAdd, Int.reduceSub, Nat.reduceBEq, decide_true, decide_false, undef, beq_self_eq_true, bne_self_eq_false, Bool.and_true, Bool.true_and, Bool.and_false, Bool.false_and, Bool.or_true, Bool.true_or, Bool.or_false, Bool.false_or, undef, q1, q3, q7, q8, q9, q11, q12, q13, q14, q15, p0, q0]
    refine ACallL.fresh1 h39 rfl ?_
    simp only [go_sem, Nat.reduceEqDiff, Nat.reduceAdd, Nat.reduceSub, Nat.reduceMul, Nat.reduceLT, Nat.reduceLeDiff, Nat.reduceMod, Nat.reduceDiv, Int.reduceToNat, Int.reduceLT, Int.reduceLE, Bool.not_true, Bool.not_false, reduceIte, Int.reduceEq, Int.reduceBEq, Int.reduceBNe, Int.reduceGT, Int.reduceGE, Int.reduceNeg, Int.reduceAdd, Int.reduceSub, Nat.reduceBEq, decide_true, decide_false, undef, beq_self_eq_true, bne_self_eq_false, Bool.and_true, Bool.true_and, Bool.and_false, Bool.false_and, Bool.or_true, Bool.true_or, Bool.or_false, Bool.false_or, undef, q1, q3, q7, q8, q9, q11, q12, q13, q14, q15, p0, q0]
    refine ACallL.fresh1 h39' rfl ?_
    simp only [go_sem, Nat.reduceEqDiff, Nat.reduceAdd, Nat.reduceSub, Nat.reduceMul, Nat.reduceLT, Nat.reduceLeDiff, Nat.reduceMod, Nat.reduceDiv, Int.reduceToNat, Int.reduceLT, Int.reduceLE, Bool.not_true, Bool.not_false, reduceIte, Int.reduceEq, Int.reduceBEq, Int.reduceBNe, Int.reduceGT, Int.reduceGE, Int.reduceNeg, Int.reduceAdd, Int.reduceSub, Nat.reduceBEq, decide_true, decide_false, undef, beq_self_eq_true, bne_self_eq_false, Bool.and_true, Bool.true_and, Bool.and_false, Bool.false_and, Bool.or_true, Bool.true_or, Bool.or_false, Bool.false_or, undef, q1, q3, q7, q8, q9, q11, q12, q13, q14, q15, p0, q0]
    subst hxe
    exact ⟨q1, q3, q7, q8, q9, q11, q12, q13, rfl, rfl, rfl⟩
  clear q1 q3 q7 q8 q9 q11 q12 q13 q14 q15
  rintro ⟨env, σ, df, k⟩ ⟨q1, q3, q7, q8, q9, q11, q12, q13, hσ, hdf, hk⟩
  simp only at q1 q3 q7 q8 q9 q11 q12 q13 hσ hdf hk
  subst hσ hdf hk
  refine awpL_chop 1 (c1 := ?d1) (c2 := ?d2) (FaMid2 s u m l) ?hc3 ?_ ?_
  case hc3 => simp only [chop]; rfl
  · unfold su5 at q3 q9
    simp only [su5, go_sem, Nat.reduceEqDiff, Nat.reduceAdd, Nat.reduceSub, Nat.reduceMul, Nat.reduceLT, Nat.reduceLeDiff, Nat.reduceMod, Nat.reduceDiv, Int.reduceToNat, Int.reduceLT, Int.reduceLE, Bool.not_true, Bool.not_false, reduceIte, Int.reduceEq, Int.reduceBEq, Int.reduceBNe, Int.reduceGT, Int.reduceGE, Int.reduceNeg, Int.reduceAdd, Int.reduceSub, Nat.reduceBEq, decide_true, decide_false, undef, beq_self_eq_true, bne_self_eq_false, Bool.and_true, Bool.true_and, Bool.and_false, Bool.false_and, Bool.or_true, Bool.true_or, Bool.or_false, Bool.false_or, undef, q1, q3, q7, q8, q9, q11, q12, q13, List.length_map]
    refine awpL_for (i := 132) (L := 131) s.huts.length (fun j st => st = { env := [(132, .t (vi j)), (131, .t (vi s.huts.length)), (1, .t (.lit (.int .u8 u))), (3, .t (.ptr (.agg (su5 s)) 0)), (7, .t (vi s.huts.length)), (8, .t (vi m)), (9, .t (.ptr (.agg (su5 (revS s))) 0)), (11, .t (.slice 2 (s.water.map tSp))), (12, .t (.slice 3 (s.huts.map tHu))), (13, .loc 0 l.length)], σ := [.row 1 ((l.map fun z : Int => vi z).map .t)] }) ?_
      ⟨_, Sub.gc [0] [132, 131, 1, 3, 7, 8, 9, 11, 12, 13] rfl rfl, St.gc_mk (by simp only [List.map_cons, List.map_nil, lk, Nat.reduceEqDiff, reduceIte, q1, q3, q7, q8, q9, q11, q12, q13]; rfl) (by
        show [AO.row 1 ((List.map E.t _).map (E.gc _ _ _))] = _
        rw [gc_row]) rfl rfl⟩ ?_ ?_
    · rintro k st rfl; exact ⟨rfl, rfl⟩
    · rintro j st hj rfl
      have hx := revS_OK hs
      have hwj : IntKind.i64.wrap ((j : Int) + 1) = ((j + 1 : Nat) : Int) := by rw [wrap_id (by omega) (by omega)]; omega
      have wa : IntKind.i64.wrap ((s.huts.length : Int) - 1) = (s.huts.length : Int) - 1 := wrap_id (by omega) (by omega)
      have wb : IntKind.i64.wrap ((s.huts.length : Int) - 1 - (j : Int)) = ((s.huts.length - 1 - j : Nat) : Int) := by rw [wrap_id (by omega) (by omega)]; omega
      have hg := hut_get hj
      have hg' := revS_get hj
      rw [hg] at hg'
      generalize s.huts.getD j ⟨0, 0, 0⟩ = h at *
      have h19 := Floats_ok s hs j _ hg
      have h19' := Floats_ok (revS s) hx _ _ hg'
      rw [show canM (revS s) h = canM s h from canM_huts s _ h, show sureM (revS s) h = sureM s h from sureM_huts s _ h] at h19'
      have h25 := Brake_ok s hs j _ hg
      have h25' := Brake_ok (revS s) hx _ _ hg'
      rw [show holdsB (revS s) h = holdsB s h from holdsB_huts s _ h] at h25'
      have h27 := Floor_ok s hs j _ hg
      have h27' := Floor_ok (revS s) hx _ _ hg'
      rw [show restsF (revS s) h = restsF s h from restsF_huts s _ h] at h27'
      generalize s.huts.length - 1 - j = i at *
      generalize revS s = x at *
      generalize leastN (holdsB s h) 10 = n1 at *
      generalize leastN (restsF s h) 40 = n2 at *
      generalize canM s h = n3 at *
      generalize sureM s h = n4 at *
      simp only [su5, oneE, twoE] at h19 h19' h25 h25' h27 h27'
      simp only [su5, go_sem, Nat.reduceEqDiff, Nat.reduceAdd, Nat.reduceSub, Nat.reduceMul, Nat.reduceLT, Nat.reduceLeDiff, Nat.reduceMod, Nat.reduceDiv, Int.reduceToNat, Int.reduceLT, Int.reduceLE, Bool.not_true, Bool.not_false, reduceIte, Int.reduceEq, Int.reduceBEq, Int.reduceBNe, Int.reduceGT, Int.reduceGE, Int.reduceNeg, Int.reduceAdd, Int.reduceSub, Nat.reduceBEq, decide_true, decide_false, undef, beq_self_eq_true, bne_self_eq_false, Bool.and_true, Bool.true_and, Bool.and_false, Bool.false_and, Bool.or_true, Bool.true_or, Bool.or_false, Bool.false_or, undef, wa, wb]
      refine ACallL.fresh1 h19 rfl ?_
      simp only [su5, go_sem, Nat.reduceEqDiff, Nat.reduceAdd, Nat.reduceSub, Nat.reduceMul, Nat.reduceLT, Nat.reduceLeDiff, Nat.reduceMod, Nat.reduceDiv, Int.reduceToNat, Int.reduceLT, Int.reduceLE, Bool.not_true, Bool.not_false, reduceIte, Int.reduceEq, Int.reduceBEq, Int.reduceBNe, Int.reduceGT, Int.reduceGE, Int.reduceNeg, Int.reduceAdd, Int.reduceSub, Nat.reduceBEq, decide_true, decide_false, undef, beq_self_eq_true, bne_self_eq_false, Bool.and_true, Bool.true_and, Bool.and_false, Bool.false_and, Bool.or_true, Bool.true_or, Bool.or_false, Bool.false_or, undef, wa, wb]
      refine ACallL.fresh1 h19' rfl ?_
      simp only [su5, go_sem, Nat.reduceEqDiff, Nat.reduceAdd, Nat.reduceSub, Nat.reduceMul, Nat.reduceLT, Nat.reduceLeDiff, Nat.reduceMod, Nat.reduceDiv, Int.reduceToNat, Int.reduceLT, Int.reduceLE, Bool.not_true, Bool.not_false, reduceIte, Int.reduceEq, Int.reduceBEq, Int.reduceBNe, Int.reduceGT, Int.reduceGE, Int.reduceNeg, Int.reduceAdd, Int.reduceSub, Nat.reduceBEq, decide_true, decide_false, undef, beq_self_eq_true, bne_self_eq_false, Bool.and_true, Bool.true_and, Bool.and_false, Bool.false_and, Bool.or_true, Bool.true_or, Bool.or_false, Bool.false_or, undef, wa, wb]
      refine ACallL.fresh1 h25 rfl ?_
      simp only [su5, go_sem, Nat.reduceEqDiff, Nat.reduceAdd, Nat.reduceSub, Nat.reduceMul, Nat.reduceLT, Nat.reduceLeDiff, Nat.reduceMod, Nat.reduceDiv, Int.reduceToNat, Int.reduceLT, Int.reduceLE, Bool.not_true, Bool.not_false, reduceIte, Int.reduceEq, Int.reduceBEq, Int.reduceBNe, Int.reduceGT, Int.reduceGE, Int.reduceNeg, Int.reduceAdd, Int.reduceSub, Nat.reduceBEq, decide_true, decide_false, undef, beq_self_eq_true, bne_self_eq_false, Bool.and_true, Bool.true_and, Bool.and_false, Bool.false_and, Bool.or_true, Bool.true_or, Bool.or_false, Bool.false_or, undef, wa, wb]
      refine ACallL.fresh1 h25' rfl ?_
      simp only [su5, go_sem, Nat.reduceEqDiff, Nat.reduceAdd, Nat.reduceSub, Nat.reduceMul, Nat.reduceLT, Nat.reduceLeDiff, Nat.reduceMod, Nat.reduceDiv, Int.reduceToNat, Int.reduceLT, Int.reduceLE, Bool.not_true, Bool.not_false, reduceIte, Int.reduceEq, Int.reduceBEq, Int.reduceBNe, Int.reduceGT, Int.reduceGE, Int.reduceNeg, Int.reduceAdd, Int.reduceSub, Nat.reduceBEq, decide_true, decide_false, undef, beq_self_eq_true, bne_self_eq_false, Bool.and_true, Bool.true_and, Bool.and_false, Bool.false_and, Bool.or_true, Bool.true_or, Bool.or_false, Bool.false_or, undef, wa, wb]
      refine ACallL.fresh1 h27 rfl ?_
      simp only [su5, go_sem, Nat.reduceEqDiff, Nat.reduceAdd, Nat.reduceSub, Nat.reduceMul, Nat.reduceLT, Nat.reduceLeDiff, Nat.reduceMod, Nat.reduceDiv, Int.reduceToNat, Int.reduceLT, Int.reduceLE, Bool.not_true, Bool.not_false, reduceIte, Int.reduceEq, Int.reduceBEq, Int.reduceBNe, Int.reduceGT, Int.reduceGE, Int.reduceNeg, Int.reduceAdd, Int.reduceSub, Nat.reduceBEq, decide_true, decide_false, undef, beq_self_eq_true, bne_self_eq_false, Bool.and_true, Bool.true_and, Bool.and_false, Bool.false_and, Bool.or_true, Bool.true_or, Bool.or_false, Bool.false_or, undef, wa, wb]
      refine ACallL.fresh1 h27' rfl ?_
      simp only [su5, go_sem, Nat.reduceEqDiff, Nat.reduceAdd, Nat.reduceSub, Nat.reduceMul, Nat.reduceLT, Nat.reduceLeDiff, Nat.reduceMod, Nat.reduceDiv, Int.reduceToNat, Int.reduceLT, Int.reduceLE, Bool.not_true, Bool.not_false, reduceIte, Int.reduceEq, Int.reduceBEq, Int.reduceBNe, Int.reduceGT, Int.reduceGE, Int.reduceNeg, Int.reduceAdd, Int.reduceSub, Nat.reduceBEq, decide_true, decide_false, undef, beq_self_eq_true, bne_self_eq_false, Bool.and_true, Bool.true_and, Bool.and_false, Bool.false_and, Bool.or_true, Bool.true_or, Bool.or_false, Bool.false_or, undef, wa, wb, hwj]
      exact ⟨_, Sub.gc [0] [132, 131, 1, 3, 7, 8, 9, 11, 12, 13] rfl rfl, St.gc_mk rfl (by
        show [AO.row 1 ((List.map E.t _).map (E.gc _ _ _))] = _
        rw [gc_row]) rfl rfl⟩
    · rintro st rfl
      simp only [su5, go_sem, Nat.reduceEqDiff, Nat.reduceAdd, Nat.reduceSub, Nat.reduceMul, Nat.reduceLT, Nat.reduceLeDiff, Nat.reduceMod, Nat.reduceDiv, Int.reduceToNat, Int.reduceLT, Int.reduceLE, Bool.not_true, Bool.not_false, reduceIte, Int.reduceEq, Int.reduceBEq, Int.reduceBNe, Int.reduceGT, Int.reduceGE, Int.reduceNeg, Int.reduceAdd, Int.reduceSub, Nat.reduceBEq, decide_true, decide_false, undef, beq_self_eq_true, bne_self_eq_false, Bool.and_true, Bool.true_and, Bool.and_false, Bool.false_and, Bool.or_true, Bool.true_or, Bool.or_false, Bool.false_or, undef]
      exact ⟨rfl, rfl, rfl, rfl, rfl, rfl, rfl, rfl, rfl, rfl, rfl⟩
  clear q1 q3 q7 q8 q9 q11 q12 q13
  rintro ⟨env, σ, df, k⟩ ⟨q1, q3, q7, q8, q9, q11, q12, q13, hσ, hdf, hk⟩
  simp only at q1 q3 q7 q8 q9 q11 q12 q13 hσ hdf hk
  subst hσ hdf hk
  refine awpL_chop 1 (c1 := ?e1) (c2 := ?e2) (FaMid3 s m l) ?hc4 ?_ ?_
  case hc4 => simp only [chop]; rfl
  · unfold su5 at q3
    simp only [su5, go_sem, Nat.reduceEqDiff, Nat.reduceAdd, Nat.reduceSub, Nat.reduceMul, Nat.reduceLT, Nat.reduceLeDiff, Nat.reduceMod, Nat.reduceDiv, Int.reduceToNat, Int.reduceLT, Int.reduceLE, Bool.not_true, Bool.not_false, reduceIte, Int.reduceEq, Int.reduceBEq, Int.reduceBNe, Int.reduceGT, Int.reduceGE, Int.reduceNeg, Int.reduceAdd, Int.reduceSub, Nat.reduceBEq, decide_true, decide_false, undef, beq_self_eq_true, bne_self_eq_false, Bool.and_true, Bool.true_and, Bool.and_false, Bool.false_and, Bool.or_true, Bool.true_or, Bool.or_false, Bool.false_or, undef, q1, q3, q7, q8, q9, q11, q12, q13, List.length_map]
    cases h0 : decide ((s.huts.length : Int) > 0)
    · simp only [go_sem, Nat.reduceEqDiff, Nat.reduceAdd, Nat.reduceSub, Nat.reduceMul, Nat.reduceLT, Nat.reduceLeDiff, Nat.reduceMod, Nat.reduceDiv, Int.reduceToNat, Int.reduceLT, Int.reduceLE, Bool.not_true, Bool.not_false, reduceIte, Int.reduceEq, Int.reduceBEq, Int.reduceBNe, Int.reduceGT, Int.reduceGE, Int.reduceNeg, Int.reduceAdd, Int.reduceSub, Nat.reduceBEq, decide_true, decide_false, undef, beq_self_eq_true, bne_self_eq_false, Bool.and_true, Bool.true_and, Bool.and_false, Bool.false_and, Bool.or_true, Bool.true_or, Bool.or_false, Bool.false_or, undef, h0]
      exact ⟨q3, q8, q11, q12, q13, rfl, rfl, rfl⟩
    have n0 : ¬ ((s.huts.length : Int) = 0) := by have : (s.huts.length : Int) > 0 := of_decide_eq_true h0
                                                  omega
    have ha : u % s.huts.length < s.huts.length := Nat.mod_lt _ (by omega)
    have t1 := mod_nat u s.huts.length
    have w0 : IntKind.i64.wrap (u : Int) = u := wrap_id (by omega) (by omega)
    have hg := hut_get ha
    generalize u % s.huts.length = n at *
    generalize hhe : s.huts.getD n ⟨0, 0, 0⟩ = h at *
    have hho := hs.huts _ (List.mem_of_getElem? hg)
    have hnn : (n : Int) < s.huts.length := by omega
    have a1 : IntKind.i64.wrap (h.row + 1) = h.row + 1 := by unfold Hu.OK at hho; have := hs.rows; exact wrap_id (by omega) (by omega)
    have hset : ((s.huts.map tHu).map E.t).set n (.t (tHu { h with row := h.row + 1 })) = ((s.huts.set n { h with row := h.row + 1 }).map tHu).map E.t := by rw [List.map_set, List.map_set]
    generalize hin : ({ s with huts := s.huts.set n { h with row := h.row + 1 } } : Su) = x at *
    have hxl : x.huts.length = s.huts.length := by rw [← hin]; simp
    have hLx : Lens x := ⟨by rw [← hin]; simp only; omega, by rw [← hin]; simp only; omega, by omega⟩
    have h33x := fine_ok x hLx
    have hgx : x.huts[n]? = some { h with row := h.row + 1 } := by rw [← hin]; exact List.getElem?_set_self ha
    have hset' : ((s.huts.map tHu).map E.t).set n (.t (.agg [vi h.floor, vi h.brake, vi (h.row + 1)])) = (x.huts.map tHu).map E.t := by rw [← hin]; exact hset
    have e5 : su5 x = [vi s.rows, vi s.step, .slice 2 (s.water.map tSp), .slice 2 (s.waves.map tSp), .slice 3 (x.huts.map tHu)] := by rw [← hin]; rfl
    rw [e5] at h33x
    simp only [su5, go_sem, Nat.reduceEqDiff, Nat.reduceAdd, Nat.reduceSub, Nat.reduceMul, Nat.reduceLT, Nat.reduceLeDiff, Nat.reduceMod, Nat.reduceDiv, Int.reduceToNat, Int.reduceLT, Int.reduceLE, Bool.not_true, Bool.not_false, reduceIte, Int.reduceEq, Int.reduceBEq, Int.reduceBNe, Int.reduceGT, Int.reduceGE, Int.reduceNeg, Int.reduceAdd, Int.reduceSub, Nat.reduceBEq, decide_true, decide_false, undef, beq_self_eq_true, bne_self_eq_false, Bool.and_true, Bool.true_and, Bool.and_false, Bool.false_and, Bool.or_true, Bool.true_or, Bool.or_false, Bool.false_or, undef, q1, q3, q7, q8, q9, q11, q12, q13, List.length_map, h0, n0, t1, w0]
    refine ⟨⟨by unfold maxLen; omega, by omega⟩, ?_⟩
    simp only [su5, go_sem, Nat.reduceEqDiff, Nat.reduceAdd, Nat.reduceSub, Nat.reduceMul, Nat.reduceLT, Nat.reduceLeDiff, Nat.reduceMod, Nat.reduceDiv, Int.reduceToNat, Int.reduceLT, Int.reduceLE, Bool.not_true, Bool.not_false, reduceIte, Int.reduceEq, Int.reduceBEq, Int.reduceBNe, Int.reduceGT, Int.reduceGE, Int.reduceNeg, Int.reduceAdd, Int.reduceSub, Nat.reduceBEq, decide_true, decide_false, undef, beq_self_eq_true, bne_self_eq_false, Bool.and_true, Bool.true_and, Bool.and_false, Bool.false_and, Bool.or_true, Bool.true_or, Bool.or_false, Bool.false_or, undef, q1, q3, q7, q8, q9, q11, q12, q13, List.length_map, h0, n0, t1, w0, hnn, List.getElem?_map, hg, Option.map_some, tHu, Nat.mul_one, a1, hset', List.length_set]
    refine awpL_gcpE [0] [3, 8, 11, 12, 13, 35, 36] { env := [(3, .t (.ptr (.agg (su5 s)) 0)), (8, .t (vi m)), (11, .t (.slice 2 (s.water.map tSp))), (12, .t (.slice 3 (s.huts.map tHu))), (13, .loc 0 l.length), (35, .t (vi n)), (36, .t (.ptr (.agg [vi s.rows, vi s.step, .slice 2 (s.water.map tSp), .slice 2 (s.waves.map tSp), .slice 3 (x.huts.map tHu)]) 0))], σ := [.row 1 ((l.map fun z : Int => vi z).map .t)], df := [], k := 0 } (St.gc_mk (by
      simp only [List.map_cons, List.map_nil, lk, Nat.reduceEqDiff, reduceIte, q3, q8, q11, q12, q13]
      rw [gc_xi _ _ _ _ _ _ _ (by simp [hxl])]
      rfl) (by
        show [AO.row 1 ((List.map E.t _).map (E.gc _ _ _))] = _
        rw [gc_row]) rfl rfl) rfl rfl ?_
    simp only [su5, go_sem, Nat.reduceEqDiff, Nat.reduceAdd, Nat.reduceSub, Nat.reduceMul, Nat.reduceLT, Nat.reduceLeDiff, Nat.reduceMod, Nat.reduceDiv, Int.reduceToNat, Int.reduceLT, Int.reduceLE, Bool.not_true, Bool.not_false, reduceIte, Int.reduceEq, Int.reduceBEq, Int.reduceBNe, Int.reduceGT, Int.reduceGE, Int.reduceNeg, Int.reduceAdd, Int.reduceSub, Nat.reduceBEq, decide_true, decide_false, undef, beq_self_eq_true, bne_self_eq_false, Bool.and_true, Bool.true_and, Bool.and_false, Bool.false_and, Bool.or_true, Bool.true_or, Bool.or_false, Bool.false_or, undef]
    refine ACallL.fresh1 h33x rfl ?_
    cases hF : fineB x
    · simp only [go_sem, Nat.reduceEqDiff, Nat.reduceAdd, Nat.reduceSub, Nat.reduceMul, Nat.reduceLT, Nat.reduceLeDiff, Nat.reduceMod, Nat.reduceDiv, Int.reduceToNat, Int.reduceLT, Int.reduceLE, Bool.not_true, Bool.not_false, reduceIte, Int.reduceEq, Int.reduceBEq, Int.reduceBNe, Int.reduceGT, Int.reduceGE, Int.reduceNeg, Int.reduceAdd, Int.reduceSub, Nat.reduceBEq, decide_true, decide_false, undef, beq_self_eq_true, bne_self_eq_false, Bool.and_true, Bool.true_and, Bool.and_false, Bool.false_and, Bool.or_true, Bool.true_or, Bool.or_false, Bool.false_or, undef]
      exact ⟨rfl, rfl, rfl, rfl, rfl, rfl, rfl, rfl⟩
    obtain ⟨_, hx⟩ := fine_iff hF
    have hrw : h.row + 1 < x.rows := (hx.huts _ (List.mem_of_getElem? hgx)).2.2.2.2.2
    have S : Safer x s { h with row := h.row + 1 } h := by
      have hr6 := hx.rows
      rw [← hin] at hrw hr6 ⊢
      exact Safer.mk' hs hho rfl rfl (Int.le_refl _) (Int.le_refl _) (by simp only; omega) (by simp only at hrw hr6 ⊢; omega) (fun _ => .inl rfl) (fun _ => .inl rfl)
    have h21 := Lost_ok s hs n _ hg
    have h21' := Lost_ok x hx n _ hgx
    have h23 := Before_ok s hs n _ hg
    have h23' := Before_ok x hx n _ hgx
    have l1 : decide (lostN (logS x { h with row := h.row + 1 } x.water.length) > lostN (logS s h s.water.length)) = false := by have := lost_safe S; simpa using this
    have b1 := before_safe S
    rw [e5] at h21' h23'
    generalize lostN (logS x { h with row := h.row + 1 } x.water.length) = L1 at *
    generalize lostN (logS s h s.water.length) = L2 at *
    generalize specBefore x { h with row := h.row + 1 } = B1 at *
    generalize specBefore s h = B2 at *
    obtain ⟨b11, b12⟩ := B1
    obtain ⟨b21, b22⟩ := B2
    simp only at b1
    simp only [su5, oneE] at h21 h21' h23 h23'
    simp only [su5, go_sem, Nat.reduceEqDiff, Nat.reduceAdd, Nat.reduceSub, Nat.reduceMul, Nat.reduceLT, Nat.reduceLeDiff, Nat.reduceMod, Nat.reduceDiv, Int.reduceToNat, Int.reduceLT, Int.reduceLE, Bool.not_true, Bool.not_false, reduceIte, Int.reduceEq, Int.reduceBEq, Int.reduceBNe, Int.reduceGT, Int.reduceGE, Int.reduceNeg, Int.reduceAdd, Int.reduceSub, Nat.reduceBEq, decide_true, decide_false, undef, beq_self_eq_true, bne_self_eq_false, Bool.and_true, Bool.true_and, Bool.and_false, Bool.false_and, Bool.or_true, Bool.true_or, Bool.or_false, Bool.false_or, undef]
    refine ACallL.fresh1 h21 rfl ?_
    simp only [su5, go_sem, Nat.reduceEqDiff, Nat.reduceAdd, Nat.reduceSub, Nat.reduceMul, Nat.reduceLT, Nat.reduceLeDiff, Nat.reduceMod, Nat.reduceDiv, Int.reduceToNat, Int.reduceLT, Int.reduceLE, Bool.not_true, Bool.not_false, reduceIte, Int.reduceEq, Int.reduceBEq, Int.reduceBNe, Int.reduceGT, Int.reduceGE, Int.reduceNeg, Int.reduceAdd, Int.reduceSub, Nat.reduceBEq, decide_true, decide_false, undef, beq_self_eq_true, bne_self_eq_false, Bool.and_true, Bool.true_and, Bool.and_false, Bool.false_and, Bool.or_true, Bool.true_or, Bool.or_false, Bool.false_or, undef]
    refine ACallL.fresh1 h21' rfl ?_
    simp only [su5, go_sem, Nat.reduceEqDiff, Nat.reduceAdd, Nat.reduceSub, Nat.reduceMul, Nat.reduceLT, Nat.reduceLeDiff, Nat.reduceMod, Nat.reduceDiv, Int.reduceToNat, Int.reduceLT, Int.reduceLE, Bool.not_true, Bool.not_false, reduceIte, Int.reduceEq, Int.reduceBEq, Int.reduceBNe, Int.reduceGT, Int.reduceGE, Int.reduceNeg, Int.reduceAdd, Int.reduceSub, Nat.reduceBEq, decide_true, decide_false, undef, beq_self_eq_true, bne_self_eq_false, Bool.and_true, Bool.true_and, Bool.and_false, Bool.false_and, Bool.or_true, Bool.true_or, Bool.or_false, Bool.false_or, undef]
    refine ACallL.fresh1 h23 rfl ?_
    simp only [su5, go_sem, Nat.reduceEqDiff, Nat.reduceAdd, Nat.reduceSub, Nat.reduceMul, Nat.reduceLT, Nat.reduceLeDiff, Nat.reduceMod, Nat.reduceDiv, Int.reduceToNat, Int.reduceLT, Int.reduceLE, Bool.not_true, Bool.not_false, reduceIte, Int.reduceEq, Int.reduceBEq, Int.reduceBNe, Int.reduceGT, Int.reduceGE, Int.reduceNeg, Int.reduceAdd, Int.reduceSub, Nat.reduceBEq, decide_true, decide_false, undef, beq_self_eq_true, bne_self_eq_false, Bool.and_true, Bool.true_and, Bool.and_false, Bool.false_and, Bool.or_true, Bool.true_or, Bool.or_false, Bool.false_or, undef]
    refine ACallL.fresh1 h23' rfl ?_
    rcases b1 with rfl | ⟨rfl, rfl, b1⟩
    · simp only [su5, go_sem, Nat.reduceEqDiff, Nat.reduceAdd, Nat.reduceSub, Nat.reduceMul, Nat.reduceLT, Nat.reduceLeDiff, Nat.reduceMod, Nat.reduceDiv, Int.reduceToNat, Int.reduceLT, Int.reduceLE, Bool.not_true, Bool.not_false, reduceIte, Int.reduceEq, Int.reduceBEq, Int.reduceBNe, Int.reduceGT, Int.reduceGE, Int.reduceNeg, Int.reduceAdd, Int.reduceSub, Nat.reduceBEq, decide_true, decide_false, undef, beq_self_eq_true, bne_self_eq_false, Bool.and_true, Bool.true_and, Bool.and_false, Bool.false_and, Bool.or_true, Bool.true_or, Bool.or_false, Bool.false_or, undef, l1]
      exact ⟨rfl, rfl, rfl, rfl, rfl, rfl, rfl, rfl⟩
    · have l2 : decide (b11 < b21) = false := by simpa using b1
      simp only [su5, go_sem, Nat.reduceEqDiff, Nat.reduceAdd, Nat.reduceSub, Nat.reduceMul, Nat.reduceLT, Nat.reduceLeDiff, Nat.reduceMod, Nat.reduceDiv, Int.reduceToNat, Int.reduceLT, Int.reduceLE, Bool.not_true, Bool.not_false, reduceIte, Int.reduceEq, Int.reduceBEq, Int.reduceBNe, Int.reduceGT, Int.reduceGE, Int.reduceNeg, Int.reduceAdd, Int.reduceSub, Nat.reduceBEq, decide_true, decide_false, undef, beq_self_eq_true, bne_self_eq_false, Bool.and_true, Bool.true_and, Bool.and_false, Bool.false_and, Bool.or_true, Bool.true_or, Bool.or_false, Bool.false_or, undef, l1, l2]
      exact ⟨rfl, rfl, rfl, rfl, rfl, rfl, rfl, rfl⟩
  clear q1 q3 q7 q8 q9 q11 q12 q13
  rintro ⟨env, σ, df, k⟩ ⟨q3, q8, q11, q12, q13, hσ, hdf, hk⟩
  simp only at q3 q8 q11 q12 q13 hσ hdf hk
  subst hσ hdf hk
  have hl5 : l.length ≤ 5 := by omega
  simp only [su5, go_sem, Nat.reduceEqDiff, Nat.reduceAdd, Nat.reduceSub, Nat.reduceMul, Nat.reduceLT, Nat.reduceLeDiff, Nat.reduceMod, Nat.reduceDiv, Int.reduceToNat, Int.reduceLT, Int.reduceLE, Bool.not_true, Bool.not_false, reduceIte, Int.reduceEq, Int.reduceBEq, Int.reduceBNe, Int.reduceGT, Int.reduceGE, Int.reduceNeg, Int.reduceAdd, Int.reduceSub, Nat.reduceBEq, decide_true, decide_false, undef, beq_self_eq_true, bne_self_eq_false, Bool.and_true, Bool.true_and, Bool.and_false, Bool.false_and, Bool.or_true, Bool.true_or, Bool.or_false, Bool.false_or, undef, q3, q8, q11, q12, q13, List.length_map]
  refine ⟨⟨by unfold maxLen; omega, by omega⟩, ?_⟩
  refine awpL_for (i := 292) (L := 291) l.length (fun j st => ∃ X : List Int, X.length = l.length ∧ st = { env := [(292, .t (vi j)), (291, .t (vi l.length)), (3, .t (.ptr (.agg (su5 s)) 0)), (8, .t (vi m)), (11, .t (.slice 2 (s.water.map tSp))), (12, .t (.slice 3 (s.huts.map tHu))), (13, .loc 0 l.length), (45, .loc 1 l.length)], σ := [.row 1 ((X.map fun z : Int => vi z).map .t), .row 1 ((l.map fun z : Int => vi z).map .t)] }) ?_
    ⟨_, Sub.gc [0, 1] [292, 291, 3, 8, 11, 12, 13, 45] rfl rfl, l, rfl, St.gc_mk (by simp only [List.map_cons, List.map_nil, lk, Nat.reduceEqDiff, reduceIte, q3, q8, q11, q12, q13]; rfl) (by
      show [AO.row 1 ((List.map E.t _).map (E.gc _ _ _)), AO.row 1 ((List.map E.t _).map (E.gc _ _ _))] = _
      rw [gc_row]) rfl rfl⟩ ?_ ?_
  · rintro k st ⟨_, _, rfl⟩; exact ⟨rfl, rfl⟩
  · rintro j st hj ⟨X, hX, rfl⟩
    have hwj : IntKind.i64.wrap ((j : Int) + 1) = ((j + 1 : Nat) : Int) := by rw [wrap_id (by omega) (by omega)]; omega
    have hset : ((X.map fun z : Int => vi z).map E.t).set j (.t (vi (-9))) = ((X.set j (-9)).map fun z : Int => vi z).map E.t := by rw [List.map_set, List.map_set]
    have hjj : (j : Int) < l.length := by omega
    have hXj : X[j]? = some X[j] := List.getElem?_eq_getElem (by omega)
    generalize X[j] = xj at *
    simp only [go_sem, Nat.reduceEqDiff, Nat.reduceAdd, Nat.reduceSub, Nat.reduceMul, Nat.reduceLT, Nat.reduceLeDiff, Nat.reduceMod, Nat.reduceDiv, Int.reduceToNat, Int.reduceLT, Int.reduceLE, Bool.not_true, Bool.not_false, reduceIte, Int.reduceEq, Int.reduceBEq, Int.reduceBNe, Int.reduceGT, Int.reduceGE, Int.reduceNeg, Int.reduceAdd, Int.reduceSub, Nat.reduceBEq, decide_true, decide_false, undef, beq_self_eq_true, bne_self_eq_false, Bool.and_true, Bool.true_and, Bool.and_false, Bool.false_and, Bool.or_true, Bool.true_or, Bool.or_false, Bool.false_or, undef, List.length_map, hX, hjj, Nat.mul_one, hwj, List.getElem?_map, hXj, Option.map_some, hset]
    exact ⟨_, Sub.gc [0, 1] [292, 291, 3, 8, 11, 12, 13, 45] rfl rfl, X.set j (-9), by simp [hX], St.gc_mk rfl (by
      show [AO.row 1 ((List.map E.t _).map (E.gc _ _ _)), AO.row 1 ((List.map E.t _).map (E.gc _ _ _))] = _
      rw [gc_row, gc_row]) rfl rfl⟩
  · rintro st ⟨X, hX, rfl⟩
    have h32 := ints_ok l l (by omega)
    simp only [su5, go_sem, Nat.reduceEqDiff, Nat.reduceAdd, Nat.reduceSub, Nat.reduceMul, Nat.reduceLT, Nat.reduceLeDiff, Nat.reduceMod, Nat.reduceDiv, Int.reduceToNat, Int.reduceLT, Int.reduceLE, Bool.not_true, Bool.not_false, reduceIte, Int.reduceEq, Int.reduceBEq, Int.reduceBNe, Int.reduceGT, Int.reduceGE, Int.reduceNeg, Int.reduceAdd, Int.reduceSub, Nat.reduceBEq, decide_true, decide_false, undef, beq_self_eq_true, bne_self_eq_false, Bool.and_true, Bool.true_and, Bool.and_false, Bool.false_and, Bool.or_true, Bool.true_or, Bool.or_false, Bool.false_or, undef]
    refine ACallL.fresh1 h30 rfl ?_
    simp only [su5, go_sem, Nat.reduceEqDiff, Nat.reduceAdd, Nat.reduceSub, Nat.reduceMul, Nat.reduceLT, Nat.reduceLeDiff, Nat.reduceMod, Nat.reduceDiv, Int.reduceToNat, Int.reduceLT, Int.reduceLE, Bool.not_true, Bool.not_false, reduceIte, Int.reduceEq, Int.reduceBEq, Int.reduceBNe, Int.reduceGT, Int.reduceGE, Int.reduceNeg, Int.reduceAdd, Int.reduceSub, Nat.reduceBEq, decide_true, decide_false, undef, beq_self_eq_true, bne_self_eq_false, Bool.and_true, Bool.true_and, Bool.and_false, Bool.false_and, Bool.or_true, Bool.true_or, Bool.or_false, Bool.false_or, undef]
    refine ACallL.quiet1 h32 rfl (by
      simp only [List.map_cons, List.map_nil]
      rw [gc_loc (n := 10) (id := 1) (xs := l.map fun z : Int => vi z) rfl rfl (by simp)]
      rfl) rfl ?_
    simp only [su5, go_sem, Nat.reduceEqDiff, Nat.reduceAdd, Nat.reduceSub, Nat.reduceMul, Nat.reduceLT, Nat.reduceLeDiff, Nat.reduceMod, Nat.reduceDiv, Int.reduceToNat, Int.reduceLT, Int.reduceLE, Bool.not_true, Bool.not_false, reduceIte, Int.reduceEq, Int.reduceBEq, Int.reduceBNe, Int.reduceGT, Int.reduceGE, Int.reduceNeg, Int.reduceAdd, Int.reduceSub, Nat.reduceBEq, decide_true, decide_false, undef, beq_self_eq_true, bne_self_eq_false, Bool.and_true, Bool.true_and, Bool.and_false, Bool.false_and, Bool.or_true, Bool.true_or, Bool.or_false, Bool.false_or, undef, List.length_map]
    refine awpL_for (i := 316) (L := 315) s.water.length (fun j st => st = { env := [(316, .t (vi j)), (315, .t (vi s.water.length)), (3, .t (.ptr (.agg (su5 s)) 0)), (11, .t (.slice 2 (s.water.map tSp))), (12, .t (.slice 3 (s.huts.map tHu)))], σ := [] }) ?_ ⟨_, Sub.gc [] [316, 315, 3, 11, 12] rfl rfl, rfl⟩ ?_ ?_
    · rintro k st rfl; exact ⟨rfl, rfl⟩
    · rintro j st hj rfl
      have hwj : IntKind.i64.wrap ((j : Int) + 1) = ((j + 1 : Nat) : Int) := by rw [wrap_id (by omega) (by omega)]; omega
      have hxw : s.water[j]? = some s.water[j] := List.getElem?_eq_getElem hj
      have hjj : (j : Int) < s.water.length := by omega
      generalize s.water[j] = x at *
      obtain ⟨xl, xh⟩ := x
      simp only [su5, go_sem, Nat.reduceEqDiff, Nat.reduceAdd, Nat.reduceSub, Nat.reduceMul, Nat.reduceLT, Nat.reduceLeDiff, Nat.reduceMod, Nat.reduceDiv, Int.reduceToNat, Int.reduceLT, Int.reduceLE, Bool.not_true, Bool.not_false, reduceIte, Int.reduceEq, Int.reduceBEq, Int.reduceBNe, Int.reduceGT, Int.reduceGE, Int.reduceNeg, Int.reduceAdd, Int.reduceSub, Nat.reduceBEq, decide_true, decide_false, undef, beq_self_eq_true, bne_self_eq_false, Bool.and_true, Bool.true_and, Bool.and_false, Bool.false_and, Bool.or_true, Bool.true_or, Bool.or_false, Bool.false_or, undef, List.length_map, List.getElem?_map, hxw, Option.map_some, tSp, hjj, toKey2S, kEq2S, hwj]
      exact ⟨_, Sub.gc [] [316, 315, 3, 11, 12] rfl rfl, rfl⟩
    · rintro st rfl
      simp only [su5, go_sem, Nat.reduceEqDiff, Nat.reduceAdd, Nat.reduceSub, Nat.reduceMul, Nat.reduceLT, Nat.reduceLeDiff, Nat.reduceMod, Nat.reduceDiv, Int.reduceToNat, Int.reduceLT, Int.reduceLE, Bool.not_true, Bool.not_false, reduceIte, Int.reduceEq, Int.reduceBEq, Int.reduceBNe, Int.reduceGT, Int.reduceGE, Int.reduceNeg, Int.reduceAdd, Int.reduceSub, Nat.reduceBEq, decide_true, decide_false, undef, beq_self_eq_true, bne_self_eq_false, Bool.and_true, Bool.true_and, Bool.and_false, Bool.false_and, Bool.or_true, Bool.true_or, Bool.or_false, Bool.false_or, undef, List.length_map]
      refine awpL_for (i := 332) (L := 331) s.huts.length (fun j st => st = { env := [(332, .t (vi j)), (331, .t (vi s.huts.length)), (3, .t (.ptr (.agg (su5 s)) 0)), (12, .t (.slice 3 (s.huts.map tHu)))], σ := [] }) ?_ ⟨_, Sub.gc [] [332, 331, 3, 12] rfl rfl, rfl⟩ ?_ ?_
      · rintro k st rfl; exact ⟨rfl, rfl⟩
      · rintro j st hj rfl
        have hwj : IntKind.i64.wrap ((j : Int) + 1) = ((j + 1 : Nat) : Int) := by rw [wrap_id (by omega) (by omega)]; omega
        have hg := hut_get hj
        have hjj : (j : Int) < s.huts.length := by omega
        generalize s.huts.getD j ⟨0, 0, 0⟩ = h at *
        obtain ⟨f, b, r⟩ := h
        simp only [su5, go_sem, Nat.reduceEqDiff, Nat.reduceAdd, Nat.reduceSub, Nat.reduceMul, Nat.reduceLT, Nat.reduceLeDiff, Nat.reduceMod, Nat.reduceDiv, Int.reduceToNat, Int.reduceLT, Int.reduceLE, Bool.not_true, Bool.not_false, reduceIte, Int.reduceEq, Int.reduceBEq, Int.reduceBNe, Int.reduceGT, Int.reduceGE, Int.reduceNeg, Int.reduceAdd, Int.reduceSub, Nat.reduceBEq, decide_true, decide_false, undef, beq_self_eq_true, bne_self_eq_false, Bool.and_true, Bool.true_and, Bool.and_false, Bool.false_and, Bool.or_true, Bool.true_or, Bool.or_false, Bool.false_or, undef, List.length_map, List.getElem?_map, hg, Option.map_some, tHu, hjj, toKey3S, kEq3S, hwj]
        exact ⟨_, Sub.gc [] [332, 331, 3, 12] rfl rfl, rfl⟩
      · rintro st rfl
        simp only [go_sem, Nat.reduceEqDiff, Nat.reduceAdd, Nat.reduceSub, Nat.reduceMul, Nat.reduceLT, Nat.reduceLeDiff, Nat.reduceMod, Nat.reduceDiv, Int.reduceToNat, Int.reduceLT, Int.reduceLE, Bool.not_true, Bool.not_false, reduceIte, Int.reduceEq, Int.reduceBEq, Int.reduceBNe, Int.reduceGT, Int.reduceGE, Int.reduceNeg, Int.reduceAdd, Int.reduceSub, Nat.reduceBEq, decide_true, decide_false, undef, beq_self_eq_true, bne_self_eq_false, Bool.and_true, Bool.true_and, Bool.and_false, Bool.false_and, Bool.or_true, Bool.true_or, Bool.or_false, Bool.false_or, undef]
        refine ACallL.quiet1 awake_ok rfl rfl rfl ?_
        simp only [go_sem, Nat.reduceEqDiff, Nat.reduceAdd, Nat.reduceSub, Nat.reduceMul, Nat.reduceLT, Nat.reduceLeDiff, Nat.reduceMod, Nat.reduceDiv, Int.reduceToNat, Int.reduceLT, Int.reduceLE, Bool.not_true, Bool.not_false, reduceIte, Int.reduceEq, Int.reduceBEq, Int.reduceBNe, Int.reduceGT, Int.reduceGE, Int.reduceNeg, Int.reduceAdd, Int.reduceSub, Nat.reduceBEq, decide_true, decide_false, undef, beq_self_eq_true, bne_self_eq_false, Bool.and_true, Bool.true_and, Bool.and_false, Bool.false_and, Bool.or_true, Bool.true_or, Bool.or_false, Bool.false_or, undef]
        exact finL_ret [] ⟨rfl, rfl, rfl, rfl, _, rfl, res_mk rfl⟩
end Go.Proofs.YtmahocdmkpigjaaDoor
