/- Proved here: laws that the statements need (FlC311, FlX6). No conditions but those that each law states. -/
import Derived.Test.YtkbjodmpmmnhgaaDoorFL
import Derived.Test.YtkbjodmpmmnhgaaDoorProg
import Derived.Test.YtkbjodmpmmnhgaaDoorMS

set_option linter.unusedSimpArgs false
set_option linter.unusedVariables false

/- Compiled code of functions, printed by program; each is checked to be the program's. No conditions. -/
namespace Go.Proofs.YtkbjodmpmmnhgaaDoor
open Go Go.Ab
/-- dipworks/dipworkslaw10.FlagMore -/
def c11 : AC :=
 .seq (.reg [⟨(some 4), none, .box (.tmp 0)⟩,
    ⟨(some 8), none, .mov (.lit (.bool false))⟩])
 (.seq (.seq (.reg [⟨(some 33), none, .load true 5 (.tmp 4)⟩,
     ⟨(some 34), none, .call (.fn 31) [(.tmp 33)]⟩,
     ⟨(some 35), none, .un .not (.tmp 34)⟩,
     ⟨(some 36), none, .mov (.tmp 35)⟩,
     ⟨(some 37), (some (36, false)), .faddr 3 (.tmp 4)⟩,
     ⟨(some 38), (some (36, false)), .load false 1 (.tmp 37)⟩,
     ⟨(some 39), (some (36, false)), .len (.tmp 38)⟩,
     ⟨(some 40), (some (36, false)), .bin .eql (.tmp 39) (.lit (.int .i64 0))⟩,
     ⟨(some 41), none, .pick (.tmp 36) (.lit (.bool true)) (.tmp 40)⟩])
  (.cond (.tmp 41) (.seq (.reg [⟨(some 42), none, .call (.fn 14) []⟩,
      ⟨(some 8), none, .mov (.tmp 42)⟩])
   (.ret))
    (.skip)))
 (.seq (.reg [⟨(some 43), none, .mov (.tmp 1)⟩,
    ⟨(some 44), none, .conv .i64 (.tmp 43)⟩,
    ⟨(some 45), none, .faddr 3 (.tmp 4)⟩,
    ⟨(some 46), none, .load false 1 (.tmp 45)⟩,
    ⟨(some 47), none, .len (.tmp 46)⟩,
    ⟨(some 48), none, .bin .rem (.tmp 44) (.tmp 47)⟩,
    ⟨(some 9), none, .mov (.tmp 48)⟩])
 (.seq (.draw (.step ⟨(some 49), none, .load true 5 (.tmp 4)⟩ (
    .step ⟨(some 50), none, .load true 5 (.tmp 4)⟩ (
    .ev ⟨(some 10), none, .alloc [(.int .i64 0), (.int .i64 0), (.int .i64 0), (.slice none 0 0), (.slice none 0 0)]⟩ [⟨(some 50), none, .load true 5 (.tmp 4)⟩, ⟨(some 49), none, .load true 5 (.tmp 4)⟩] (
    .ev ⟨(some 11), none, .alloc [(.int .i64 0), (.int .i64 0), (.int .i64 0), (.slice none 0 0), (.slice none 0 0)]⟩ [⟨(some 50), none, .load true 5 (.tmp 4)⟩, ⟨(some 49), none, .load true 5 (.tmp 4)⟩] (
     .ev ⟨none, none, .store 5 (.tmp 10) (.tmp 49)⟩ [⟨(some 50), none, .load true 5 (.tmp 4)⟩] (
      .ev ⟨none, none, .store 5 (.tmp 11) (.tmp 50)⟩ [] (
       .done)
       (.stop))
      (.stop))
     (.stop))
    (.ev ⟨(some 11), none, .alloc [(.int .i64 0), (.int .i64 0), (.int .i64 0), (.slice none 0 0), (.slice none 0 0)]⟩ [⟨(some 50), none, .load true 5 (.tmp 4)⟩, ⟨(some 49), none, .load true 5 (.tmp 4)⟩] (
    .ev ⟨(some 10), none, .alloc [(.int .i64 0), (.int .i64 0), (.int .i64 0), (.slice none 0 0), (.slice none 0 0)]⟩ [⟨(some 50), none, .load true 5 (.tmp 4)⟩, ⟨(some 49), none, .load true 5 (.tmp 4)⟩] (
     .ev ⟨none, none, .store 5 (.tmp 10) (.tmp 49)⟩ [⟨(some 50), none, .load true 5 (.tmp 4)⟩] (
      .ev ⟨none, none, .store 5 (.tmp 11) (.tmp 50)⟩ [] (
       .done)
       (.stop))
      (.stop))
     (.stop))
    (.stop))))))
 (.seq (.seq (.gcp)
  (.reg [⟨(some 51), none, .bslice 2 (.agg #[(.int .i64 0), (.bool false)]) 0 []⟩,
    ⟨(some 52), none, .faddr 4 (.tmp 4)⟩,
    ⟨(some 53), none, .load false 1 (.tmp 52)⟩,
    ⟨(some 54), none, .app 2 16 (.tmp 51) (.tmp 53)⟩,
    ⟨(some 55), none, .mov (.tmp 9)⟩,
    ⟨(some 56), none, .mov (.tmp 3)⟩,
    ⟨(some 57), none, .call (.fn 42) [(.tmp 55), (.tmp 56)]⟩,
    ⟨(some 58), none, .bslice 2 (.agg #[(.int .i64 0), (.bool false)]) 1 [(0, (.tmp 57))]⟩,
    ⟨(some 59), none, .app 2 16 (.tmp 54) (.tmp 58)⟩,
    ⟨(some 60), none, .faddr 4 (.tmp 10)⟩,
    ⟨none, none, .store 1 (.tmp 60) (.tmp 59)⟩]))
 (.seq (.reg [⟨(some 61), none, .bslice 3 (.agg #[(.int .i64 0), (.int .i64 0), (.int .i64 0)]) 0 []⟩,
    ⟨(some 62), none, .faddr 3 (.tmp 4)⟩,
    ⟨(some 63), none, .load false 1 (.tmp 62)⟩,
    ⟨(some 64), none, .app 3 24 (.tmp 61) (.tmp 63)⟩,
    ⟨(some 65), none, .faddr 3 (.tmp 11)⟩,
    ⟨none, none, .store 1 (.tmp 65) (.tmp 64)⟩])
 (.seq (.seq (.reg [⟨(some 66), none, .faddr 3 (.tmp 11)⟩,
     ⟨(some 67), none, .load false 1 (.tmp 66)⟩,
     ⟨(some 68), none, .mov (.tmp 9)⟩,
     ⟨(some 69), none, .iaddr 3 (.tmp 67) (.tmp 68)⟩,
     ⟨(some 12), none, .mov (.tmp 69)⟩])
  (.seq (.reg [⟨(some 70), none, .mov (.tmp 2)⟩,
     ⟨(some 71), none, .bin .rem (.tmp 70) (.lit (.int .u8 4))⟩])
  (.block 0 (.seq (.reg [⟨(some 85), none, .bin .eql (.tmp 71) (.lit (.int .u8 0))⟩,
     ⟨(some 84), none, .mov (.tmp 85)⟩])
  (.cond (.tmp 84) (.draw (.step ⟨(some 86), none, .mov (.tmp 12)⟩ (
     .step ⟨(some 87), none, .mov (.tmp 12)⟩ (
     .step ⟨(some 88), none, .nilck (.tmp 87)⟩ (
     .step ⟨(some 89), none, .faddr 0 (.tmp 88)⟩ (
     .step ⟨(some 90), none, .faddr 1 (.tmp 89)⟩ (
     .step ⟨(some 91), none, .load false 1 (.tmp 90)⟩ (
     .step ⟨(some 92), none, .mov (.tmp 12)⟩ (
     .step ⟨(some 93), none, .nilck (.tmp 92)⟩ (
     .step ⟨(some 94), none, .faddr 0 (.tmp 93)⟩ (
     .step ⟨(some 95), none, .faddr 0 (.tmp 94)⟩ (
     .step ⟨(some 96), none, .load false 1 (.tmp 95)⟩ (
     .step ⟨(some 97), none, .bin .add (.tmp 96) (.lit (.int .i64 1))⟩ (
     .step ⟨(some 98), none, .mxmn false (.tmp 91) [(.tmp 97)]⟩ (
     .step ⟨(some 99), none, .nilck (.tmp 86)⟩ (
     .step ⟨(some 100), none, .faddr 0 (.tmp 99)⟩ (
     .step ⟨(some 101), none, .faddr 0 (.tmp 100)⟩ (
     .ev ⟨none, none, .store 1 (.tmp 101) (.tmp 98)⟩ [⟨(some 100), none, .faddr 0 (.tmp 99)⟩, ⟨(some 99), none, .nilck (.tmp 86)⟩] (
     .done)
     (.stop)))))))))))))))))))
    (.seq (.reg [⟨(some 103), none, .bin .eql (.tmp 71) (.lit (.int .u8 1))⟩,
      ⟨(some 102), none, .mov (.tmp 103)⟩])
   (.cond (.tmp 102) (.draw (.step ⟨(some 104), none, .mov (.tmp 12)⟩ (
      .step ⟨(some 105), none, .mov (.tmp 12)⟩ (
      .step ⟨(some 106), none, .nilck (.tmp 105)⟩ (
      .step ⟨(some 107), none, .faddr 0 (.tmp 106)⟩ (
      .step ⟨(some 108), none, .faddr 0 (.tmp 107)⟩ (
      .step ⟨(some 109), none, .load false 1 (.tmp 108)⟩ (
      .step ⟨(some 110), none, .mov (.tmp 12)⟩ (
      .step ⟨(some 111), none, .nilck (.tmp 110)⟩ (
      .step ⟨(some 112), none, .faddr 0 (.tmp 111)⟩ (
      .step ⟨(some 113), none, .faddr 1 (.tmp 112)⟩ (
      .step ⟨(some 114), none, .load false 1 (.tmp 113)⟩ (
      .step ⟨(some 115), none, .bin .sub (.tmp 114) (.lit (.int .i64 1))⟩ (
      .step ⟨(some 116), none, .mxmn true (.tmp 109) [(.tmp 115)]⟩ (
      .step ⟨(some 117), none, .nilck (.tmp 104)⟩ (
      .step ⟨(some 118), none, .faddr 0 (.tmp 117)⟩ (
      .step ⟨(some 119), none, .faddr 1 (.tmp 118)⟩ (
      .ev ⟨none, none, .store 1 (.tmp 119) (.tmp 116)⟩ [⟨(some 118), none, .faddr 0 (.tmp 117)⟩, ⟨(some 117), none, .nilck (.tmp 104)⟩] (
      .done)
      (.stop)))))))))))))))))))
     (.seq (.reg [⟨(some 121), none, .bin .eql (.tmp 71) (.lit (.int .u8 2))⟩,
       ⟨(some 120), none, .mov (.tmp 121)⟩])
    (.cond (.tmp 120) (.draw (.step ⟨(some 122), none, .mov (.tmp 12)⟩ (
       .step ⟨(some 123), none, .nilck (.tmp 122)⟩ (
       .step ⟨(some 124), none, .faddr 2 (.tmp 123)⟩ (
       .step ⟨(some 125), none, .load false 1 (.tmp 124)⟩ (
       .step ⟨(some 126), none, .mov (.tmp 12)⟩ (
       .step ⟨(some 127), none, .nilck (.tmp 126)⟩ (
       .step ⟨(some 128), none, .faddr 2 (.tmp 127)⟩ (
       .step ⟨(some 129), none, .load false 1 (.tmp 128)⟩ (
       .step ⟨(some 130), none, .bin .rem (.tmp 129) (.lit (.int .i64 2))⟩ (
       .step ⟨(some 131), none, .bin .sub (.tmp 125) (.tmp 130)⟩ (
       .step ⟨(some 132), none, .nilck (.tmp 122)⟩ (
       .step ⟨(some 133), none, .faddr 2 (.tmp 132)⟩ (
       .ev ⟨none, none, .store 1 (.tmp 133) (.tmp 131)⟩ [⟨(some 132), none, .nilck (.tmp 122)⟩] (
       .done)
       (.stop)))))))))))))))
      (.draw (.step ⟨(some 72), none, .mov (.tmp 12)⟩ (
       .step ⟨(some 73), none, .nilck (.tmp 72)⟩ (
       .step ⟨(some 74), none, .faddr 2 (.tmp 73)⟩ (
       .step ⟨(some 75), none, .load false 1 (.tmp 74)⟩ (
       .step ⟨(some 76), none, .mov (.tmp 12)⟩ (
       .step ⟨(some 77), none, .nilck (.tmp 76)⟩ (
       .step ⟨(some 78), none, .faddr 2 (.tmp 77)⟩ (
       .step ⟨(some 79), none, .load false 1 (.tmp 78)⟩ (
       .step ⟨(some 80), none, .bin .rem (.tmp 79) (.lit (.int .i64 2))⟩ (
       .step ⟨(some 81), none, .bin .add (.tmp 75) (.tmp 80)⟩ (
       .step ⟨(some 82), none, .nilck (.tmp 72)⟩ (
       .step ⟨(some 83), none, .faddr 2 (.tmp 82)⟩ (
       .ev ⟨none, none, .store 1 (.tmp 83) (.tmp 81)⟩ [⟨(some 82), none, .nilck (.tmp 72)⟩] (
       .done)
       (.stop))))))))))))))))))))))))
 (.seq (.seq (.gcp)
  (.reg [⟨(some 135), none, .load true 5 (.tmp 4)⟩,
    ⟨(some 136), none, .call (.fn 17) [(.tmp 135)]⟩,
    ⟨(some 134), none, .mov (.tmp 136)⟩,
    ⟨(some 137), none, .ext (.tmp 134) 0⟩,
    ⟨(some 138), none, .ext (.tmp 134) 1⟩,
    ⟨(some 139), none, .ext (.tmp 134) 2⟩,
    ⟨(some 13), none, .mov (.tmp 137)⟩,
    ⟨(some 14), none, .mov (.tmp 138)⟩,
    ⟨(some 15), none, .mov (.tmp 139)⟩]))
 (.seq (.reg [⟨(some 141), none, .load true 5 (.tmp 4)⟩,
    ⟨(some 142), none, .call (.fn 19) [(.tmp 141)]⟩,
    ⟨(some 140), none, .mov (.tmp 142)⟩,
    ⟨(some 143), none, .ext (.tmp 140) 0⟩,
    ⟨(some 144), none, .ext (.tmp 140) 1⟩,
    ⟨(some 16), none, .mov (.tmp 143)⟩,
    ⟨(some 17), none, .mov (.tmp 144)⟩])
 (.seq (.reg [⟨(some 146), none, .load true 5 (.tmp 4)⟩,
    ⟨(some 147), none, .call (.fn 21) [(.tmp 146)]⟩,
    ⟨(some 145), none, .mov (.tmp 147)⟩,
    ⟨(some 148), none, .ext (.tmp 145) 0⟩,
    ⟨(some 149), none, .ext (.tmp 145) 1⟩,
    ⟨(some 18), none, .alloc [(.int .i64 0), (.int .i64 0)]⟩,
    ⟨none, none, .store 2 (.tmp 18) (.tmp 148)⟩,
    ⟨(some 19), none, .mov (.tmp 149)⟩])
 (.seq (.reg [⟨(some 151), none, .load true 5 (.tmp 4)⟩,
    ⟨(some 152), none, .mov (.tmp 9)⟩,
    ⟨(some 153), none, .faddr 3 (.tmp 4)⟩,
    ⟨(some 154), none, .load false 1 (.tmp 153)⟩,
    ⟨(some 155), none, .len (.tmp 154)⟩,
    ⟨(some 156), none, .call (.fn 23) [(.tmp 151), (.tmp 152), (.tmp 155)]⟩,
    ⟨(some 150), none, .mov (.tmp 156)⟩,
    ⟨(some 157), none, .ext (.tmp 150) 0⟩,
    ⟨(some 158), none, .ext (.tmp 150) 1⟩,
    ⟨(some 20), none, .mov (.tmp 157)⟩,
    ⟨(some 21), none, .mov (.tmp 158)⟩])
 (.seq (.seq (.reg [⟨(some 159), none, .load true 5 (.tmp 10)⟩,
     ⟨(some 160), none, .load true 5 (.tmp 11)⟩,
     ⟨(some 161), none, .bslice 5 (.agg #[(.int .i64 0), (.int .i64 0), (.int .i64 0), (.slice none 0 0), (.slice none 0 0)]) 2 [(0, (.tmp 159)), (1, (.tmp 160))]⟩,
     ⟨(some 162), none, .len (.tmp 161)⟩,
     ⟨(some 163), none, .mov (.lit (.int .i64 0))⟩])
  (.block 1 (.loop (.seq (.reg [⟨(some 164), none, .bin .lss (.tmp 163) (.tmp 162)⟩])
   (.seq (.cond (.tmp 164) (.skip)
      (.exit 1))
   (.seq (.block 2 (.seq (.reg [⟨(some 165), none, .iaddr 5 (.tmp 161) (.tmp 163)⟩,
       ⟨(some 166), none, .load true 5 (.tmp 165)⟩,
       ⟨(some 23), none, .alloc [(.int .i64 0), (.int .i64 0), (.int .i64 0), (.slice none 0 0), (.slice none 0 0)]⟩,
       ⟨none, none, .store 5 (.tmp 23) (.tmp 166)⟩])
    (.seq (.seq (.reg [⟨(some 167), none, .load true 5 (.tmp 23)⟩,
        ⟨(some 168), none, .call (.fn 31) [(.tmp 167)]⟩,
        ⟨(some 169), none, .un .not (.tmp 168)⟩])
     (.cond (.tmp 169) (.exit 2)
       (.skip)))
    (.seq (.reg [⟨(some 171), none, .load true 5 (.tmp 23)⟩,
       ⟨(some 172), none, .call (.fn 17) [(.tmp 171)]⟩,
       ⟨(some 170), none, .mov (.tmp 172)⟩,
       ⟨(some 173), none, .ext (.tmp 170) 0⟩,
       ⟨(some 174), none, .ext (.tmp 170) 1⟩,
       ⟨(some 175), none, .ext (.tmp 170) 2⟩,
       ⟨(some 24), none, .mov (.tmp 173)⟩,
       ⟨(some 25), none, .mov (.tmp 174)⟩,
       ⟨(some 26), none, .mov (.tmp 175)⟩])
    (.seq (.reg [⟨(some 177), none, .load true 5 (.tmp 23)⟩,
       ⟨(some 178), none, .call (.fn 19) [(.tmp 177)]⟩,
       ⟨(some 176), none, .mov (.tmp 178)⟩,
       ⟨(some 179), none, .ext (.tmp 176) 0⟩,
       ⟨(some 180), none, .ext (.tmp 176) 1⟩,
       ⟨(some 27), none, .mov (.tmp 179)⟩,
       ⟨(some 28), none, .mov (.tmp 180)⟩])
    (.seq (.reg [⟨(some 182), none, .load true 5 (.tmp 23)⟩,
       ⟨(some 183), none, .call (.fn 21) [(.tmp 182)]⟩,
       ⟨(some 181), none, .mov (.tmp 183)⟩,
       ⟨(some 184), none, .ext (.tmp 181) 0⟩,
       ⟨(some 185), none, .ext (.tmp 181) 1⟩,
       ⟨(some 29), none, .alloc [(.int .i64 0), (.int .i64 0)]⟩,
       ⟨none, none, .store 2 (.tmp 29) (.tmp 184)⟩,
       ⟨(some 30), none, .mov (.tmp 185)⟩])
    (.seq (.reg [⟨(some 187), none, .load true 5 (.tmp 23)⟩,
       ⟨(some 188), none, .mov (.tmp 9)⟩,
       ⟨(some 189), none, .faddr 3 (.tmp 4)⟩,
       ⟨(some 190), none, .load false 1 (.tmp 189)⟩,
       ⟨(some 191), none, .len (.tmp 190)⟩,
       ⟨(some 192), none, .call (.fn 23) [(.tmp 187), (.tmp 188), (.tmp 191)]⟩,
       ⟨(some 186), none, .mov (.tmp 192)⟩,
       ⟨(some 193), none, .ext (.tmp 186) 0⟩,
       ⟨(some 194), none, .ext (.tmp 186) 1⟩,
       ⟨(some 31), none, .mov (.tmp 193)⟩,
       ⟨(some 32), none, .mov (.tmp 194)⟩])
    (.seq (.seq (.reg [⟨(some 195), none, .mov (.tmp 17)⟩,
        ⟨(some 196), none, .bin .neq (.tmp 195) (.lit (.int .i64 0))⟩,
        ⟨(some 197), none, .mov (.tmp 196)⟩,
        ⟨(some 198), (some (197, false)), .mov (.tmp 28)⟩,
        ⟨(some 199), (some (197, false)), .bin .neq (.tmp 198) (.lit (.int .i64 0))⟩,
        ⟨(some 200), none, .pick (.tmp 197) (.lit (.bool true)) (.tmp 199)⟩,
        ⟨(some 201), none, .mov (.tmp 200)⟩,
        ⟨(some 202), (some (201, false)), .mov (.tmp 27)⟩,
        ⟨(some 203), (some (201, false)), .mov (.tmp 16)⟩,
        ⟨(some 204), (some (201, false)), .bin .gtr (.tmp 202) (.tmp 203)⟩,
        ⟨(some 205), none, .pick (.tmp 201) (.lit (.bool true)) (.tmp 204)⟩,
        ⟨(some 206), none, .mov (.tmp 205)⟩,
        ⟨(some 207), (some (206, false)), .mov (.tmp 26)⟩,
        ⟨(some 208), (some (206, false)), .mov (.tmp 30)⟩,
        ⟨(some 209), (some (206, false)), .bin .neq (.tmp 207) (.tmp 208)⟩,
        ⟨(some 210), none, .pick (.tmp 206) (.lit (.bool true)) (.tmp 209)⟩,
        ⟨(some 211), none, .mov (.tmp 210)⟩,
        ⟨(some 212), (some (211, false)), .mov (.tmp 26)⟩,
        ⟨(some 213), (some (211, false)), .mov (.tmp 32)⟩,
        ⟨(some 214), (some (211, false)), .bin .neq (.tmp 212) (.tmp 213)⟩,
        ⟨(some 215), none, .pick (.tmp 211) (.lit (.bool true)) (.tmp 214)⟩,
        ⟨(some 216), none, .mov (.tmp 215)⟩,
        ⟨(some 217), (some (216, false)), .mov (.tmp 26)⟩,
        ⟨(some 218), (some (216, false)), .bin .eql (.tmp 217) (.lit (.int .i64 0))⟩,
        ⟨(some 219), (some (216, false)), .mov (.tmp 27)⟩,
        ⟨(some 220), (some (216, false)), .bin .gtr (.tmp 219) (.lit (.int .i64 0))⟩,
        ⟨(some 221), (some (216, false)), .eqb true (.tmp 218) (.tmp 220)⟩,
        ⟨(some 222), none, .pick (.tmp 216) (.lit (.bool true)) (.tmp 221)⟩])
     (.cond (.tmp 222) (.seq (.reg [⟨(some 8), none, .mov (.lit (.bool false))⟩])
      (.ret))
       (.skip)))
    (.seq (.seq (.reg [⟨(some 223), none, .mov (.tmp 26)⟩,
        ⟨(some 224), none, .bin .neq (.tmp 223) (.lit (.int .i64 0))⟩])
     (.cond (.tmp 224) (.exit 2)
       (.skip)))
    (.seq (.reg [⟨(some 225), none, .mov (.tmp 15)⟩,
       ⟨(some 226), none, .bin .neq (.tmp 225) (.lit (.int .i64 0))⟩,
       ⟨(some 227), none, .mov (.tmp 226)⟩,
       ⟨(some 228), (some (227, false)), .mov (.tmp 19)⟩,
       ⟨(some 229), (some (227, false)), .bin .neq (.tmp 228) (.lit (.int .i64 0))⟩,
       ⟨(some 230), none, .pick (.tmp 227) (.lit (.bool true)) (.tmp 229)⟩,
       ⟨(some 231), none, .mov (.tmp 230)⟩,
       ⟨(some 232), (some (231, false)), .mov (.tmp 21)⟩,
       ⟨(some 233), (some (231, false)), .bin .neq (.tmp 232) (.lit (.int .i64 0))⟩,
       ⟨(some 234), none, .pick (.tmp 231) (.lit (.bool true)) (.tmp 233)⟩,
       ⟨(some 235), none, .mov (.tmp 234)⟩,
       ⟨(some 236), (some (235, false)), .mov (.tmp 13)⟩,
       ⟨(some 237), (some (235, false)), .mov (.tmp 24)⟩,
       ⟨(some 238), (some (235, false)), .bin .andNot (.tmp 236) (.tmp 237)⟩,
       ⟨(some 239), (some (235, false)), .bin .neq (.tmp 238) (.lit (.int .i64 0))⟩,
       ⟨(some 240), none, .pick (.tmp 235) (.lit (.bool true)) (.tmp 239)⟩,
       ⟨(some 241), none, .mov (.tmp 240)⟩,
       ⟨(some 242), (some (241, false)), .mov (.tmp 25)⟩,
       ⟨(some 243), (some (241, false)), .mov (.tmp 14)⟩,
       ⟨(some 244), (some (241, false)), .bin .andNot (.tmp 242) (.tmp 243)⟩,
       ⟨(some 245), (some (241, false)), .bin .neq (.tmp 244) (.lit (.int .i64 0))⟩,
       ⟨(some 246), none, .pick (.tmp 241) (.lit (.bool true)) (.tmp 245)⟩,
       ⟨(some 247), none, .mov (.tmp 246)⟩,
       ⟨(some 248), (some (247, false)), .faddr 0 (.tmp 29)⟩,
       ⟨(some 249), (some (247, false)), .load false 1 (.tmp 248)⟩,
       ⟨(some 250), (some (247, false)), .faddr 0 (.tmp 18)⟩,
       ⟨(some 251), (some (247, false)), .load false 1 (.tmp 250)⟩,
       ⟨(some 252), (some (247, false)), .bin .lss (.tmp 249) (.tmp 251)⟩,
       ⟨(some 253), none, .pick (.tmp 247) (.lit (.bool true)) (.tmp 252)⟩,
       ⟨(some 254), none, .mov (.tmp 253)⟩,
       ⟨(some 255), (some (254, false)), .faddr 1 (.tmp 29)⟩,
       ⟨(some 256), (some (254, false)), .load false 1 (.tmp 255)⟩,
       ⟨(some 257), (some (254, false)), .faddr 1 (.tmp 18)⟩,
       ⟨(some 258), (some (254, false)), .load false 1 (.tmp 257)⟩,
       ⟨(some 259), (some (254, false)), .bin .gtr (.tmp 256) (.tmp 258)⟩,
       ⟨(some 260), none, .pick (.tmp 254) (.lit (.bool true)) (.tmp 259)⟩,
       ⟨(some 261), none, .mov (.tmp 260)⟩,
       ⟨(some 262), (some (261, false)), .mov (.tmp 20)⟩,
       ⟨(some 263), (some (261, false)), .bin .neq (.tmp 262) (.lit (.int .i64 1))⟩,
       ⟨(some 264), (some (261, false)), .mov (.tmp 263)⟩,
       ⟨(some 265), (some (264, true)), .mov (.tmp 31)⟩,
       ⟨(some 266), (some (264, true)), .mov (.tmp 20)⟩,
       ⟨(some 267), (some (264, true)), .bin .neq (.tmp 265) (.tmp 266)⟩,
       ⟨(some 268), (some (261, false)), .pick (.tmp 264) (.tmp 267) (.lit (.bool false))⟩,
       ⟨(some 269), none, .pick (.tmp 261) (.lit (.bool true)) (.tmp 268)⟩])
    (.cond (.tmp 269) (.seq (.reg [⟨(some 8), none, .mov (.lit (.bool false))⟩])
     (.ret))
      (.skip))))))))))))
   (.reg [⟨(some 270), none, .bin .add (.tmp 163) (.lit (.int .i64 1))⟩,
     ⟨(some 163), none, .mov (.tmp 270)⟩])))))))
 (.seq (.reg [⟨(some 271), none, .call (.fn 14) []⟩,
    ⟨(some 8), none, .mov (.tmp 271)⟩])
 (.ret)))))))))))))
theorem k11 : FnC Tryd.prog 11 272 [] [5, 16] [.tmp 8] c11 4 := ⟨Tryd.f11, _, Tryd.func11, rfl, by decide, rfl, by decide, by kernel_rfl, by kernel_rfl⟩
end Go.Proofs.YtkbjodmpmmnhgaaDoor

/- FlagMore. -/
namespace Go.Proofs.YtkbjodmpmmnhgaaDoor
open Go Go.Ab

abbrev cF2 (f : Fl) : AO := .cells ((fl5 f).map .t)
def moreH (w : Nat) (h : Hr) : Hr := if w % 4 = 0 then ⟨min h.hi (h.lo + 1), h.hi, h.th⟩ else if w % 4 = 1 then ⟨h.lo, max h.lo (h.hi - 1), h.th⟩ else if w % 4 = 2 then ⟨h.lo, h.hi, h.th - h.th % 2⟩ else ⟨h.lo, h.hi, h.th + h.th % 2⟩
theorem moreH_better (w : Nat) {h : Hr} (hh : 0 ≤ h.lo ∧ h.lo ≤ h.hi ∧ h.hi ≤ 12 ∧ 0 ≤ h.th ∧ h.th ≤ 2) : Better h (moreH w h) ∧ (0 ≤ (moreH w h).lo ∧ (moreH w h).lo ≤ (moreH w h).hi ∧ (moreH w h).hi ≤ 12 ∧ 0 ≤ (moreH w h).th ∧ (moreH w h).th ≤ 2) := by
  unfold moreH
  split
  · exact ⟨⟨by simp only; omega, by simp only; omega, by simp only; omega, id, id⟩, by simp only; omega⟩
  · split
    · exact ⟨⟨by simp only; omega, by simp only; omega, by simp only; omega, id, id⟩, by simp only; omega⟩
    · split
      · exact ⟨⟨by simp only; omega, by simp only; omega, by simp only; omega, by simp only; omega, by simp only; omega⟩, by simp only; omega⟩
      · exact ⟨⟨by simp only; omega, by simp only; omega, by simp only; omega, by simp only; omega, by simp only; omega⟩, by simp only; omega⟩
def MoMid1 (f : Fl) (i w : Nat) (up : Bool) (s : St) : Prop := lk s.env 2 = .t (.lit (.int .u8 w)) ∧ lk s.env 4 = .ptr 0 0 ∧ lk s.env 9 = .t (vi i) ∧ lk s.env 10 = .ptr 1 0 ∧ lk s.env 11 = .ptr 2 0 ∧
  (∃ A : AO, s.σ = [cF2 f, .cells [.t (vi f.low), .t (vi f.high), .t (vi f.quiet), .t (.slice 3 (f.hs.map tHr)), .loc 3 (f.ss.length + 1)], cF2 f, .row 2 (((f.ss ++ [(⟨(i : Int), up⟩ : Sn)]).map tSn).map .t), A]) ∧ s.df = [] ∧ s.k = 0
def MoMid2 (f : Fl) (i w : Nat) (up : Bool) (s : St) : Prop := ∃ h : Hr, f.hs[i]? = some h ∧ lk s.env 4 = .ptr 0 0 ∧ lk s.env 9 = .t (vi i) ∧ lk s.env 10 = .ptr 1 0 ∧ lk s.env 11 = .ptr 2 0 ∧
  (∃ A : AO, s.σ = [cF2 f, .cells [.t (vi f.low), .t (vi f.high), .t (vi f.quiet), .t (.slice 3 (f.hs.map tHr)), .loc 3 (f.ss.length + 1)], .cells [.t (vi f.low), .t (vi f.high), .t (vi f.quiet), .loc 5 f.hs.length, .t (.slice 2 (f.ss.map tSn))], .row 2 (((f.ss ++ [(⟨(i : Int), up⟩ : Sn)]).map tSn).map .t), A, .row 3 (((f.hs.set i (moreH w h)).map tHr).map .t)]) ∧ s.df = [] ∧ s.k = 0

def MoMid3 (f : Fl) (i : Nat) (zs : List Fl) (s : St) : Prop := lk s.env 4 = .ptr 0 0 ∧ lk s.env 9 = .t (vi i) ∧ (∃ x y, zs = [x, y] ∧ lk s.env 10 = .t (.ptr (.agg (fl5 x)) 0) ∧ lk s.env 11 = .t (.ptr (.agg (fl5 y)) 0)) ∧ lk s.env 13 = .t (vi (specUp f).1) ∧ lk s.env 14 = .t (vi (specUp f).2.1) ∧ lk s.env 15 = .t (vi (specUp f).2.2) ∧
  lk s.env 16 = .t (vi (truths f).length) ∧ lk s.env 17 = .t (vi 0) ∧ lk s.env 18 = .ptr 1 0 ∧ lk s.env 19 = .t (vi (specLong f).2) ∧ lk s.env 20 = .t (vi (specUnder f i f.hs.length).1) ∧ lk s.env 21 = .t (vi (specUnder f i f.hs.length).2) ∧
  s.σ = [cF2 f, .cells [.t (vi (specLong f).1.1), .t (vi (specLong f).1.2)]] ∧ s.df = [] ∧ s.k = 0
theorem gc_pS (A C : AO) (a b c d : T) (xs : List T) (n : Nat) (hn : n = xs.length) (R : List AO) : E.gc [0] (A :: .cells [.t a, .t b, .t c, .t d, .loc 3 n] :: C :: .row 2 (xs.map .t) :: R) 12 (.ptr 1 0) = .t (.ptr (.agg [a, b, c, d, .slice 2 xs]) 0) := by
  rw [E.gc]
  simp only [pos?, Nat.reduceEqDiff, reduceIte, Option.map_none, List.getElem?_cons_succ, List.getElem?_cons_zero, List.map_cons, List.map_nil, gc_t]
  rw [gc_loc (n := 9) (xs := xs) rfl rfl hn]
  rfl
theorem gc_pH (A B C D : AO) (a b c d : T) (xs : List T) (n : Nat) (hn : n = xs.length) (R : List AO) : E.gc [0] (A :: B :: .cells [.t a, .t b, .t c, .loc 5 n, .t d] :: C :: D :: .row 3 (xs.map .t) :: R) 12 (.ptr 2 0) = .t (.ptr (.agg [a, b, c, .slice 3 xs, d]) 0) := by
  rw [E.gc]
  simp only [pos?, Nat.reduceEqDiff, reduceIte, Option.map_none, List.getElem?_cons_succ, List.getElem?_cons_zero, List.map_cons, List.map_nil, gc_t]
  rw [gc_loc (n := 9) (xs := xs) rfl rfl hn]
  rfl

set_option maxRecDepth 8000 in
set_option maxHeartbeats 4000000 in
theorem FlagMore_ok (f : Fl) (hL : Lens f) (u : Nat) (hu : u < 256) (w : Nat) (hw : w < 256) (up : Bool) : ACall Tryd.prog 11 [.t (.agg (fl5 f)), .t (.lit (.int .u8 u)), .t (.lit (.int .u8 w)), .t (.lit (.bool up))] [] (res (.ret (.t (vb true)))) := by
  refine ACall.walk k11 ?_
  have h31 := fine_ok f hL
  unfold c11
  simp only [fl5] at h31
  refine awpL_chop 5 (c1 := ?a1) (c2 := ?a2) (fun s => f.OK ∧ ∃ i, i < f.hs.length ∧ MoMid1 f i w up s) ?hc ?_ ?_
  case hc => simp only [chop]; rfl
  · simp only [fl5, go_sem, Nat.reduceEqDiff, Nat.reduceAdd, Nat.reduceSub, Nat.reduceMul, Nat.reduceLT, Nat.reduceLeDiff, Nat.reduceMod, Nat.reduceDiv, Int.reduceToNat, Int.reduceLT, Int.reduceLE, Bool.not_true, Bool.not_false, reduceIte, Int.reduceEq, Int.reduceBEq, Int.reduceBNe, Int.reduceGT, Int.reduceGE, Int.reduceNeg, Int.reduceAdd, Int.reduceSub, Nat.reduceBEq, decide_true, decide_false, undef, beq_self_eq_true, bne_self_eq_false, Bool.and_true, Bool.true_and, Bool.and_false, Bool.false_and, Bool.or_true, Bool.true_or, Bool.or_false, Bool.false_or]
    refine ACallL.quiet1 h31 rfl rfl rfl ?_
    cases hF : fineB f
    · simp only [go_sem, Nat.reduceEqDiff, Nat.reduceAdd, Nat.reduceSub, Nat.reduceMul, Nat.reduceLT, Nat.reduceLeDiff, Nat.reduceMod, Nat.reduceDiv, Int.reduceToNat, Int.reduceLT, Int.reduceLE, Bool.not_true, Bool.not_false, reduceIte, Int.reduceEq, Int.reduceBEq, Int.reduceBNe, Int.reduceGT, Int.reduceGE, Int.reduceNeg, Int.reduceAdd, Int.reduceSub, Nat.reduceBEq, decide_true, decide_false, undef, beq_self_eq_true, bne_self_eq_false, Bool.and_true, Bool.true_and, Bool.and_false, Bool.false_and, Bool.or_true, Bool.true_or, Bool.or_false, Bool.false_or, undef]
      refine ACallL.quiet1 awake_ok rfl rfl rfl ?_
      simp only [go_sem, Nat.reduceEqDiff, Nat.reduceAdd, Nat.reduceSub, Nat.reduceMul, Nat.reduceLT, Nat.reduceLeDiff, Nat.reduceMod, Nat.reduceDiv, Int.reduceToNat, Int.reduceLT, Int.reduceLE, Bool.not_true, Bool.not_false, reduceIte, Int.reduceEq, Int.reduceBEq, Int.reduceBNe, Int.reduceGT, Int.reduceGE, Int.reduceNeg, Int.reduceAdd, Int.reduceSub, Nat.reduceBEq, decide_true, decide_false, undef, beq_self_eq_true, bne_self_eq_false, Bool.and_true, Bool.true_and, Bool.and_false, Bool.false_and, Bool.or_true, Bool.true_or, Bool.or_false, Bool.false_or, undef]
      exact finL_ret [] ⟨rfl, rfl, rfl, rfl, _, rfl, res_mk rfl⟩
    obtain ⟨hok, hf⟩ := fine_iff hF
    have hn := hf.nh
    have hns := hf.ns
    simp only [go_sem, Nat.reduceEqDiff, Nat.reduceAdd, Nat.reduceSub, Nat.reduceMul, Nat.reduceLT, Nat.reduceLeDiff, Nat.reduceMod, Nat.reduceDiv, Int.reduceToNat, Int.reduceLT, Int.reduceLE, Bool.not_true, Bool.not_false, reduceIte, Int.reduceEq, Int.reduceBEq, Int.reduceBNe, Int.reduceGT, Int.reduceGE, Int.reduceNeg, Int.reduceAdd, Int.reduceSub, Nat.reduceBEq, decide_true, decide_false, undef, beq_self_eq_true, bne_self_eq_false, Bool.and_true, Bool.true_and, Bool.and_false, Bool.false_and, Bool.or_true, Bool.true_or, Bool.or_false, Bool.false_or, undef, List.length_map]
    cases h0 : ((f.hs.length : Int) == 0)
    rotate_left
    · simp only [go_sem, Nat.reduceEqDiff, Nat.reduceAdd, Nat.reduceSub, Nat.reduceMul, Nat.reduceLT, Nat.reduceLeDiff, Nat.reduceMod, Nat.reduceDiv, Int.reduceToNat, Int.reduceLT, Int.reduceLE, Bool.not_true, Bool.not_false, reduceIte, Int.reduceEq, Int.reduceBEq, Int.reduceBNe, Int.reduceGT, Int.reduceGE, Int.reduceNeg, Int.reduceAdd, Int.reduceSub, Nat.reduceBEq, decide_true, decide_false, undef, beq_self_eq_true, bne_self_eq_false, Bool.and_true, Bool.true_and, Bool.and_false, Bool.false_and, Bool.or_true, Bool.true_or, Bool.or_false, Bool.false_or, undef, List.length_map, h0]
      refine ACallL.quiet1 awake_ok rfl rfl rfl ?_
      simp only [go_sem, Nat.reduceEqDiff, Nat.reduceAdd, Nat.reduceSub, Nat.reduceMul, Nat.reduceLT, Nat.reduceLeDiff, Nat.reduceMod, Nat.reduceDiv, Int.reduceToNat, Int.reduceLT, Int.reduceLE, Bool.not_true, Bool.not_false, reduceIte, Int.reduceEq, Int.reduceBEq, Int.reduceBNe, Int.reduceGT, Int.reduceGE, Int.reduceNeg, Int.reduceAdd, Int.reduceSub, Nat.reduceBEq, decide_true, decide_false, undef, beq_self_eq_true, bne_self_eq_false, Bool.and_true, Bool.true_and, Bool.and_false, Bool.false_and, Bool.or_true, Bool.true_or, Bool.or_false, Bool.false_or, undef]
      exact finL_ret [] ⟨rfl, rfl, rfl, rfl, _, rfl, res_mk rfl⟩
    have n0 : ¬ ((f.hs.length : Int) = 0) := by simpa using h0
    have ha : u % f.hs.length < f.hs.length := Nat.mod_lt _ (by omega)
    have t1 := mod_nat u f.hs.length
    have w0 : IntKind.i64.wrap (u : Int) = u := wrap_id (by omega) (by omega)
    generalize u % f.hs.length = i at *
    have hrow : (f.ss.map tSn).map E.t ++ [E.t (.agg [vi i, vb up])] = ((f.ss ++ [(⟨(i : Int), up⟩ : Sn)]).map tSn).map E.t := by simp [tSn]
    simp only [go_sem, Nat.reduceEqDiff, Nat.reduceAdd, Nat.reduceSub, Nat.reduceMul, Nat.reduceLT, Nat.reduceLeDiff, Nat.reduceMod, Nat.reduceDiv, Int.reduceToNat, Int.reduceLT, Int.reduceLE, Bool.not_true, Bool.not_false, reduceIte, Int.reduceEq, Int.reduceBEq, Int.reduceBNe, Int.reduceGT, Int.reduceGE, Int.reduceNeg, Int.reduceAdd, Int.reduceSub, Nat.reduceBEq, decide_true, decide_false, undef, beq_self_eq_true, bne_self_eq_false, Bool.and_true, Bool.true_and, Bool.and_false, Bool.false_and, Bool.or_true, Bool.true_or, Bool.or_false, Bool.false_or, undef, List.length_map, h0, n0, t1, w0]
    refine AndL.mk ?_ ?_
    · simp only [go_sem, Nat.reduceEqDiff, Nat.reduceAdd, Nat.reduceSub, Nat.reduceMul, Nat.reduceLT, Nat.reduceLeDiff, Nat.reduceMod, Nat.reduceDiv, Int.reduceToNat, Int.reduceLT, Int.reduceLE, Bool.not_true, Bool.not_false, reduceIte, Int.reduceEq, Int.reduceBEq, Int.reduceBNe, Int.reduceGT, Int.reduceGE, Int.reduceNeg, Int.reduceAdd, Int.reduceSub, Nat.reduceBEq, decide_true, decide_false, undef, beq_self_eq_true, bne_self_eq_false, Bool.and_true, Bool.true_and, Bool.and_false, Bool.false_and, Bool.or_true, Bool.true_or, Bool.or_false, Bool.false_or, undef]
      refine awpL_gcpE [0, 1, 2] [2, 3, 4, 9, 10, 11] { env := [(2, .t (.lit (.int .u8 w))), (3, .t (vb up)), (4, .ptr 0 0), (9, .t (vi i)), (10, .ptr 1 0), (11, .ptr 2 0)], σ := [cF2 f, cF2 f, cF2 f] } rfl rfl rfl ?_
      simp only [cF2, fl5, go_sem, Nat.reduceEqDiff, Nat.reduceAdd, Nat.reduceSub, Nat.reduceMul, Nat.reduceLT, Nat.reduceLeDiff, Nat.reduceMod, Nat.reduceDiv, Int.reduceToNat, Int.reduceLT, Int.reduceLE, Bool.not_true, Bool.not_false, reduceIte, Int.reduceEq, Int.reduceBEq, Int.reduceBNe, Int.reduceGT, Int.reduceGE, Int.reduceNeg, Int.reduceAdd, Int.reduceSub, Nat.reduceBEq, decide_true, decide_false, undef, beq_self_eq_true, bne_self_eq_false, Bool.and_true, Bool.true_and, Bool.and_false, Bool.false_and, Bool.or_true, Bool.true_or, Bool.or_false, Bool.false_or, undef, List.length_map]
      refine ⟨⟨by unfold maxLen; omega, by omega⟩, ?_⟩
      refine ACallL.quiet1 (seen_ok _ _) rfl rfl rfl ?_
      simp only [go_sem, Nat.reduceEqDiff, Nat.reduceAdd, Nat.reduceSub, Nat.reduceMul, Nat.reduceLT, Nat.reduceLeDiff, Nat.reduceMod, Nat.reduceDiv, Int.reduceToNat, Int.reduceLT, Int.reduceLE, Bool.not_true, Bool.not_false, reduceIte, Int.reduceEq, Int.reduceBEq, Int.reduceBNe, Int.reduceGT, Int.reduceGE, Int.reduceNeg, Int.reduceAdd, Int.reduceSub, Nat.reduceBEq, decide_true, decide_false, undef, beq_self_eq_true, bne_self_eq_false, Bool.and_true, Bool.true_and, Bool.and_false, Bool.false_and, Bool.or_true, Bool.true_or, Bool.or_false, Bool.false_or, undef, List.length_map]
      refine ⟨⟨by unfold maxLen; omega, by omega⟩, ?_⟩
      simp only [hrow]
      exact ⟨hf, i, ha, rfl, rfl, rfl, rfl, rfl, ⟨_, rfl⟩, rfl, rfl⟩
    · simp only [go_sem, Nat.reduceEqDiff, Nat.reduceAdd, Nat.reduceSub, Nat.reduceMul, Nat.reduceLT, Nat.reduceLeDiff, Nat.reduceMod, Nat.reduceDiv, Int.reduceToNat, Int.reduceLT, Int.reduceLE, Bool.not_true, Bool.not_false, reduceIte, Int.reduceEq, Int.reduceBEq, Int.reduceBNe, Int.reduceGT, Int.reduceGE, Int.reduceNeg, Int.reduceAdd, Int.reduceSub, Nat.reduceBEq, decide_true, decide_false, undef, beq_self_eq_true, bne_self_eq_false, Bool.and_true, Bool.true_and, Bool.and_false, Bool.false_and, Bool.or_true, Bool.true_or, Bool.or_false, Bool.false_or, undef]
      refine awpL_gcpE [0, 2, 1] [2, 3, 4, 9, 10, 11] { env := [(2, .t (.lit (.int .u8 w))), (3, .t (vb up)), (4, .ptr 0 0), (9, .t (vi i)), (10, .ptr 1 0), (11, .ptr 2 0)], σ := [cF2 f, cF2 f, cF2 f] } rfl rfl rfl ?_
      simp only [cF2, fl5, go_sem, Nat.reduceEqDiff, Nat.reduceAdd, Nat.reduceSub, Nat.reduceMul, Nat.reduceLT, Nat.reduceLeDiff, Nat.reduceMod, Nat.reduceDiv, Int.reduceToNat, Int.reduceLT, Int.reduceLE, Bool.not_true, Bool.not_false, reduceIte, Int.reduceEq, Int.reduceBEq, Int.reduceBNe, Int.reduceGT, Int.reduceGE, Int.reduceNeg, Int.reduceAdd, Int.reduceSub, Nat.reduceBEq, decide_true, decide_false, undef, beq_self_eq_true, bne_self_eq_false, Bool.and_true, Bool.true_and, Bool.and_false, Bool.false_and, Bool.or_true, Bool.true_or, Bool.or_false, Bool.false_or, undef, List.length_map]
      refine ⟨⟨by unfold maxLen; omega, by omega⟩, ?_⟩
      refine ACallL.quiet1 (seen_ok _ _) rfl rfl rfl ?_
      simp only [go_sem, Nat.reduceEqDiff, Nat.reduceAdd, Nat.reduceSub, Nat.reduceMul, Nat.reduceLT, Nat.reduceLeDiff, Nat.reduceMod, Nat.reduceDiv, Int.reduceToNat, Int.reduceLT, Int.reduceLE, Bool.not_true, Bool.not_false, reduceIte, Int.reduceEq, Int.reduceBEq, Int.reduceBNe, Int.reduceGT, Int.reduceGE, Int.reduceNeg, Int.reduceAdd, Int.reduceSub, Nat.reduceBEq, decide_true, decide_false, undef, beq_self_eq_true, bne_self_eq_false, Bool.and_true, Bool.true_and, Bool.and_false, Bool.false_and, Bool.or_true, Bool.true_or, Bool.or_false, Bool.false_or, undef, List.length_map]
      refine ⟨⟨by unfold maxLen; omega, by omega⟩, ?_⟩
      simp only [hrow]
      exact ⟨hf, i, ha, rfl, rfl, rfl, rfl, rfl, ⟨_, rfl⟩, rfl, rfl⟩
  rintro ⟨env, σ, df, k⟩ ⟨hf, i, hi, q2, q4, q9, q10, q11, ⟨A, hσ⟩, hdf, hk⟩
  simp only at q2 q4 q9 q10 q11 hσ hdf hk
  subst hσ hdf hk
  have hn := hf.nh
  have hns := hf.ns
  have hg : f.hs[i]? = some f.hs[i] := List.getElem?_eq_getElem hi
  have hhr := hf.hs _ (List.getElem_mem hi)
  refine awpL_chop 2 (c1 := ?b1) (c2 := ?b2) (MoMid2 f i w up) ?hc2 ?_ ?_
  case hc2 => simp only [chop]; rfl
  · have hset : ∀ x : Hr, ((f.hs.map tHr).map E.t).set i (E.t (.agg [vi x.lo, vi x.hi, vi x.th])) = ((f.hs.set i x).map tHr).map E.t := fun x => by
      rw [List.map_set, List.map_set]; rfl
    have hil : (i : Int) < (f.hs.length : Int) := by omega
    have tm4 : (w : Int).tmod 4 = ((w % 4 : Nat) : Int) := mod_nat w 4
    generalize hx : f.hs[i] = x at *
    have w1 : IntKind.i64.wrap (x.lo + 1) = x.lo + 1 := wrap_id (by omega) (by omega)
    have w2 : IntKind.i64.wrap (x.hi - 1) = x.hi - 1 := wrap_id (by omega) (by omega)
    have tm2 : x.th.tmod 2 = x.th % 2 := Int.tmod_eq_emod_of_nonneg hhr.2.2.2.1
    have w3 : IntKind.i64.wrap (x.th - x.th % 2) = x.th - x.th % 2 := wrap_id (by omega) (by omega)
    have w4 : IntKind.i64.wrap (x.th + x.th % 2) = x.th + x.th % 2 := wrap_id (by omega) (by omega)
    have hm := hset (moreH w x)
    have hlt4 : w % 4 = 0 ∨ w % 4 = 1 ∨ w % 4 = 2 ∨ w % 4 = 3 := by omega
    simp only [cF2, fl5, go_sem, Nat.reduceEqDiff, Nat.reduceAdd, Nat.reduceSub, Nat.reduceMul, Nat.reduceLT, Nat.reduceLeDiff, Nat.reduceMod, Nat.reduceDiv, Int.reduceToNat, Int.reduceLT, Int.reduceLE, Bool.not_true, Bool.not_false, reduceIte, Int.reduceEq, Int.reduceBEq, Int.reduceBNe, Int.reduceGT, Int.reduceGE, Int.reduceNeg, Int.reduceAdd, Int.reduceSub, Nat.reduceBEq, decide_true, decide_false, undef, beq_self_eq_true, bne_self_eq_false, Bool.and_true, Bool.true_and, Bool.and_false, Bool.false_and, Bool.or_true, Bool.true_or, Bool.or_false, Bool.false_or, undef, List.length_map, q2, q4, q9, q10, q11]
    refine ⟨⟨by unfold maxLen; omega, by omega⟩, hil, ?_⟩
    rcases hlt4 with e | e | e | e
    · have em : moreH w x = ⟨min x.hi (x.lo + 1), x.hi, x.th⟩ := by unfold moreH; simp [e]
      rw [em] at hm
      simp only at hm
      have c0 : ((w : Int).tmod 4 == 0) = true := by rw [tm4, e]; rfl
      simp only [c0, cF2, fl5, go_sem, Nat.reduceEqDiff, Nat.reduceAdd, Nat.reduceSub, Nat.reduceMul, Nat.reduceLT, Nat.reduceLeDiff, Nat.reduceMod, Nat.reduceDiv, Int.reduceToNat, Int.reduceLT, Int.reduceLE, Bool.not_true, Bool.not_false, reduceIte, Int.reduceEq, Int.reduceBEq, Int.reduceBNe, Int.reduceGT, Int.reduceGE, Int.reduceNeg, Int.reduceAdd, Int.reduceSub, Nat.reduceBEq, decide_true, decide_false, undef, beq_self_eq_true, bne_self_eq_false, Bool.and_true, Bool.true_and, Bool.and_false, Bool.false_and, Bool.or_true, Bool.true_or, Bool.or_false, Bool.false_or, undef, List.length_map, q2, q4, q9, q10, q11, List.getElem?_map, hg, tHr, Option.map_some, w1, w2, w3, w4, tm2, hm, List.length_set]
      exact ⟨x, hg, q4, q9, q10, q11, ⟨A, by rw [em]; rfl⟩, rfl, rfl⟩
    · have em : moreH w x = ⟨x.lo, max x.lo (x.hi - 1), x.th⟩ := by unfold moreH; simp [e]
      rw [em] at hm
      simp only at hm
      have c0 : ((w : Int).tmod 4 == 0) = false := by rw [tm4, e]; rfl
      have c1 : ((w : Int).tmod 4 == 1) = true := by rw [tm4, e]; rfl
      simp only [c0, c1, cF2, fl5, go_sem, Nat.reduceEqDiff, Nat.reduceAdd, Nat.reduceSub, Nat.reduceMul, Nat.reduceLT, Nat.reduceLeDiff, Nat.reduceMod, Nat.reduceDiv, Int.reduceToNat, Int.reduceLT, Int.reduceLE, Bool.not_true, Bool.not_false, reduceIte, Int.reduceEq, Int.reduceBEq, Int.reduceBNe, Int.reduceGT, Int.reduceGE, Int.reduceNeg, Int.reduceAdd, Int.reduceSub, Nat.reduceBEq, decide_true, decide_false, undef, beq_self_eq_true, bne_self_eq_false, Bool.and_true, Bool.true_and, Bool.and_false, Bool.false_and, Bool.or_true, Bool.true_or, Bool.or_false, Bool.false_or, undef, List.length_map, q2, q4, q9, q10, q11, List.getElem?_map, hg, tHr, Option.map_some, w1, w2, w3, w4, tm2, hm, List.length_set]
      exact ⟨x, hg, q4, q9, q10, q11, ⟨A, by rw [em]; rfl⟩, rfl, rfl⟩
    · have em : moreH w x = ⟨x.lo, x.hi, x.th - x.th % 2⟩ := by unfold moreH; simp [e]
      rw [em] at hm
      simp only at hm
      have c0 : ((w : Int).tmod 4 == 0) = false := by rw [tm4, e]; rfl
      have c1 : ((w : Int).tmod 4 == 1) = false := by rw [tm4, e]; rfl
      have c2 : ((w : Int).tmod 4 == 2) = true := by rw [tm4, e]; rfl
      simp only [c0, c1, c2, cF2, fl5, go_sem, Nat.reduceEqDiff, Nat.reduceAdd, Nat.reduceSub, Nat.reduceMul, Nat.reduceLT, Nat.reduceLeDiff, Nat.reduceMod, Nat.reduceDiv, Int.reduceToNat, Int.reduceLT, Int.reduceLE, Bool.not_true, Bool.not_false, reduceIte, Int.reduceEq, Int.reduceBEq, Int.reduceBNe, Int.reduceGT, Int.reduceGE, Int.reduceNeg, Int.reduceAdd, Int.reduceSub, Nat.reduceBEq, decide_true, decide_false, undef, beq_self_eq_true, bne_self_eq_false, Bool.and_true, Bool.true_and, Bool.and_false, Bool.false_and, Bool.or_true, Bool.true_or, Bool.or_false, Bool.false_or, undef, List.length_map, q2, q4, q9, q10, q11, List.getElem?_map, hg, tHr, Option.map_some, w1, w2, w3, w4, tm2, hm, List.length_set]
      exact ⟨x, hg, q4, q9, q10, q11, ⟨A, by rw [em]; rfl⟩, rfl, rfl⟩
    · have em : moreH w x = ⟨x.lo, x.hi, x.th + x.th % 2⟩ := by unfold moreH; simp [e]
      rw [em] at hm
      simp only at hm
      have c0 : ((w : Int).tmod 4 == 0) = false := by rw [tm4, e]; rfl
      have c1 : ((w : Int).tmod 4 == 1) = false := by rw [tm4, e]; rfl
      have c2 : ((w : Int).tmod 4 == 2) = false := by rw [tm4, e]; rfl
      simp only [c0, c1, c2, cF2, fl5, go_sem, Nat.reduceEqDiff, Nat.reduceAdd, Nat.reduceSub, Nat.reduceMul, Nat.reduceLT, Nat.reduceLeDiff, Nat.reduceMod, Nat.reduceDiv, Int.reduceToNat, Int.reduceLT, Int.reduceLE, Bool.not_true, Bool.not_false, reduceIte, Int.reduceEq, Int.reduceBEq, Int.reduceBNe, Int.reduceGT, Int.reduceGE, Int.reduceNeg, Int.reduceAdd, Int.reduceSub, Nat.reduceBEq, decide_true, decide_false, undef, beq_self_eq_true, bne_self_eq_false, Bool.and_true, Bool.true_and, Bool.and_false, Bool.false_and, Bool.or_true, Bool.true_or, Bool.or_false, Bool.false_or, undef, List.length_map, q2, q4, q9, q10, q11, List.getElem?_map, hg, tHr, Option.map_some, w1, w2, w3, w4, tm2, hm, List.length_set]
      exact ⟨x, hg, q4, q9, q10, q11, ⟨A, by rw [em]; rfl⟩, rfl, rfl⟩
  rintro ⟨env, σ, df, k⟩ ⟨h, hgh, q4, q9, q10, q11, ⟨A, hσ⟩, hdf, hk⟩
  simp only at q4 q9 q10 q11 hσ hdf hk
  subst hσ hdf hk
  have hhr := hf.hs h ((List.getElem?_eq_some_iff.1 hgh).2 ▸ List.getElem_mem hi)
  obtain ⟨hbet, hok'⟩ := moreH_better w hhr
  obtain ⟨zs, hzs, hze⟩ : ∃ zs : List Fl, (∀ z ∈ zs, Lens z ∧ (z.OK → Narrow f z)) ∧ zs = [withS f (f.ss ++ [(⟨(i : Int), up⟩ : Sn)]), withH f i (moreH w h)] := by
    refine ⟨_, fun z hz => ?_, rfl⟩
    simp only [List.mem_cons, List.not_mem_nil, or_false] at hz
    rcases hz with rfl | rfl
    · refine ⟨⟨hL.1, ?_⟩, narrow_seen _⟩
      have : (withS f (f.ss ++ [(⟨(i : Int), up⟩ : Sn)])).ss.length = f.ss.length + 1 := by simp [withS]
      omega
    · refine ⟨⟨?_, hL.2⟩, narrow_hour hf hgh hbet⟩
      have : (withH f i (moreH w h)).hs.length = f.hs.length := by simp [withH]
      omega
  have h17 := Up_ok f hL
  have h19 := Count_ok f hL
  have h21 := Long_ok f hL
  have h23 := Under_ok f i f.hs.length hL
  have hok := (Fl.ok_iff f).2 hf
  have e2 : specCount f = ((((truths f).length : Nat) : Int), 0) := by simp only [specCount, hok]; rfl
  rw [e2] at h19
  simp only [twoE, oneE, spanE, tSp, fl5] at h17 h19 h21 h23
  refine awpL_chop 4 (c1 := ?d1) (c2 := ?d2) (MoMid3 f i zs) ?hc3 ?_ ?_
  case hc3 => simp only [chop]; rfl
  · simp only [go_sem, Nat.reduceEqDiff, Nat.reduceAdd, Nat.reduceSub, Nat.reduceMul, Nat.reduceLT, Nat.reduceLeDiff, Nat.reduceMod, Nat.reduceDiv, Int.reduceToNat, Int.reduceLT, Int.reduceLE, Bool.not_true, Bool.not_false, reduceIte, Int.reduceEq, Int.reduceBEq, Int.reduceBNe, Int.reduceGT, Int.reduceGE, Int.reduceNeg, Int.reduceAdd, Int.reduceSub, Nat.reduceBEq, decide_true, decide_false, undef, beq_self_eq_true, bne_self_eq_false, Bool.and_true, Bool.true_and, Bool.and_false, Bool.false_and, Bool.or_true, Bool.true_or, Bool.or_false, Bool.false_or]
    refine awpL_gcpE [0] [4, 9, 10, 11] { env := [(4, .ptr 0 0), (9, .t (vi i)), (10, .t (.ptr (.agg (fl5 (withS f (f.ss ++ [(⟨(i : Int), up⟩ : Sn)])))) 0)), (11, .t (.ptr (.agg (fl5 (withH f i (moreH w h)))) 0))], σ := [cF2 f] } ?_ rfl rfl ?_
    · exact St.gc_mk (by
        simp only [List.map_cons, List.map_nil, q4, q9, q10, q11]
        rw [gc_pS _ _ _ _ _ _ _ _ (by simp), gc_pH _ _ _ _ _ _ _ _ _ _ (by simp)]
        rfl) rfl rfl rfl
    simp only [cF2, fl5, go_sem, Nat.reduceEqDiff, Nat.reduceAdd, Nat.reduceSub, Nat.reduceMul, Nat.reduceLT, Nat.reduceLeDiff, Nat.reduceMod, Nat.reduceDiv, Int.reduceToNat, Int.reduceLT, Int.reduceLE, Bool.not_true, Bool.not_false, reduceIte, Int.reduceEq, Int.reduceBEq, Int.reduceBNe, Int.reduceGT, Int.reduceGE, Int.reduceNeg, Int.reduceAdd, Int.reduceSub, Nat.reduceBEq, decide_true, decide_false, undef, beq_self_eq_true, bne_self_eq_false, Bool.and_true, Bool.true_and, Bool.and_false, Bool.false_and, Bool.or_true, Bool.true_or, Bool.or_false, Bool.false_or, undef, List.length_map]
    refine ACallL.quiet1 h17 rfl rfl rfl ?_
    simp only [go_sem, Nat.reduceEqDiff, Nat.reduceAdd, Nat.reduceSub, Nat.reduceMul, Nat.reduceLT, Nat.reduceLeDiff, Nat.reduceMod, Nat.reduceDiv, Int.reduceToNat, Int.reduceLT, Int.reduceLE, Bool.not_true, Bool.not_false, reduceIte, Int.reduceEq, Int.reduceBEq, Int.reduceBNe, Int.reduceGT, Int.reduceGE, Int.reduceNeg, Int.reduceAdd, Int.reduceSub, Nat.reduceBEq, decide_true, decide_false, undef, beq_self_eq_true, bne_self_eq_false, Bool.and_true, Bool.true_and, Bool.and_false, Bool.false_and, Bool.or_true, Bool.true_or, Bool.or_false, Bool.false_or, undef, List.length_map]
    refine ACallL.quiet1 h19 rfl rfl rfl ?_
    simp only [go_sem, Nat.reduceEqDiff, Nat.reduceAdd, Nat.reduceSub, Nat.reduceMul, Nat.reduceLT, Nat.reduceLeDiff, Nat.reduceMod, Nat.reduceDiv, Int.reduceToNat, Int.reduceLT, Int.reduceLE, Bool.not_true, Bool.not_false, reduceIte, Int.reduceEq, Int.reduceBEq, Int.reduceBNe, Int.reduceGT, Int.reduceGE, Int.reduceNeg, Int.reduceAdd, Int.reduceSub, Nat.reduceBEq, decide_true, decide_false, undef, beq_self_eq_true, bne_self_eq_false, Bool.and_true, Bool.true_and, Bool.and_false, Bool.false_and, Bool.or_true, Bool.true_or, Bool.or_false, Bool.false_or, undef, List.length_map]
    refine ACallL.fresh1 h21 rfl ?_
    simp only [go_sem, Nat.reduceEqDiff, Nat.reduceAdd, Nat.reduceSub, Nat.reduceMul, Nat.reduceLT, Nat.reduceLeDiff, Nat.reduceMod, Nat.reduceDiv, Int.reduceToNat, Int.reduceLT, Int.reduceLE, Bool.not_true, Bool.not_false, reduceIte, Int.reduceEq, Int.reduceBEq, Int.reduceBNe, Int.reduceGT, Int.reduceGE, Int.reduceNeg, Int.reduceAdd, Int.reduceSub, Nat.reduceBEq, decide_true, decide_false, undef, beq_self_eq_true, bne_self_eq_false, Bool.and_true, Bool.true_and, Bool.and_false, Bool.false_and, Bool.or_true, Bool.true_or, Bool.or_false, Bool.false_or, undef, List.length_map]
    refine ACallL.quiet1 h23 rfl rfl rfl ?_
    simp only [go_sem, Nat.reduceEqDiff, Nat.reduceAdd, Nat.reduceSub, Nat.reduceMul, Nat.reduceLT, Nat.reduceLeDiff, Nat.reduceMod, Nat.reduceDiv, Int.reduceToNat, Int.reduceLT, Int.reduceLE, Bool.not_true, Bool.not_false, reduceIte, Int.reduceEq, Int.reduceBEq, Int.reduceBNe, Int.reduceGT, Int.reduceGE, Int.reduceNeg, Int.reduceAdd, Int.reduceSub, Nat.reduceBEq, decide_true, decide_false, undef, beq_self_eq_true, bne_self_eq_false, Bool.and_true, Bool.true_and, Bool.and_false, Bool.false_and, Bool.or_true, Bool.true_or, Bool.or_false, Bool.false_or, undef, List.length_map]
    exact ⟨rfl, rfl, ⟨_, _, hze, rfl, rfl⟩, rfl, rfl, rfl, rfl, rfl, rfl, rfl, rfl, rfl, rfl, rfl, rfl⟩
  clear hze q4 q9 q10 q11 h17 h19 h21 h23
  rintro ⟨env, σ, df, k⟩ ⟨q4, q9, ⟨zx, zy, hze, q10, q11⟩, q13, q14, q15, q16, q17, q18, q19, q20, q21, hσ, hdf, hk⟩
  simp only at q4 q9 q10 q11 q13 q14 q15 q16 q17 q18 q19 q20 q21 hσ hdf hk
  subst hσ hdf hk
  have hrow : [E.t (.agg (fl5 zx)), E.t (.agg (fl5 zy))] = zs.map fun z => E.t (.agg (fl5 z)) := by rw [hze]; rfl
  have hzl : zs.length = 2 := by rw [hze]; rfl
  simp only [cF2, fl5, go_sem, Nat.reduceEqDiff, Nat.reduceAdd, Nat.reduceSub, Nat.reduceMul, Nat.reduceLT, Nat.reduceLeDiff, Nat.reduceMod, Nat.reduceDiv, Int.reduceToNat, Int.reduceLT, Int.reduceLE, Bool.not_true, Bool.not_false, reduceIte, Int.reduceEq, Int.reduceBEq, Int.reduceBNe, Int.reduceGT, Int.reduceGE, Int.reduceNeg, Int.reduceAdd, Int.reduceSub, Nat.reduceBEq, decide_true, decide_false, undef, beq_self_eq_true, bne_self_eq_false, Bool.and_true, Bool.true_and, Bool.and_false, Bool.false_and, Bool.or_true, Bool.true_or, Bool.or_false, Bool.false_or, undef, q10, q11]
  refine awpL_for (i := 163) (L := 162) 2 (fun j s => s = { env := [(163, .t (vi j)), (162, .t (vi 2)), (161, .loc 2 2), (4, .ptr 0 0), (9, .t (vi i)), (13, .t (vi (specUp f).1)), (14, .t (vi (specUp f).2.1)), (15, .t (vi (specUp f).2.2)), (16, .t (vi (truths f).length)), (17, .t (vi 0)), (18, .ptr 1 0), (19, .t (vi (specLong f).2)), (20, .t (vi (specUnder f i f.hs.length).1)), (21, .t (vi (specUnder f i f.hs.length).2))], σ := [cF2 f, .cells [.t (vi (specLong f).1.1), .t (vi (specLong f).1.2)], .row 5 (zs.map fun z => E.t (.agg (fl5 z)))] }) ?_ ?_ ?_ ?_
  · rintro k s rfl; exact ⟨rfl, rfl⟩
  · refine ⟨_, Sub.gc [0, 1, 2] [163, 162, 161, 4, 9, 13, 14, 15, 16, 17, 18, 19, 20, 21] rfl rfl, ?_⟩
    rw [← hrow]
    exact St.gc_mk (by simp only [List.map_cons, List.map_nil, lk, Nat.reduceEqDiff, reduceIte, q4, q9, q13, q14, q15, q16, q17, q18, q19, q20, q21]; rfl) rfl rfl rfl
  · rintro j s hj rfl
    have hgz : zs[j]? = some zs[j] := List.getElem?_eq_getElem (by omega)
    obtain ⟨hLz, hNz⟩ := hzs _ (List.getElem_mem (show j < zs.length by omega))
    generalize zs[j] = z at *
    have hw : IntKind.i64.wrap ((j : Int) + 1) = ((j + 1 : Nat) : Int) := by rw [wrap_id (by omega) (by omega)]; omega
    have z31 := fine_ok z hLz
    simp only [fl5] at z31
    have hj2 : (j : Int) < 2 := by omega
    have hin : i < f.hs.length := hi
    simp only [cF2, fl5, go_sem, Nat.reduceEqDiff, Nat.reduceAdd, Nat.reduceSub, Nat.reduceMul, Nat.reduceLT, Nat.reduceLeDiff, Nat.reduceMod, Nat.reduceDiv, Int.reduceToNat, Int.reduceLT, Int.reduceLE, Bool.not_true, Bool.not_false, reduceIte, Int.reduceEq, Int.reduceBEq, Int.reduceBNe, Int.reduceGT, Int.reduceGE, Int.reduceNeg, Int.reduceAdd, Int.reduceSub, Nat.reduceBEq, decide_true, decide_false, undef, beq_self_eq_true, bne_self_eq_false, Bool.and_true, Bool.true_and, Bool.and_false, Bool.false_and, Bool.or_true, Bool.true_or, Bool.or_false, Bool.false_or, undef, List.length_map, hzl]
    refine ⟨hj2, ?_⟩
    simp only [cF2, fl5, go_sem, Nat.reduceEqDiff, Nat.reduceAdd, Nat.reduceSub, Nat.reduceMul, Nat.reduceLT, Nat.reduceLeDiff, Nat.reduceMod, Nat.reduceDiv, Int.reduceToNat, Int.reduceLT, Int.reduceLE, Bool.not_true, Bool.not_false, reduceIte, Int.reduceEq, Int.reduceBEq, Int.reduceBNe, Int.reduceGT, Int.reduceGE, Int.reduceNeg, Int.reduceAdd, Int.reduceSub, Nat.reduceBEq, decide_true, decide_false, undef, beq_self_eq_true, bne_self_eq_false, Bool.and_true, Bool.true_and, Bool.and_false, Bool.false_and, Bool.or_true, Bool.true_or, Bool.or_false, Bool.false_or, undef, List.length_map, hzl, List.getElem?_map, hgz, Option.map_some]
    refine ACallL.quiet1 z31 rfl rfl rfl ?_
    cases hFz : fineB z
    · simp only [go_sem, Nat.reduceEqDiff, Nat.reduceAdd, Nat.reduceSub, Nat.reduceMul, Nat.reduceLT, Nat.reduceLeDiff, Nat.reduceMod, Nat.reduceDiv, Int.reduceToNat, Int.reduceLT, Int.reduceLE, Bool.not_true, Bool.not_false, reduceIte, Int.reduceEq, Int.reduceBEq, Int.reduceBNe, Int.reduceGT, Int.reduceGE, Int.reduceNeg, Int.reduceAdd, Int.reduceSub, Nat.reduceBEq, decide_true, decide_false, undef, beq_self_eq_true, bne_self_eq_false, Bool.and_true, Bool.true_and, Bool.and_false, Bool.false_and, Bool.or_true, Bool.true_or, Bool.or_false, Bool.false_or, undef, hFz, hw]
      exact ⟨_, Sub.gc [0, 1, 2] [163, 162, 161, 4, 9, 13, 14, 15, 16, 17, 18, 19, 20, 21] rfl rfl, St.gc_mk rfl (by
          show [cF2 f, AO.cells _, AO.row 5 ((zs.map _).map (E.gc _ _ _))] = _
          rw [List.map_map]
          rfl) rfl rfl⟩
    obtain ⟨hokz, hz⟩ := fine_iff hFz
    have N := hNz hz
    have z17 := Up_ok z hLz
    have z19 := Count_ok z hLz
    have z21 := Long_ok z hLz
    have z23 := Under_ok z i f.hs.length hLz
    have e3 : specCount z = ((((truths z).length : Nat) : Int), 0) := by simp only [specCount, hokz]; rfl
    have hlen : (truths z).length ≤ (truths f).length := N.t.length_le
    have c1 : decide (((truths z).length : Int) > ((truths f).length : Int)) = false := by simp; omega
    have hnz := noT_len z
    rw [e3] at z19
    have hRz : z.isR i f.hs.length = true := isR_nat hin (by rw [N.n]; exact Nat.le_refl _)
    simp only [go_sem, Nat.reduceEqDiff, Nat.reduceAdd, Nat.reduceSub, Nat.reduceMul, Nat.reduceLT, Nat.reduceLeDiff, Nat.reduceMod, Nat.reduceDiv, Int.reduceToNat, Int.reduceLT, Int.reduceLE, Bool.not_true, Bool.not_false, reduceIte, Int.reduceEq, Int.reduceBEq, Int.reduceBNe, Int.reduceGT, Int.reduceGE, Int.reduceNeg, Int.reduceAdd, Int.reduceSub, Nat.reduceBEq, decide_true, decide_false, undef, beq_self_eq_true, bne_self_eq_false, Bool.and_true, Bool.true_and, Bool.and_false, Bool.false_and, Bool.or_true, Bool.true_or, Bool.or_false, Bool.false_or, undef, hFz]
    cases hTz : noT z
    · have hTf := N.noT hTz
      rw [hTz] at hnz
      have hnn := N.n
      have hn9 := hf.nh
      have hmS := N.maskS
      have hmP := N.maskP
      obtain ⟨s0, hs0⟩ := hullU_some hTf 0 f.hs.length
      obtain ⟨t0, ht0⟩ := hullU_some hTz 0 f.hs.length
      obtain ⟨hlo, hhi⟩ := N.hull hs0 ht0
      obtain ⟨uf, uz, eu, ev, huv⟩ := N.under hf hTz hin (Nat.le_refl _)
      have eF1 : specUp f = (((maskOf (sure f) f.hs.length : Nat) : Int), ((maskOf (perh f) f.hs.length : Nat) : Int), 0) := by simp only [specUp, hok, hTf]; rfl
      have eF2 : specLong f = (s0, 0) := by simp only [specLong, hok, hs0]; rfl
      have eZ1 : specUp z = (((maskOf (sure z) z.hs.length : Nat) : Int), ((maskOf (perh z) z.hs.length : Nat) : Int), 0) := by simp only [specUp, hokz, hTz]; rfl
      have eZ2 : specLong z = (t0, 0) := by simp only [specLong, hokz, hnn, ht0]; rfl
      have l1 := maskOf_lt (sure f) f.hs.length
      have l2 := maskOf_lt (perh f) f.hs.length
      have l3 := maskOf_lt (sure z) z.hs.length
      have l4 := maskOf_lt (perh z) z.hs.length
      rw [hnn] at l3 l4 hmS hmP eZ1
      have hp : 2 ^ f.hs.length ≤ 512 := Nat.pow_le_pow_right (n := 2) (by decide) hn9
      have a1 := bits_andNot (a := maskOf (sure f) f.hs.length) (b := maskOf (sure z) f.hs.length) (by omega) (by omega)
      have a2 := bits_andNot (a := maskOf (perh z) f.hs.length) (b := maskOf (perh f) f.hs.length) (by omega) (by omega)
      rw [hmS] at a1
      rw [hmP] at a2
      have d1 : decide (t0.1 < s0.1) = false := by simp; omega
      have d2 : decide (t0.2 > s0.2) = false := by simp; omega
      rw [eZ1] at z17
      rw [eZ2] at z21
      rw [ev] at z23
      simp only [twoE, oneE, spanE, tSp, fl5] at z17 z19 z21 z23
      refine ACallL.quiet1 z17 rfl rfl rfl ?_
      simp only [go_sem, Nat.reduceEqDiff, Nat.reduceAdd, Nat.reduceSub, Nat.reduceMul, Nat.reduceLT, Nat.reduceLeDiff, Nat.reduceMod, Nat.reduceDiv, Int.reduceToNat, Int.reduceLT, Int.reduceLE, Bool.not_true, Bool.not_false, reduceIte, Int.reduceEq, Int.reduceBEq, Int.reduceBNe, Int.reduceGT, Int.reduceGE, Int.reduceNeg, Int.reduceAdd, Int.reduceSub, Nat.reduceBEq, decide_true, decide_false, undef, beq_self_eq_true, bne_self_eq_false, Bool.and_true, Bool.true_and, Bool.and_false, Bool.false_and, Bool.or_true, Bool.true_or, Bool.or_false, Bool.false_or, undef, List.length_map]
      refine ACallL.quiet1 z19 rfl rfl rfl ?_
      simp only [go_sem, Nat.reduceEqDiff, Nat.reduceAdd, Nat.reduceSub, Nat.reduceMul, Nat.reduceLT, Nat.reduceLeDiff, Nat.reduceMod, Nat.reduceDiv, Int.reduceToNat, Int.reduceLT, Int.reduceLE, Bool.not_true, Bool.not_false, reduceIte, Int.reduceEq, Int.reduceBEq, Int.reduceBNe, Int.reduceGT, Int.reduceGE, Int.reduceNeg, Int.reduceAdd, Int.reduceSub, Nat.reduceBEq, decide_true, decide_false, undef, beq_self_eq_true, bne_self_eq_false, Bool.and_true, Bool.true_and, Bool.and_false, Bool.false_and, Bool.or_true, Bool.true_or, Bool.or_false, Bool.false_or, undef, List.length_map]
      refine ACallL.fresh1 z21 rfl ?_
      simp only [go_sem, Nat.reduceEqDiff, Nat.reduceAdd, Nat.reduceSub, Nat.reduceMul, Nat.reduceLT, Nat.reduceLeDiff, Nat.reduceMod, Nat.reduceDiv, Int.reduceToNat, Int.reduceLT, Int.reduceLE, Bool.not_true, Bool.not_false, reduceIte, Int.reduceEq, Int.reduceBEq, Int.reduceBNe, Int.reduceGT, Int.reduceGE, Int.reduceNeg, Int.reduceAdd, Int.reduceSub, Nat.reduceBEq, decide_true, decide_false, undef, beq_self_eq_true, bne_self_eq_false, Bool.and_true, Bool.true_and, Bool.and_false, Bool.false_and, Bool.or_true, Bool.true_or, Bool.or_false, Bool.false_or, undef, List.length_map]
      refine ACallL.quiet1 z23 rfl rfl rfl ?_
      cases hc : (uf != 1)
      · simp only [go_sem, Nat.reduceEqDiff, Nat.reduceAdd, Nat.reduceSub, Nat.reduceMul, Nat.reduceLT, Nat.reduceLeDiff, Nat.reduceMod, Nat.reduceDiv, Int.reduceToNat, Int.reduceLT, Int.reduceLE, Bool.not_true, Bool.not_false, reduceIte, Int.reduceEq, Int.reduceBEq, Int.reduceBNe, Int.reduceGT, Int.reduceGE, Int.reduceNeg, Int.reduceAdd, Int.reduceSub, Nat.reduceBEq, decide_true, decide_false, undef, beq_self_eq_true, bne_self_eq_false, Bool.and_true, Bool.true_and, Bool.and_false, Bool.false_and, Bool.or_true, Bool.true_or, Bool.or_false, Bool.false_or, undef, hnz, c1, a1, a2, d1, d2, hc, Int.natCast_zero, hw, eF1, eF2, eu]
        exact ⟨_, Sub.gc [0, 1, 2] [163, 162, 161, 4, 9, 13, 14, 15, 16, 17, 18, 19, 20, 21] rfl rfl, St.gc_mk rfl (by
          show [cF2 f, AO.cells _, AO.row 5 ((zs.map _).map (E.gc _ _ _))] = _
          rw [List.map_map]
          rfl) rfl rfl⟩
      · have hv : (uz != uf) = false := by rw [hc] at huv; simpa using huv
        simp only [go_sem, Nat.reduceEqDiff, Nat.reduceAdd, Nat.reduceSub, Nat.reduceMul, Nat.reduceLT, Nat.reduceLeDiff, Nat.reduceMod, Nat.reduceDiv, Int.reduceToNat, Int.reduceLT, Int.reduceLE, Bool.not_true, Bool.not_false, reduceIte, Int.reduceEq, Int.reduceBEq, Int.reduceBNe, Int.reduceGT, Int.reduceGE, Int.reduceNeg, Int.reduceAdd, Int.reduceSub, Nat.reduceBEq, decide_true, decide_false, undef, beq_self_eq_true, bne_self_eq_false, Bool.and_true, Bool.true_and, Bool.and_false, Bool.false_and, Bool.or_true, Bool.true_or, Bool.or_false, Bool.false_or, undef, hnz, c1, a1, a2, d1, d2, hc, hv, Int.natCast_zero, hw, eF1, eF2, eu]
        exact ⟨_, Sub.gc [0, 1, 2] [163, 162, 161, 4, 9, 13, 14, 15, 16, 17, 18, 19, 20, 21] rfl rfl, St.gc_mk rfl (by
          show [cF2 f, AO.cells _, AO.row 5 ((zs.map _).map (E.gc _ _ _))] = _
          rw [List.map_map]
          rfl) rfl rfl⟩
    · have eZ1 : specUp z = (0, 0, 10) := by simp only [specUp, hokz, hTz]; rfl
      have eZ2 : specLong z = ((0, 0), 10) := by simp only [specLong, hokz, hullU_no hTz]; rfl
      have eZ3 : specUnder z i f.hs.length = (0, 10) := by simp only [specUnder, hokz, hRz, hullU_no hTz]; rfl
      rw [hTz] at hnz
      rw [eZ1] at z17
      rw [eZ2] at z21
      rw [eZ3] at z23
      simp only [twoE, oneE, spanE, tSp, fl5] at z17 z19 z21 z23
      refine ACallL.quiet1 z17 rfl rfl rfl ?_
      simp only [go_sem, Nat.reduceEqDiff, Nat.reduceAdd, Nat.reduceSub, Nat.reduceMul, Nat.reduceLT, Nat.reduceLeDiff, Nat.reduceMod, Nat.reduceDiv, Int.reduceToNat, Int.reduceLT, Int.reduceLE, Bool.not_true, Bool.not_false, reduceIte, Int.reduceEq, Int.reduceBEq, Int.reduceBNe, Int.reduceGT, Int.reduceGE, Int.reduceNeg, Int.reduceAdd, Int.reduceSub, Nat.reduceBEq, decide_true, decide_false, undef, beq_self_eq_true, bne_self_eq_false, Bool.and_true, Bool.true_and, Bool.and_false, Bool.false_and, Bool.or_true, Bool.true_or, Bool.or_false, Bool.false_or, undef, List.length_map]
      refine ACallL.quiet1 z19 rfl rfl rfl ?_
      simp only [go_sem, Nat.reduceEqDiff, Nat.reduceAdd, Nat.reduceSub, Nat.reduceMul, Nat.reduceLT, Nat.reduceLeDiff, Nat.reduceMod, Nat.reduceDiv, Int.reduceToNat, Int.reduceLT, Int.reduceLE, Bool.not_true, Bool.not_false, reduceIte, Int.reduceEq, Int.reduceBEq, Int.reduceBNe, Int.reduceGT, Int.reduceGE, Int.reduceNeg, Int.reduceAdd, Int.reduceSub, Nat.reduceBEq, decide_true, decide_false, undef, beq_self_eq_true, bne_self_eq_false, Bool.and_true, Bool.true_and, Bool.and_false, Bool.false_and, Bool.or_true, Bool.true_or, Bool.or_false, Bool.false_or, undef, List.length_map]
      refine ACallL.fresh1 z21 rfl ?_
      simp only [go_sem, Nat.reduceEqDiff, Nat.reduceAdd, Nat.reduceSub, Nat.reduceMul, Nat.reduceLT, Nat.reduceLeDiff, Nat.reduceMod, Nat.reduceDiv, Int.reduceToNat, Int.reduceLT, Int.reduceLE, Bool.not_true, Bool.not_false, reduceIte, Int.reduceEq, Int.reduceBEq, Int.reduceBNe, Int.reduceGT, Int.reduceGE, Int.reduceNeg, Int.reduceAdd, Int.reduceSub, Nat.reduceBEq, decide_true, decide_false, undef, beq_self_eq_true, bne_self_eq_false, Bool.and_true, Bool.true_and, Bool.and_false, Bool.false_and, Bool.or_true, Bool.true_or, Bool.or_false, Bool.false_or, undef, List.length_map]
      refine ACallL.quiet1 z23 rfl rfl rfl ?_
      simp only [go_sem, Nat.reduceEqDiff, Nat.reduceAdd, Nat.reduceSub, Nat.reduceMul, Nat.reduceLT, Nat.reduceLeDiff, Nat.reduceMod, Nat.reduceDiv, Int.reduceToNat, Int.reduceLT, Int.reduceLE, Bool.not_true, Bool.not_false, reduceIte, Int.reduceEq, Int.reduceBEq, Int.reduceBNe, Int.reduceGT, Int.reduceGE, Int.reduceNeg, Int.reduceAdd, Int.reduceSub, Nat.reduceBEq, decide_true, decide_false, undef, beq_self_eq_true, bne_self_eq_false, Bool.and_true, Bool.true_and, Bool.and_false, Bool.false_and, Bool.or_true, Bool.true_or, Bool.or_false, Bool.false_or, undef, hnz, c1, hw]
      exact ⟨_, Sub.gc [0, 1, 2] [163, 162, 161, 4, 9, 13, 14, 15, 16, 17, 18, 19, 20, 21] rfl rfl, St.gc_mk rfl (by
          show [cF2 f, AO.cells _, AO.row 5 ((zs.map _).map (E.gc _ _ _))] = _
          rw [List.map_map]
          rfl) rfl rfl⟩
  · rintro s rfl
    simp only [go_sem, Nat.reduceEqDiff, Nat.reduceAdd, Nat.reduceSub, Nat.reduceMul, Nat.reduceLT, Nat.reduceLeDiff, Nat.reduceMod, Nat.reduceDiv, Int.reduceToNat, Int.reduceLT, Int.reduceLE, Bool.not_true, Bool.not_false, reduceIte, Int.reduceEq, Int.reduceBEq, Int.reduceBNe, Int.reduceGT, Int.reduceGE, Int.reduceNeg, Int.reduceAdd, Int.reduceSub, Nat.reduceBEq, decide_true, decide_false, undef, beq_self_eq_true, bne_self_eq_false, Bool.and_true, Bool.true_and, Bool.and_false, Bool.false_and, Bool.or_true, Bool.true_or, Bool.or_false, Bool.false_or, undef]
    refine ACallL.quiet1 awake_ok rfl rfl rfl ?_
    simp only [go_sem, Nat.reduceEqDiff, Nat.reduceAdd, Nat.reduceSub, Nat.reduceMul, Nat.reduceLT, Nat.reduceLeDiff, Nat.reduceMod, Nat.reduceDiv, Int.reduceToNat, Int.reduceLT, Int.reduceLE, Bool.not_true, Bool.not_false, reduceIte, Int.reduceEq, Int.reduceBEq, Int.reduceBNe, Int.reduceGT, Int.reduceGE, Int.reduceNeg, Int.reduceAdd, Int.reduceSub, Nat.reduceBEq, decide_true, decide_false, undef, beq_self_eq_true, bne_self_eq_false, Bool.and_true, Bool.true_and, Bool.and_false, Bool.false_and, Bool.or_true, Bool.true_or, Bool.or_false, Bool.false_or, undef]
    exact finL_ret [] ⟨rfl, rfl, rfl, rfl, _, rfl, res_mk rfl⟩
end Go.Proofs.YtkbjodmpmmnhgaaDoor
