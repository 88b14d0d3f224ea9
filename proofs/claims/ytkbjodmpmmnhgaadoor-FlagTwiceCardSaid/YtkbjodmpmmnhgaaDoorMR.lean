/- Proved here: laws that the statements need (FlC312, FlX4). No conditions but those that each law states. -/
import Derived.Test.YtkbjodmpmmnhgaaDoorFL
import Derived.Test.YtkbjodmpmmnhgaaDoorProg
import Derived.Test.YtkbjodmpmmnhgaaDoorMN

set_option linter.unusedSimpArgs false
set_option linter.unusedVariables false

/- Compiled code of functions, printed by program; each is checked to be the program's. No conditions. -/
namespace Go.Proofs.YtkbjodmpmmnhgaaDoor
open Go Go.Ab
/-- dipworks/dipworkslaw10.FlagTwice -/
def c12 : AC :=
 .seq (.reg [⟨(some 2), none, .box (.tmp 0)⟩,
    ⟨(some 4), none, .mov (.lit (.bool false))⟩])
 (.seq (.seq (.reg [⟨(some 38), none, .load true 5 (.tmp 2)⟩,
     ⟨(some 39), none, .call (.fn 31) [(.tmp 38)]⟩,
     ⟨(some 40), none, .un .not (.tmp 39)⟩])
  (.cond (.tmp 40) (.seq (.reg [⟨(some 41), none, .call (.fn 14) []⟩,
      ⟨(some 4), none, .mov (.tmp 41)⟩])
   (.ret))
    (.skip)))
 (.seq (.draw (.step ⟨(some 42), none, .load true 5 (.tmp 2)⟩ (
    .step ⟨(some 43), none, .load true 5 (.tmp 2)⟩ (
    .ev ⟨(some 5), none, .alloc [(.int .i64 0), (.int .i64 0), (.int .i64 0), (.slice none 0 0), (.slice none 0 0)]⟩ [⟨(some 43), none, .load true 5 (.tmp 2)⟩, ⟨(some 42), none, .load true 5 (.tmp 2)⟩] (
    .ev ⟨(some 6), none, .alloc [(.int .i64 0), (.int .i64 0), (.int .i64 0), (.slice none 0 0), (.slice none 0 0)]⟩ [⟨(some 43), none, .load true 5 (.tmp 2)⟩, ⟨(some 42), none, .load true 5 (.tmp 2)⟩] (
     .ev ⟨none, none, .store 5 (.tmp 5) (.tmp 42)⟩ [⟨(some 43), none, .load true 5 (.tmp 2)⟩] (
      .ev ⟨none, none, .store 5 (.tmp 6) (.tmp 43)⟩ [] (
       .done)
       (.stop))
      (.stop))
     (.stop))
    (.ev ⟨(some 6), none, .alloc [(.int .i64 0), (.int .i64 0), (.int .i64 0), (.slice none 0 0), (.slice none 0 0)]⟩ [⟨(some 43), none, .load true 5 (.tmp 2)⟩, ⟨(some 42), none, .load true 5 (.tmp 2)⟩] (
    .ev ⟨(some 5), none, .alloc [(.int .i64 0), (.int .i64 0), (.int .i64 0), (.slice none 0 0), (.slice none 0 0)]⟩ [⟨(some 43), none, .load true 5 (.tmp 2)⟩, ⟨(some 42), none, .load true 5 (.tmp 2)⟩] (
     .ev ⟨none, none, .store 5 (.tmp 5) (.tmp 42)⟩ [⟨(some 43), none, .load true 5 (.tmp 2)⟩] (
      .ev ⟨none, none, .store 5 (.tmp 6) (.tmp 43)⟩ [] (
       .done)
       (.stop))
      (.stop))
     (.stop))
    (.stop))))))
 (.seq (.seq (.gcp)
  (.reg [⟨(some 44), none, .faddr 4 (.tmp 5)⟩,
    ⟨none, none, .store 1 (.tmp 44) (.lit (.slice none 0 0))⟩]))
 (.seq (.seq (.reg [⟨(some 45), none, .faddr 4 (.tmp 2)⟩,
     ⟨(some 46), none, .load false 1 (.tmp 45)⟩,
     ⟨(some 47), none, .len (.tmp 46)⟩,
     ⟨(some 48), none, .mov (.lit (.int .i64 0))⟩])
  (.block 0 (.loop (.seq (.reg [⟨(some 49), none, .bin .lss (.tmp 48) (.tmp 47)⟩])
   (.seq (.cond (.tmp 49) (.skip)
      (.exit 0))
   (.seq (.block 1 (.seq (.reg [⟨(some 50), none, .mov (.tmp 48)⟩,
       ⟨(some 7), none, .mov (.tmp 50)⟩])
    (.draw (.step ⟨(some 51), none, .faddr 4 (.tmp 5)⟩ (
      .step ⟨(some 52), none, .load false 1 (.tmp 51)⟩ (
      .step ⟨(some 53), none, .faddr 4 (.tmp 2)⟩ (
      .step ⟨(some 54), none, .load false 1 (.tmp 53)⟩ (
      .step ⟨(some 55), none, .faddr 4 (.tmp 2)⟩ (
      .step ⟨(some 56), none, .load false 1 (.tmp 55)⟩ (
      .step ⟨(some 57), none, .len (.tmp 56)⟩ (
      .step ⟨(some 58), none, .bin .sub (.tmp 57) (.lit (.int .i64 1))⟩ (
      .step ⟨(some 59), none, .mov (.tmp 7)⟩ (
      .step ⟨(some 60), none, .bin .sub (.tmp 58) (.tmp 59)⟩ (
      .step ⟨(some 61), none, .iaddr 2 (.tmp 54) (.tmp 60)⟩ (
      .step ⟨(some 62), none, .load true 2 (.tmp 61)⟩ (
      .ev ⟨(some 63), none, .bslice 2 (.agg #[(.int .i64 0), (.bool false)]) 1 [(0, (.tmp 62))]⟩ [⟨(some 61), none, .iaddr 2 (.tmp 54) (.tmp 60)⟩, ⟨(some 57), none, .len (.tmp 56)⟩, ⟨(some 56), none, .load false 1 (.tmp 55)⟩, ⟨(some 55), none, .faddr 4 (.tmp 2)⟩, ⟨(some 54), none, .load false 1 (.tmp 53)⟩, ⟨(some 53), none, .faddr 4 (.tmp 2)⟩, ⟨(some 52), none, .load false 1 (.tmp 51)⟩, ⟨(some 51), none, .faddr 4 (.tmp 5)⟩] (
      .ev ⟨(some 64), none, .app 2 16 (.tmp 52) (.tmp 63)⟩ [⟨(some 62), none, .load true 2 (.tmp 61)⟩, ⟨(some 61), none, .iaddr 2 (.tmp 54) (.tmp 60)⟩, ⟨(some 57), none, .len (.tmp 56)⟩, ⟨(some 56), none, .load false 1 (.tmp 55)⟩, ⟨(some 55), none, .faddr 4 (.tmp 2)⟩, ⟨(some 54), none, .load false 1 (.tmp 53)⟩, ⟨(some 53), none, .faddr 4 (.tmp 2)⟩, ⟨(some 51), none, .faddr 4 (.tmp 5)⟩] (
       .step ⟨(some 65), none, .faddr 4 (.tmp 5)⟩ (
        .ev ⟨none, none, .store 1 (.tmp 65) (.tmp 64)⟩ [] (
        .done)
        (.stop)))
       (.stop))
      (.stop)))))))))))))))))
   (.reg [⟨(some 66), none, .bin .add (.tmp 48) (.lit (.int .i64 1))⟩,
     ⟨(some 48), none, .mov (.tmp 66)⟩])))))))
 (.seq (.seq (.reg [⟨(some 67), none, .faddr 4 (.tmp 2)⟩,
     ⟨(some 68), none, .load false 1 (.tmp 67)⟩,
     ⟨(some 69), none, .len (.tmp 68)⟩,
     ⟨(some 8), none, .mov (.tmp 69)⟩])
  (.seq (.reg [⟨(some 70), none, .mov (.tmp 8)⟩,
     ⟨(some 71), none, .bin .gtr (.tmp 70) (.lit (.int .i64 0))⟩,
     ⟨(some 72), none, .mov (.tmp 71)⟩,
     ⟨(some 73), (some (72, true)), .mov (.tmp 8)⟩,
     ⟨(some 74), (some (72, true)), .bin .lss (.tmp 73) (.lit (.int .i64 8))⟩,
     ⟨(some 75), none, .pick (.tmp 72) (.tmp 74) (.lit (.bool false))⟩])
  (.cond (.tmp 75) (.draw (.step ⟨(some 76), none, .faddr 4 (.tmp 5)⟩ (
     .step ⟨(some 77), none, .load false 1 (.tmp 76)⟩ (
     .step ⟨(some 78), none, .faddr 4 (.tmp 2)⟩ (
     .step ⟨(some 79), none, .load false 1 (.tmp 78)⟩ (
     .step ⟨(some 80), none, .mov (.tmp 1)⟩ (
     .step ⟨(some 81), none, .conv .i64 (.tmp 80)⟩ (
     .step ⟨(some 82), none, .mov (.tmp 8)⟩ (
     .step ⟨(some 83), none, .bin .rem (.tmp 81) (.tmp 82)⟩ (
     .step ⟨(some 84), none, .iaddr 2 (.tmp 79) (.tmp 83)⟩ (
     .step ⟨(some 85), none, .load true 2 (.tmp 84)⟩ (
     .ev ⟨(some 86), none, .bslice 2 (.agg #[(.int .i64 0), (.bool false)]) 1 [(0, (.tmp 85))]⟩ [⟨(some 84), none, .iaddr 2 (.tmp 79) (.tmp 83)⟩, ⟨(some 79), none, .load false 1 (.tmp 78)⟩, ⟨(some 78), none, .faddr 4 (.tmp 2)⟩, ⟨(some 77), none, .load false 1 (.tmp 76)⟩, ⟨(some 76), none, .faddr 4 (.tmp 5)⟩] (
     .ev ⟨(some 87), none, .app 2 16 (.tmp 77) (.tmp 86)⟩ [⟨(some 85), none, .load true 2 (.tmp 84)⟩, ⟨(some 84), none, .iaddr 2 (.tmp 79) (.tmp 83)⟩, ⟨(some 79), none, .load false 1 (.tmp 78)⟩, ⟨(some 78), none, .faddr 4 (.tmp 2)⟩, ⟨(some 76), none, .faddr 4 (.tmp 5)⟩] (
      .step ⟨(some 88), none, .faddr 4 (.tmp 5)⟩ (
       .ev ⟨none, none, .store 1 (.tmp 88) (.tmp 87)⟩ [] (
       .done)
       (.stop)))
      (.stop))
     (.stop)))))))))))))
    (.skip))))
 (.seq (.seq (.gcp)
  (.draw (.step ⟨(some 90), none, .faddr 3 (.tmp 2)⟩ (
    .step ⟨(some 91), none, .load false 1 (.tmp 90)⟩ (
    .step ⟨(some 94), none, .faddr 4 (.tmp 2)⟩ (
    .step ⟨(some 95), none, .load false 1 (.tmp 94)⟩ (
    .ev ⟨(some 89), none, .bslice 3 (.agg #[(.int .i64 0), (.int .i64 0), (.int .i64 0)]) 0 []⟩ [⟨(some 95), none, .load false 1 (.tmp 94)⟩, ⟨(some 94), none, .faddr 4 (.tmp 2)⟩, ⟨(some 91), none, .load false 1 (.tmp 90)⟩, ⟨(some 90), none, .faddr 3 (.tmp 2)⟩] (
    .ev ⟨(some 92), none, .app 3 24 (.tmp 89) (.tmp 91)⟩ [⟨(some 95), none, .load false 1 (.tmp 94)⟩, ⟨(some 94), none, .faddr 4 (.tmp 2)⟩, ⟨(some 90), none, .faddr 3 (.tmp 2)⟩] (
     .ev ⟨(some 93), none, .bslice 2 (.agg #[(.int .i64 0), (.bool false)]) 0 []⟩ [⟨(some 95), none, .load false 1 (.tmp 94)⟩, ⟨(some 94), none, .faddr 4 (.tmp 2)⟩, ⟨(some 91), none, .load false 1 (.tmp 90)⟩, ⟨(some 90), none, .faddr 3 (.tmp 2)⟩] (
      .ev ⟨(some 96), none, .app 2 16 (.tmp 93) (.tmp 95)⟩ [⟨(some 94), none, .faddr 4 (.tmp 2)⟩, ⟨(some 91), none, .load false 1 (.tmp 90)⟩, ⟨(some 90), none, .faddr 3 (.tmp 2)⟩] (
       .step ⟨(some 9), none, .mov (.tmp 92)⟩ (
        .step ⟨(some 10), none, .mov (.tmp 96)⟩ (
        .done)))
       (.stop))
      (.stop))
     (.ev ⟨(some 93), none, .bslice 2 (.agg #[(.int .i64 0), (.bool false)]) 0 []⟩ [⟨(some 95), none, .load false 1 (.tmp 94)⟩, ⟨(some 94), none, .faddr 4 (.tmp 2)⟩, ⟨(some 91), none, .load false 1 (.tmp 90)⟩, ⟨(some 90), none, .faddr 3 (.tmp 2)⟩] (
     .ev ⟨(some 92), none, .app 3 24 (.tmp 89) (.tmp 91)⟩ [⟨(some 95), none, .load false 1 (.tmp 94)⟩, ⟨(some 94), none, .faddr 4 (.tmp 2)⟩, ⟨(some 90), none, .faddr 3 (.tmp 2)⟩] (
      .ev ⟨(some 96), none, .app 2 16 (.tmp 93) (.tmp 95)⟩ [⟨(some 94), none, .faddr 4 (.tmp 2)⟩, ⟨(some 91), none, .load false 1 (.tmp 90)⟩, ⟨(some 90), none, .faddr 3 (.tmp 2)⟩] (
       .step ⟨(some 9), none, .mov (.tmp 92)⟩ (
        .step ⟨(some 10), none, .mov (.tmp 96)⟩ (
        .done)))
       (.stop))
      (.stop))
     (.stop)))
    (.ev ⟨(some 93), none, .bslice 2 (.agg #[(.int .i64 0), (.bool false)]) 0 []⟩ [⟨(some 95), none, .load false 1 (.tmp 94)⟩, ⟨(some 94), none, .faddr 4 (.tmp 2)⟩, ⟨(some 91), none, .load false 1 (.tmp 90)⟩, ⟨(some 90), none, .faddr 3 (.tmp 2)⟩] (
    .ev ⟨(some 89), none, .bslice 3 (.agg #[(.int .i64 0), (.int .i64 0), (.int .i64 0)]) 0 []⟩ [⟨(some 95), none, .load false 1 (.tmp 94)⟩, ⟨(some 94), none, .faddr 4 (.tmp 2)⟩, ⟨(some 91), none, .load false 1 (.tmp 90)⟩, ⟨(some 90), none, .faddr 3 (.tmp 2)⟩] (
     .ev ⟨(some 92), none, .app 3 24 (.tmp 89) (.tmp 91)⟩ [⟨(some 95), none, .load false 1 (.tmp 94)⟩, ⟨(some 94), none, .faddr 4 (.tmp 2)⟩, ⟨(some 90), none, .faddr 3 (.tmp 2)⟩] (
      .ev ⟨(some 96), none, .app 2 16 (.tmp 93) (.tmp 95)⟩ [⟨(some 94), none, .faddr 4 (.tmp 2)⟩, ⟨(some 91), none, .load false 1 (.tmp 90)⟩, ⟨(some 90), none, .faddr 3 (.tmp 2)⟩] (
       .step ⟨(some 9), none, .mov (.tmp 92)⟩ (
        .step ⟨(some 10), none, .mov (.tmp 96)⟩ (
        .done)))
       (.stop))
      (.stop))
     (.stop))
    (.stop)))))))))
 (.seq (.seq (.gcp)
  (.reg [⟨(some 98), none, .load true 5 (.tmp 2)⟩,
    ⟨(some 99), none, .call (.fn 17) [(.tmp 98)]⟩,
    ⟨(some 97), none, .mov (.tmp 99)⟩,
    ⟨(some 100), none, .ext (.tmp 97) 0⟩,
    ⟨(some 101), none, .ext (.tmp 97) 1⟩,
    ⟨(some 102), none, .ext (.tmp 97) 2⟩,
    ⟨(some 11), none, .mov (.tmp 100)⟩,
    ⟨(some 12), none, .mov (.tmp 101)⟩,
    ⟨(some 13), none, .mov (.tmp 102)⟩]))
 (.seq (.reg [⟨(some 104), none, .load true 5 (.tmp 5)⟩,
    ⟨(some 105), none, .call (.fn 17) [(.tmp 104)]⟩,
    ⟨(some 103), none, .mov (.tmp 105)⟩,
    ⟨(some 106), none, .ext (.tmp 103) 0⟩,
    ⟨(some 107), none, .ext (.tmp 103) 1⟩,
    ⟨(some 108), none, .ext (.tmp 103) 2⟩,
    ⟨(some 14), none, .mov (.tmp 106)⟩,
    ⟨(some 15), none, .mov (.tmp 107)⟩,
    ⟨(some 16), none, .mov (.tmp 108)⟩])
 (.seq (.reg [⟨(some 110), none, .load true 5 (.tmp 2)⟩,
    ⟨(some 111), none, .call (.fn 19) [(.tmp 110)]⟩,
    ⟨(some 109), none, .mov (.tmp 111)⟩,
    ⟨(some 112), none, .ext (.tmp 109) 0⟩,
    ⟨(some 113), none, .ext (.tmp 109) 1⟩,
    ⟨(some 17), none, .mov (.tmp 112)⟩,
    ⟨(some 18), none, .mov (.tmp 113)⟩])
 (.seq (.reg [⟨(some 115), none, .load true 5 (.tmp 5)⟩,
    ⟨(some 116), none, .call (.fn 19) [(.tmp 115)]⟩,
    ⟨(some 114), none, .mov (.tmp 116)⟩,
    ⟨(some 117), none, .ext (.tmp 114) 0⟩,
    ⟨(some 118), none, .ext (.tmp 114) 1⟩,
    ⟨(some 19), none, .mov (.tmp 117)⟩,
    ⟨(some 20), none, .mov (.tmp 118)⟩])
 (.seq (.reg [⟨(some 120), none, .load true 5 (.tmp 2)⟩,
    ⟨(some 121), none, .call (.fn 21) [(.tmp 120)]⟩,
    ⟨(some 119), none, .mov (.tmp 121)⟩,
    ⟨(some 122), none, .ext (.tmp 119) 0⟩,
    ⟨(some 123), none, .ext (.tmp 119) 1⟩,
    ⟨(some 21), none, .alloc [(.int .i64 0), (.int .i64 0)]⟩,
    ⟨none, none, .store 2 (.tmp 21) (.tmp 122)⟩,
    ⟨(some 22), none, .mov (.tmp 123)⟩])
 (.seq (.reg [⟨(some 125), none, .load true 5 (.tmp 5)⟩,
    ⟨(some 126), none, .call (.fn 21) [(.tmp 125)]⟩,
    ⟨(some 124), none, .mov (.tmp 126)⟩,
    ⟨(some 127), none, .ext (.tmp 124) 0⟩,
    ⟨(some 128), none, .ext (.tmp 124) 1⟩,
    ⟨(some 23), none, .alloc [(.int .i64 0), (.int .i64 0)]⟩,
    ⟨none, none, .store 2 (.tmp 23) (.tmp 127)⟩,
    ⟨(some 24), none, .mov (.tmp 128)⟩])
 (.seq (.reg [⟨(some 130), none, .load true 5 (.tmp 2)⟩,
    ⟨(some 131), none, .call (.fn 27) [(.tmp 130)]⟩,
    ⟨(some 129), none, .mov (.tmp 131)⟩,
    ⟨(some 132), none, .ext (.tmp 129) 0⟩,
    ⟨(some 133), none, .ext (.tmp 129) 1⟩,
    ⟨(some 134), none, .ext (.tmp 129) 2⟩,
    ⟨(some 25), none, .mov (.tmp 132)⟩,
    ⟨(some 26), none, .mov (.tmp 133)⟩,
    ⟨(some 27), none, .mov (.tmp 134)⟩])
 (.seq (.reg [⟨(some 136), none, .load true 5 (.tmp 5)⟩,
    ⟨(some 137), none, .call (.fn 27) [(.tmp 136)]⟩,
    ⟨(some 135), none, .mov (.tmp 137)⟩,
    ⟨(some 138), none, .ext (.tmp 135) 0⟩,
    ⟨(some 139), none, .ext (.tmp 135) 1⟩,
    ⟨(some 140), none, .ext (.tmp 135) 2⟩,
    ⟨(some 28), none, .mov (.tmp 138)⟩,
    ⟨(some 29), none, .mov (.tmp 139)⟩,
    ⟨(some 30), none, .mov (.tmp 140)⟩])
 (.seq (.seq (.reg [⟨(some 141), none, .mov (.tmp 11)⟩,
     ⟨(some 142), none, .mov (.tmp 14)⟩,
     ⟨(some 143), none, .bin .neq (.tmp 141) (.tmp 142)⟩,
     ⟨(some 144), none, .mov (.tmp 143)⟩,
     ⟨(some 145), (some (144, false)), .mov (.tmp 12)⟩,
     ⟨(some 146), (some (144, false)), .mov (.tmp 15)⟩,
     ⟨(some 147), (some (144, false)), .bin .neq (.tmp 145) (.tmp 146)⟩,
     ⟨(some 148), none, .pick (.tmp 144) (.lit (.bool true)) (.tmp 147)⟩,
     ⟨(some 149), none, .mov (.tmp 148)⟩,
     ⟨(some 150), (some (149, false)), .mov (.tmp 13)⟩,
     ⟨(some 151), (some (149, false)), .mov (.tmp 16)⟩,
     ⟨(some 152), (some (149, false)), .bin .neq (.tmp 150) (.tmp 151)⟩,
     ⟨(some 153), none, .pick (.tmp 149) (.lit (.bool true)) (.tmp 152)⟩,
     ⟨(some 154), none, .mov (.tmp 153)⟩,
     ⟨(some 155), (some (154, false)), .mov (.tmp 17)⟩,
     ⟨(some 156), (some (154, false)), .mov (.tmp 19)⟩,
     ⟨(some 157), (some (154, false)), .bin .neq (.tmp 155) (.tmp 156)⟩,
     ⟨(some 158), none, .pick (.tmp 154) (.lit (.bool true)) (.tmp 157)⟩,
     ⟨(some 159), none, .mov (.tmp 158)⟩,
     ⟨(some 160), (some (159, false)), .mov (.tmp 18)⟩,
     ⟨(some 161), (some (159, false)), .mov (.tmp 20)⟩,
     ⟨(some 162), (some (159, false)), .bin .neq (.tmp 160) (.tmp 161)⟩,
     ⟨(some 163), none, .pick (.tmp 159) (.lit (.bool true)) (.tmp 162)⟩,
     ⟨(some 164), none, .mov (.tmp 163)⟩,
     ⟨(some 165), (some (164, false)), .load true 2 (.tmp 21)⟩,
     ⟨(some 166), (some (164, false)), .load true 2 (.tmp 23)⟩,
     ⟨(some 167), (some (164, false)), .eqs true [(some .i64), (some .i64)] (.tmp 165) (.tmp 166)⟩,
     ⟨(some 168), none, .pick (.tmp 164) (.lit (.bool true)) (.tmp 167)⟩,
     ⟨(some 169), none, .mov (.tmp 168)⟩,
     ⟨(some 170), (some (169, false)), .mov (.tmp 22)⟩,
     ⟨(some 171), (some (169, false)), .mov (.tmp 24)⟩,
     ⟨(some 172), (some (169, false)), .bin .neq (.tmp 170) (.tmp 171)⟩,
     ⟨(some 173), none, .pick (.tmp 169) (.lit (.bool true)) (.tmp 172)⟩,
     ⟨(some 174), none, .mov (.tmp 173)⟩,
     ⟨(some 175), (some (174, false)), .mov (.tmp 25)⟩,
     ⟨(some 176), (some (174, false)), .mov (.tmp 28)⟩,
     ⟨(some 177), (some (174, false)), .bin .neq (.tmp 175) (.tmp 176)⟩,
     ⟨(some 178), none, .pick (.tmp 174) (.lit (.bool true)) (.tmp 177)⟩,
     ⟨(some 179), none, .mov (.tmp 178)⟩,
     ⟨(some 180), (some (179, false)), .mov (.tmp 26)⟩,
     ⟨(some 181), (some (179, false)), .mov (.tmp 29)⟩,
     ⟨(some 182), (some (179, false)), .bin .neq (.tmp 180) (.tmp 181)⟩,
     ⟨(some 183), none, .pick (.tmp 179) (.lit (.bool true)) (.tmp 182)⟩,
     ⟨(some 184), none, .mov (.tmp 183)⟩,
     ⟨(some 185), (some (184, false)), .mov (.tmp 27)⟩,
     ⟨(some 186), (some (184, false)), .mov (.tmp 30)⟩,
     ⟨(some 187), (some (184, false)), .bin .neq (.tmp 185) (.tmp 186)⟩,
     ⟨(some 188), none, .pick (.tmp 184) (.lit (.bool true)) (.tmp 187)⟩])
  (.cond (.tmp 188) (.seq (.reg [⟨(some 4), none, .mov (.lit (.bool false))⟩])
   (.ret))
    (.skip)))
 (.seq (.seq (.reg [⟨(some 189), none, .faddr 3 (.tmp 2)⟩,
     ⟨(some 190), none, .load false 1 (.tmp 189)⟩,
     ⟨(some 191), none, .len (.tmp 190)⟩,
     ⟨(some 192), none, .bin .gtr (.tmp 191) (.lit (.int .i64 0))⟩,
     ⟨(some 193), none, .mov (.tmp 192)⟩,
     ⟨(some 194), (some (193, true)), .faddr 4 (.tmp 2)⟩,
     ⟨(some 195), (some (193, true)), .load false 1 (.tmp 194)⟩,
     ⟨(some 196), (some (193, true)), .len (.tmp 195)⟩,
     ⟨(some 197), (some (193, true)), .bin .leq (.tmp 196) (.lit (.int .i64 6))⟩,
     ⟨(some 198), none, .pick (.tmp 193) (.tmp 197) (.lit (.bool false))⟩])
  (.cond (.tmp 198) (.seq (.reg [⟨(some 199), none, .mov (.tmp 1)⟩,
      ⟨(some 200), none, .conv .i64 (.tmp 199)⟩,
      ⟨(some 201), none, .faddr 3 (.tmp 2)⟩,
      ⟨(some 202), none, .load false 1 (.tmp 201)⟩,
      ⟨(some 203), none, .len (.tmp 202)⟩,
      ⟨(some 204), none, .bin .rem (.tmp 200) (.tmp 203)⟩,
      ⟨(some 31), none, .mov (.tmp 204)⟩])
   (.seq (.reg [⟨(some 205), none, .bslice 2 (.agg #[(.int .i64 0), (.bool false)]) 0 []⟩,
      ⟨(some 206), none, .faddr 4 (.tmp 2)⟩,
      ⟨(some 207), none, .load false 1 (.tmp 206)⟩,
      ⟨(some 208), none, .app 2 16 (.tmp 205) (.tmp 207)⟩,
      ⟨(some 209), none, .mov (.tmp 31)⟩,
      ⟨(some 210), none, .call (.fn 42) [(.tmp 209), (.lit (.bool true))]⟩,
      ⟨(some 211), none, .mov (.tmp 31)⟩,
      ⟨(some 212), none, .call (.fn 42) [(.tmp 211), (.lit (.bool false))]⟩,
      ⟨(some 213), none, .bslice 2 (.agg #[(.int .i64 0), (.bool false)]) 2 [(0, (.tmp 210)), (1, (.tmp 212))]⟩,
      ⟨(some 214), none, .app 2 16 (.tmp 208) (.tmp 213)⟩,
      ⟨(some 215), none, .faddr 4 (.tmp 6)⟩,
      ⟨none, none, .store 1 (.tmp 215) (.tmp 214)⟩])
   (.seq (.reg [⟨(some 217), none, .load true 5 (.tmp 6)⟩,
      ⟨(some 218), none, .call (.fn 19) [(.tmp 217)]⟩,
      ⟨(some 216), none, .mov (.tmp 218)⟩,
      ⟨(some 219), none, .ext (.tmp 216) 0⟩,
      ⟨(some 220), none, .ext (.tmp 216) 1⟩,
      ⟨(some 32), none, .mov (.tmp 219)⟩,
      ⟨(some 33), none, .mov (.tmp 220)⟩])
   (.seq (.reg [⟨(some 222), none, .load true 5 (.tmp 6)⟩,
      ⟨(some 223), none, .call (.fn 29) [(.tmp 222)]⟩,
      ⟨(some 221), none, .mov (.tmp 223)⟩,
      ⟨(some 224), none, .ext (.tmp 221) 0⟩,
      ⟨(some 225), none, .ext (.tmp 221) 1⟩,
      ⟨(some 34), none, .mov (.tmp 224)⟩,
      ⟨(some 35), none, .mov (.tmp 225)⟩])
   (.seq (.reg [⟨(some 226), none, .mov (.tmp 32)⟩,
      ⟨(some 227), none, .bin .neq (.tmp 226) (.lit (.int .i64 0))⟩,
      ⟨(some 228), none, .mov (.tmp 227)⟩,
      ⟨(some 229), (some (228, false)), .mov (.tmp 33)⟩,
      ⟨(some 230), (some (228, false)), .bin .neq (.tmp 229) (.lit (.int .i64 0))⟩,
      ⟨(some 231), none, .pick (.tmp 228) (.lit (.bool true)) (.tmp 230)⟩,
      ⟨(some 232), none, .mov (.tmp 231)⟩,
      ⟨(some 233), (some (232, false)), .mov (.tmp 35)⟩,
      ⟨(some 234), (some (232, false)), .bin .neq (.tmp 233) (.lit (.int .i64 0))⟩,
      ⟨(some 235), none, .pick (.tmp 232) (.lit (.bool true)) (.tmp 234)⟩])
   (.cond (.tmp 235) (.seq (.reg [⟨(some 4), none, .mov (.lit (.bool false))⟩])
    (.ret))
     (.skip)))))))
    (.skip)))
 (.seq (.seq (.reg [⟨(some 236), none, .mov (.tmp 9)⟩,
     ⟨(some 237), none, .len (.tmp 236)⟩,
     ⟨(some 238), none, .mov (.lit (.int .i64 0))⟩])
  (.block 2 (.loop (.seq (.reg [⟨(some 239), none, .bin .lss (.tmp 238) (.tmp 237)⟩])
   (.seq (.cond (.tmp 239) (.skip)
      (.exit 2))
   (.seq (.block 3 (.seq (.reg [⟨(some 240), none, .mov (.tmp 238)⟩,
       ⟨(some 36), none, .mov (.tmp 240)⟩])
    (.seq (.draw (.step ⟨(some 241), none, .mov (.tmp 9)⟩ (
       .step ⟨(some 242), none, .mov (.tmp 36)⟩ (
       .step ⟨(some 243), none, .iaddr 3 (.tmp 241) (.tmp 242)⟩ (
       .step ⟨(some 244), none, .load true 3 (.tmp 243)⟩ (
       .step ⟨(some 245), none, .faddr 3 (.tmp 2)⟩ (
       .step ⟨(some 246), none, .load false 1 (.tmp 245)⟩ (
       .step ⟨(some 247), none, .mov (.tmp 36)⟩ (
       .step ⟨(some 248), none, .iaddr 3 (.tmp 246) (.tmp 247)⟩ (
       .step ⟨(some 249), none, .load true 3 (.tmp 248)⟩ (
       .step ⟨(some 250), none, .eqs true [(some .i64), (some .i64), (some .i64)] (.tmp 244) (.tmp 249)⟩ (
       .done))))))))))))
    (.cond (.tmp 250) (.seq (.reg [⟨(some 4), none, .mov (.lit (.bool false))⟩])
     (.ret))
      (.skip)))))
   (.reg [⟨(some 251), none, .bin .add (.tmp 238) (.lit (.int .i64 1))⟩,
     ⟨(some 238), none, .mov (.tmp 251)⟩])))))))
 (.seq (.seq (.reg [⟨(some 252), none, .mov (.tmp 10)⟩,
     ⟨(some 253), none, .len (.tmp 252)⟩,
     ⟨(some 254), none, .mov (.lit (.int .i64 0))⟩])
  (.block 4 (.loop (.seq (.reg [⟨(some 255), none, .bin .lss (.tmp 254) (.tmp 253)⟩])
   (.seq (.cond (.tmp 255) (.skip)
      (.exit 4))
   (.seq (.block 5 (.seq (.reg [⟨(some 256), none, .mov (.tmp 254)⟩,
       ⟨(some 37), none, .mov (.tmp 256)⟩])
    (.seq (.draw (.step ⟨(some 257), none, .mov (.tmp 10)⟩ (
       .step ⟨(some 258), none, .mov (.tmp 37)⟩ (
       .step ⟨(some 259), none, .iaddr 2 (.tmp 257) (.tmp 258)⟩ (
       .step ⟨(some 260), none, .load true 2 (.tmp 259)⟩ (
       .step ⟨(some 261), none, .faddr 4 (.tmp 2)⟩ (
       .step ⟨(some 262), none, .load false 1 (.tmp 261)⟩ (
       .step ⟨(some 263), none, .mov (.tmp 37)⟩ (
       .step ⟨(some 264), none, .iaddr 2 (.tmp 262) (.tmp 263)⟩ (
       .step ⟨(some 265), none, .load true 2 (.tmp 264)⟩ (
       .step ⟨(some 266), none, .eqs true [(some .i64), none] (.tmp 260) (.tmp 265)⟩ (
       .done))))))))))))
    (.cond (.tmp 266) (.seq (.reg [⟨(some 4), none, .mov (.lit (.bool false))⟩])
     (.ret))
      (.skip)))))
   (.reg [⟨(some 267), none, .bin .add (.tmp 254) (.lit (.int .i64 1))⟩,
     ⟨(some 254), none, .mov (.tmp 267)⟩])))))))
 (.seq (.reg [⟨(some 268), none, .call (.fn 14) []⟩,
    ⟨(some 4), none, .mov (.tmp 268)⟩])
 (.ret))))))))))))))))))))
theorem k12 : FnC Tryd.prog 12 269 [] [4, 13, 14] [.tmp 4] c12 2 := ⟨Tryd.f12, _, Tryd.func12, rfl, by decide, rfl, by decide, by kernel_rfl, by kernel_rfl⟩
end Go.Proofs.YtkbjodmpmmnhgaaDoor

/- FlagTwice. -/
namespace Go.Proofs.YtkbjodmpmmnhgaaDoor
open Go Go.Ab

/-! ### The same seen in another order -/
def withS (f : Fl) (xs : List Sn) : Fl := { f with ss := xs }
theorem kAcc_withS (f : Fl) (xs : List Sn) (lo : Int) : ∀ j, kAcc (withS f xs) lo j = kAcc f lo j
  | 0 => rfl
  | j + 1 => by simp only [kAcc, kAcc_withS f xs lo j]; rfl
theorem Kf_withS (f : Fl) (xs : List Sn) : Kf (withS f xs) = Kf f := by
  funext i
  unfold Kf kindsN
  simp only [kAcc_withS]
  rfl
theorem kls_withS (f : Fl) (xs : List Sn) : ∀ l h, kls (withS f xs) l h = kls f l h
  | 0, _ => rfl
  | l + 1, h => by simp only [kls, Kf_withS, kls_withS f xs l]
theorem truths_withS (f : Fl) (xs : List Sn) : truths (withS f xs) = (rows f).filter (right f xs) := by
  unfold truths rows
  rw [kls_withS]
  rfl
theorem truths_same (f : Fl) (xs : List Sn) (h : ∀ s, s ∈ xs ↔ s ∈ f.ss) : truths (withS f xs) = truths f := by
  rw [truths_withS]
  unfold truths
  refine List.filter_congr fun ks _ => ?_
  unfold right
  rw [Bool.eq_iff_iff, List.all_eq_true, List.all_eq_true]
  exact ⟨fun h1 s hs => h1 s ((h s).2 hs), fun h1 s hs => h1 s ((h s).1 hs)⟩
theorem withS_OK {f : Fl} (hf : f.OK) {xs : List Sn} (hl : xs.length ≤ 8) (h : ∀ s ∈ xs, 0 ≤ s.h ∧ s.h < f.hs.length) : (withS f xs).OK :=
  ⟨hf.low, hf.lh, hf.high, hf.quiet, hf.nh, hl, hf.hs, h⟩
theorem noT_cong {f g : Fl} (ht : truths g = truths f) : noT g = noT f := by unfold noT; rw [ht]
theorem specUp_same {f : Fl} (hf : f.OK) {xs : List Sn} (hg : (withS f xs).OK) (ht : truths (withS f xs) = truths f) : specUp (withS f xs) = specUp f := by
  have h1 : sure (withS f xs) = sure f := by funext i; unfold sure; rw [ht]; rfl
  have h2 : perh (withS f xs) = perh f := by funext i; unfold perh; rw [ht]; rfl
  simp only [specUp, (Fl.ok_iff _).2 hg, (Fl.ok_iff _).2 hf, noT_cong ht, h1, h2]
  rfl
theorem specCount_same {f : Fl} (hf : f.OK) {xs : List Sn} (hg : (withS f xs).OK) (ht : truths (withS f xs) = truths f) : specCount (withS f xs) = specCount f := by
  simp only [specCount, (Fl.ok_iff _).2 hg, (Fl.ok_iff _).2 hf, ht]
theorem specLong_same {f : Fl} (hf : f.OK) {xs : List Sn} (hg : (withS f xs).OK) (ht : truths (withS f xs) = truths f) : specLong (withS f xs) = specLong f := by
  have : hullU (withS f xs) 0 (withS f xs).hs.length = hullU f 0 f.hs.length := by unfold hullU; rw [ht]; rfl
  simp only [specLong, (Fl.ok_iff _).2 hg, (Fl.ok_iff _).2 hf, this]
theorem specAsk_same {f : Fl} (hf : f.OK) {xs : List Sn} (hg : (withS f xs).OK) (ht : truths (withS f xs) = truths f) : specAsk (withS f xs) = specAsk f := by
  have h0 : mostK (withS f xs) = mostK f := by funext i; unfold mostK kindN; rw [ht]
  have h1 : ∀ k, askF (withS f xs) k = askF f k := fun k => by
    induction k with
    | zero => simp only [askF, ht]
    | succ k ih => simp only [askF, ih, h0]
  simp only [specAsk, (Fl.ok_iff _).2 hg, (Fl.ok_iff _).2 hf, noT_cong ht, ht, h1]
  rfl
theorem truths_clash (f : Fl) (v : Nat) : truths (withS f (f.ss ++ [(⟨v, true⟩ : Sn), (⟨v, false⟩ : Sn)])) = [] := by
  rw [truths_withS, List.filter_eq_nil_iff]
  intro ks _ h
  unfold right at h
  rw [List.all_eq_true] at h
  have h1 := h ⟨v, true⟩ (by simp)
  have h2 := h ⟨v, false⟩ (by simp)
  simp at h1 h2
  rw [h1] at h2
  cases h2
theorem take_rev {α : Type} (l : List α) {j : Nat} (hj : j < l.length) : l.reverse.take (j + 1) = l.reverse.take j ++ [l[l.length - 1 - j]] := by
  rw [List.take_succ_eq_append_getElem (by simpa using hj), List.getElem_reverse]

theorem gc_x2 (A C : AO) (a b c d : T) (xs : List T) (n : Nat) (hn : n = xs.length) (R : List AO) : E.gc [0, 2] (A :: .cells [.t a, .t b, .t c, .t d, .loc 3 n] :: C :: .row 2 (xs.map .t) :: R) 12 (.ptr 1 0) = .t (.ptr (.agg [a, b, c, d, .slice 2 xs]) 0) := by
  rw [E.gc]
  simp only [pos?, Nat.reduceEqDiff, reduceIte, Option.map_none, List.getElem?_cons_succ, List.getElem?_cons_zero, List.map_cons, List.map_nil, gc_t]
  rw [gc_loc (n := 9) (xs := xs) rfl rfl hn]
  rfl
abbrev cF (f : Fl) : AO := .cells ((fl5 f).map .t)
def TwMid2 (f : Fl) (u : Nat) (s : St) : Prop := ∃ xs : List Sn, (∀ x, x ∈ xs ↔ x ∈ f.ss) ∧ xs.length ≤ 8 ∧ lk s.env 1 = .t (.lit (.int .u8 u)) ∧ lk s.env 2 = .ptr 0 0 ∧ lk s.env 5 = .t (.ptr (.agg (fl5 (withS f xs))) 0) ∧ lk s.env 6 = .ptr 1 0 ∧
  ((lk s.env 9 = .loc 2 f.hs.length ∧ lk s.env 10 = .loc 3 f.ss.length ∧ s.σ = [cF f, cF f, .row 3 ((f.hs.map tHr).map .t), .row 2 ((f.ss.map tSn).map .t)]) ∨ (lk s.env 9 = .loc 3 f.hs.length ∧ lk s.env 10 = .loc 2 f.ss.length ∧ s.σ = [cF f, cF f, .row 2 ((f.ss.map tSn).map .t), .row 3 ((f.hs.map tHr).map .t)])) ∧ s.df = [] ∧ s.k = 0
def TwMid1 (f : Fl) (u : Nat) (s : St) : Prop := f.OK ∧ lk s.env 1 = .t (.lit (.int .u8 u)) ∧ lk s.env 2 = .ptr 0 0 ∧ lk s.env 5 = .ptr 1 0 ∧ lk s.env 6 = .ptr 2 0 ∧
  s.σ = [.cells ((fl5 f).map .t), .cells [.t (vi f.low), .t (vi f.high), .t (vi f.quiet), .t (.slice 3 (f.hs.map tHr)), .t (.lit (.slice none 0 0))], .cells ((fl5 f).map .t)] ∧ s.df = [] ∧ s.k = 0

def TwMid4 (f : Fl) (s : St) : Prop := lk s.env 2 = .ptr 0 0 ∧ lk s.env 9 = .t (.slice 3 (f.hs.map tHr)) ∧ lk s.env 10 = .t (.slice 2 (f.ss.map tSn)) ∧ (∃ R : List AO, s.σ = cF f :: R) ∧ s.df = [] ∧ s.k = 0
def TwMid5 (f : Fl) (s : St) : Prop := lk s.env 2 = .ptr 0 0 ∧ lk s.env 10 = .t (.slice 2 (f.ss.map tSn)) ∧ s.σ = [cF f] ∧ s.df = [] ∧ s.k = 0
theorem toKey3 (a b c : Int) : toKey (some [some .i64, some .i64, some .i64], none) (.t (.agg [vi a, vi b, vi c])) = some [a, b, c] := by
  simp [toKey, cellKeys, cellKey]
theorem kEq3 (a b c d e g : Int) : kEq [some .i64, some .i64, some .i64] [a, b, c] [d, e, g] = ((a == d) && ((b == e) && (c == g))) := by
  simp [kEq, cellEq]
theorem toKeyS (a : Int) (b : Bool) : toKey (some [some .i64, none], none) (.t (.agg [vi a, vb b])) = some [a, if b then 1 else 0] := by
  simp [toKey, cellKeys, cellKey]
theorem kEqS (a b : Int) : kEq [some .i64, none] [a, b] [a, b] = true := by
  simp [kEq, cellEq]
def TwMid3 (f : Fl) (u : Nat) (s : St) : Prop := lk s.env 1 = .t (.lit (.int .u8 u)) ∧ lk s.env 2 = .ptr 0 0 ∧ lk s.env 6 = .ptr 1 0 ∧ lk s.env 9 = .t (.slice 3 (f.hs.map tHr)) ∧ lk s.env 10 = .t (.slice 2 (f.ss.map tSn)) ∧ (∃ A B : AO, s.σ = [cF f, cF f, A, B]) ∧ s.df = [] ∧ s.k = 0

set_option maxRecDepth 8000 in
set_option maxHeartbeats 4000000 in
theorem FlagTwice_ok (f : Fl) (hL : Lens f) (u : Nat) (hu : u < 256) : ACall Tryd.prog 12 [.t (.agg (fl5 f)), .t (.lit (.int .u8 u))] [] (res (.ret (.t (vb true)))) := by
  refine ACall.walk k12 ?_
  have h31 := fine_ok f hL
  unfold c12
  simp only [fl5] at h31
  refine awpL_chop 4 (c1 := ?a1) (c2 := ?a2) (TwMid1 f u) ?hc ?_ ?_
  case hc => simp only [chop]; rfl
  · simp only [fl5, go_sem, Nat.reduceEqDiff, Nat.reduceAdd, Nat.reduceSub, Nat.reduceMul, Nat.reduceLT, Nat.reduceLeDiff, Nat.reduceMod, Nat.reduceDiv, Int.reduceToNat, Int.reduceLT, Int.reduceLE, Bool.not_true, Bool.not_false, reduceIte, Int.reduceEq, Int.reduceBEq, Int.reduceBNe, Int.reduceGT, Int.reduceGE, Int.reduceNeg, Int.reduceAdd, Int.reduceSub, Nat.reduceBEq, decide_true, decide_false, undef, beq_self_eq_true, bne_self_eq_false, Bool.and_true, Bool.true_and, Bool.and_false, Bool.false_and, Bool.or_true, Bool.true_or, Bool.or_false, Bool.false_or]
    refine ACallL.quiet1 h31 rfl rfl rfl ?_
    cases hF : fineB f
    · simp only [go_sem, Nat.reduceEqDiff, Nat.reduceAdd, Nat.reduceSub, Nat.reduceMul, Nat.reduceLT, Nat.reduceLeDiff, Nat.reduceMod, Nat.reduceDiv, Int.reduceToNat, Int.reduceLT, Int.reduceLE, Bool.not_true, Bool.not_false, reduceIte, Int.reduceEq, Int.reduceBEq, Int.reduceBNe, Int.reduceGT, Int.reduceGE, Int.reduceNeg, Int.reduceAdd, Int.reduceSub, Nat.reduceBEq, decide_true, decide_false, undef, beq_self_eq_true, bne_self_eq_false, Bool.and_true, Bool.true_and, Bool.and_false, Bool.false_and, Bool.or_true, Bool.true_or, Bool.or_false, Bool.false_or, undef]
      refine ACallL.quiet1 awake_ok rfl rfl rfl ?_
      simp only [go_sem, Nat.reduceEqDiff, Nat.reduceAdd, Nat.reduceSub, Nat.reduceMul, Nat.reduceLT, Nat.reduceLeDiff, Nat.reduceMod, Nat.reduceDiv, Int.reduceToNat, Int.reduceLT, Int.reduceLE, Bool.not_true, Bool.not_false, reduceIte, Int.reduceEq, Int.reduceBEq, Int.reduceBNe, Int.reduceGT, Int.reduceGE, Int.reduceNeg, Int.reduceAdd, Int.reduceSub, Nat.reduceBEq, decide_true, decide_false, undef, beq_self_eq_true, bne_self_eq_false, Bool.and_true, Bool.true_and, Bool.and_false, Bool.false_and, Bool.or_true, Bool.true_or, Bool.or_false, Bool.false_or, undef]
      exact finL_ret [] ⟨rfl, rfl, rfl, rfl, _, rfl, res_mk rfl⟩
    obtain ⟨hok, hf⟩ := fine_iff hF
    simp only [go_sem, Nat.reduceEqDiff, Nat.reduceAdd, Nat.reduceSub, Nat.reduceMul, Nat.reduceLT, Nat.reduceLeDiff, Nat.reduceMod, Nat.reduceDiv, Int.reduceToNat, Int.reduceLT, Int.reduceLE, Bool.not_true, Bool.not_false, reduceIte, Int.reduceEq, Int.reduceBEq, Int.reduceBNe, Int.reduceGT, Int.reduceGE, Int.reduceNeg, Int.reduceAdd, Int.reduceSub, Nat.reduceBEq, decide_true, decide_false, undef, beq_self_eq_true, bne_self_eq_false, Bool.and_true, Bool.true_and, Bool.and_false, Bool.false_and, Bool.or_true, Bool.true_or, Bool.or_false, Bool.false_or, undef]
    refine AndL.mk ?_ ?_
    · simp only [go_sem, Nat.reduceEqDiff, Nat.reduceAdd, Nat.reduceSub, Nat.reduceMul, Nat.reduceLT, Nat.reduceLeDiff, Nat.reduceMod, Nat.reduceDiv, Int.reduceToNat, Int.reduceLT, Int.reduceLE, Bool.not_true, Bool.not_false, reduceIte, Int.reduceEq, Int.reduceBEq, Int.reduceBNe, Int.reduceGT, Int.reduceGE, Int.reduceNeg, Int.reduceAdd, Int.reduceSub, Nat.reduceBEq, decide_true, decide_false, undef, beq_self_eq_true, bne_self_eq_false, Bool.and_true, Bool.true_and, Bool.and_false, Bool.false_and, Bool.or_true, Bool.true_or, Bool.or_false, Bool.false_or, undef]
      refine awpL_gcp [0, 1, 2] [1, 2, 5, 6] rfl rfl ?_
      simp only [go_sem, Nat.reduceEqDiff, Nat.reduceAdd, Nat.reduceSub, Nat.reduceMul, Nat.reduceLT, Nat.reduceLeDiff, Nat.reduceMod, Nat.reduceDiv, Int.reduceToNat, Int.reduceLT, Int.reduceLE, Bool.not_true, Bool.not_false, reduceIte, Int.reduceEq, Int.reduceBEq, Int.reduceBNe, Int.reduceGT, Int.reduceGE, Int.reduceNeg, Int.reduceAdd, Int.reduceSub, Nat.reduceBEq, decide_true, decide_false, undef, beq_self_eq_true, bne_self_eq_false, Bool.and_true, Bool.true_and, Bool.and_false, Bool.false_and, Bool.or_true, Bool.true_or, Bool.or_false, Bool.false_or, undef]
      exact ⟨hf, rfl, rfl, rfl, rfl, rfl, rfl, rfl⟩
    · simp only [go_sem, Nat.reduceEqDiff, Nat.reduceAdd, Nat.reduceSub, Nat.reduceMul, Nat.reduceLT, Nat.reduceLeDiff, Nat.reduceMod, Nat.reduceDiv, Int.reduceToNat, Int.reduceLT, Int.reduceLE, Bool.not_true, Bool.not_false, reduceIte, Int.reduceEq, Int.reduceBEq, Int.reduceBNe, Int.reduceGT, Int.reduceGE, Int.reduceNeg, Int.reduceAdd, Int.reduceSub, Nat.reduceBEq, decide_true, decide_false, undef, beq_self_eq_true, bne_self_eq_false, Bool.and_true, Bool.true_and, Bool.and_false, Bool.false_and, Bool.or_true, Bool.true_or, Bool.or_false, Bool.false_or, undef]
      refine awpL_gcp [0, 2, 1] [1, 2, 5, 6] rfl rfl ?_
      simp only [go_sem, Nat.reduceEqDiff, Nat.reduceAdd, Nat.reduceSub, Nat.reduceMul, Nat.reduceLT, Nat.reduceLeDiff, Nat.reduceMod, Nat.reduceDiv, Int.reduceToNat, Int.reduceLT, Int.reduceLE, Bool.not_true, Bool.not_false, reduceIte, Int.reduceEq, Int.reduceBEq, Int.reduceBNe, Int.reduceGT, Int.reduceGE, Int.reduceNeg, Int.reduceAdd, Int.reduceSub, Nat.reduceBEq, decide_true, decide_false, undef, beq_self_eq_true, bne_self_eq_false, Bool.and_true, Bool.true_and, Bool.and_false, Bool.false_and, Bool.or_true, Bool.true_or, Bool.or_false, Bool.false_or, undef]
      exact ⟨hf, rfl, rfl, rfl, rfl, rfl, rfl, rfl⟩
  rintro s1 ⟨hf, h1⟩
  have hns := hf.ns
  have hnh := hf.nh
  refine awpL_chop 3 (c1 := ?b1) (c2 := ?b2) (TwMid2 f u) ?hc2 ?_ ?_
  case hc2 => simp only [chop]; rfl
  · obtain ⟨env, σ, df, k⟩ := s1
    obtain ⟨q1, q2, q5, q6, hσ, hdf, hk⟩ := h1
    simp only at q1 q2 q5 q6 hσ hdf hk
    subst hσ hdf hk
    simp only [fl5, go_sem, Nat.reduceEqDiff, Nat.reduceAdd, Nat.reduceSub, Nat.reduceMul, Nat.reduceLT, Nat.reduceLeDiff, Nat.reduceMod, Nat.reduceDiv, Int.reduceToNat, Int.reduceLT, Int.reduceLE, Bool.not_true, Bool.not_false, reduceIte, Int.reduceEq, Int.reduceBEq, Int.reduceBNe, Int.reduceGT, Int.reduceGE, Int.reduceNeg, Int.reduceAdd, Int.reduceSub, Nat.reduceBEq, decide_true, decide_false, undef, beq_self_eq_true, bne_self_eq_false, Bool.and_true, Bool.true_and, Bool.and_false, Bool.false_and, Bool.or_true, Bool.true_or, Bool.or_false, Bool.false_or, q2, List.length_map]
    refine awpL_for (i := 48) (L := 47) f.ss.length (fun j s => s = { env := [(48, .t (vi j)), (47, .t (vi f.ss.length)), (1, .t (.lit (.int .u8 u))), (2, .ptr 0 0), (5, .ptr 1 0), (6, .ptr 2 0)], σ := [cF f, .cells [.t (vi f.low), .t (vi f.high), .t (vi f.quiet), .t (.slice 3 (f.hs.map tHr)), .loc 3 (f.ss.reverse.take j).length], cF f, .row 2 (((f.ss.reverse.take j).map tSn).map .t)] }) ?_ ?_ ?_ ?_
    · rintro k s rfl; exact ⟨rfl, rfl⟩
    · exact ⟨_, (Sub.ghostC 1 4 2 (by decide) rfl rfl).trans (Sub.gc [0, 1, 2, 3] [48, 47, 1, 2, 5, 6] rfl rfl), St.gc_mk (by simp only [List.map_cons, List.map_nil, lk, Nat.reduceEqDiff, reduceIte, q1, q2, q5, q6]; rfl) rfl rfl rfl⟩
    · rintro j s hj rfl
      have hi : f.ss.length - 1 - j < f.ss.length := by omega
      have hg : f.ss[f.ss.length - 1 - j]? = some f.ss[f.ss.length - 1 - j] := List.getElem?_eq_getElem hi
      have hw : IntKind.i64.wrap ((j : Int) + 1) = ((j + 1 : Nat) : Int) := by rw [wrap_id (by omega) (by omega)]; omega
      have w1 : IntKind.i64.wrap ((f.ss.length : Int) - 1) = ((f.ss.length - 1 : Nat) : Int) := by rw [wrap_id (by omega) (by omega)]; omega
      have w2 : IntKind.i64.wrap (((f.ss.length - 1 : Nat) : Int) - (j : Int)) = ((f.ss.length - 1 - j : Nat) : Int) := by rw [wrap_id (by omega) (by omega)]; omega
      have ht := take_rev f.ss hj
      have hol : (f.ss.reverse.take j).length ≤ 8 := by rw [List.length_take, List.length_reverse]; omega
      generalize f.ss[f.ss.length - 1 - j] = x at *
      generalize f.ss.length - 1 - j = m at *
      generalize f.ss.reverse.take j = o at *
      have hm : (m : Int) < (f.ss.length : Int) := by omega
      simp only [fl5, go_sem, Nat.reduceEqDiff, Nat.reduceAdd, Nat.reduceSub, Nat.reduceMul, Nat.reduceLT, Nat.reduceLeDiff, Nat.reduceMod, Nat.reduceDiv, Int.reduceToNat, Int.reduceLT, Int.reduceLE, Bool.not_true, Bool.not_false, reduceIte, Int.reduceEq, Int.reduceBEq, Int.reduceBNe, Int.reduceGT, Int.reduceGE, Int.reduceNeg, Int.reduceAdd, Int.reduceSub, Nat.reduceBEq, decide_true, decide_false, undef, beq_self_eq_true, bne_self_eq_false, Bool.and_true, Bool.true_and, Bool.and_false, Bool.false_and, Bool.or_true, Bool.true_or, Bool.or_false, Bool.false_or, undef, List.length_map, List.getElem?_map, hg, tSn, Option.map_some, hw, w1, w2]
      refine ⟨⟨by unfold maxLen; omega, by omega⟩, _, Sub.gc [0, 1, 2, 3] [48, 47, 1, 2, 5, 6] rfl rfl, ?_⟩
      rw [ht, List.length_append, List.length_singleton, List.map_append, List.map_append]
      exact St.gc_mk rfl (by
        show [cF f, AO.cells _, cF f, AO.row 2 ((List.map E.t _ ++ List.map E.t [_]).map (E.gc _ _ _))] = _
        rw [List.map_append, gc_row, gc_row]
        rfl) rfl rfl
    · rintro s rfl
      rw [List.take_of_length_le (by simp)]
      simp only [fl5, go_sem, Nat.reduceEqDiff, Nat.reduceAdd, Nat.reduceSub, Nat.reduceMul, Nat.reduceLT, Nat.reduceLeDiff, Nat.reduceMod, Nat.reduceDiv, Int.reduceToNat, Int.reduceLT, Int.reduceLE, Bool.not_true, Bool.not_false, reduceIte, Int.reduceEq, Int.reduceBEq, Int.reduceBNe, Int.reduceGT, Int.reduceGE, Int.reduceNeg, Int.reduceAdd, Int.reduceSub, Nat.reduceBEq, decide_true, decide_false, undef, beq_self_eq_true, bne_self_eq_false, Bool.and_true, Bool.true_and, Bool.and_false, Bool.false_and, Bool.or_true, Bool.true_or, Bool.or_false, Bool.false_or, undef, List.length_map]
      have fin : ∀ (xs : List Sn) (n : Nat) (R : List AO) (env : List (Nat × E)), n = xs.length → (∀ x, x ∈ xs ↔ x ∈ f.ss) → xs.length ≤ 8 → lk env 1 = .t (.lit (.int .u8 u)) → lk env 2 = .ptr 0 0 → lk env 5 = .ptr 1 0 → lk env 6 = .ptr 2 0 →
          St.gc [0, 2] [1, 2, 5, 6] { env := env, σ := cF f :: .cells [.t (vi f.low), .t (vi f.high), .t (vi f.quiet), .t (.slice 3 (f.hs.map tHr)), .loc 3 n] :: cF f :: .row 2 ((xs.map tSn).map .t) :: R } = { env := [(1, .t (.lit (.int .u8 u))), (2, .ptr 0 0), (5, .t (.ptr (.agg (fl5 (withS f xs))) 0)), (6, .ptr 1 0)], σ := [cF f, cF f] } := by
        intro xs n R env hn _ _ r1 r2 r5 r6
        exact St.gc_mk (by simp only [List.map_cons, List.map_nil, r1, r2, r5, r6]; rw [gc_x2 _ _ _ _ _ _ _ _ (by simpa using hn)]; rfl) rfl rfl rfl
      cases g1 : decide ((f.ss.length : Int) > 0)
      · have he : f.ss = [] := by
          have : f.ss.length = 0 := by have := of_decide_eq_false g1; omega
          exact List.length_eq_zero_iff.1 this
        simp only [go_sem, Nat.reduceEqDiff, Nat.reduceAdd, Nat.reduceSub, Nat.reduceMul, Nat.reduceLT, Nat.reduceLeDiff, Nat.reduceMod, Nat.reduceDiv, Int.reduceToNat, Int.reduceLT, Int.reduceLE, Bool.not_true, Bool.not_false, reduceIte, Int.reduceEq, Int.reduceBEq, Int.reduceBNe, Int.reduceGT, Int.reduceGE, Int.reduceNeg, Int.reduceAdd, Int.reduceSub, Nat.reduceBEq, decide_true, decide_false, undef, beq_self_eq_true, bne_self_eq_false, Bool.and_true, Bool.true_and, Bool.and_false, Bool.false_and, Bool.or_true, Bool.true_or, Bool.or_false, Bool.false_or, undef, List.length_map, g1]
        refine awpL_gcpE [0, 2] [1, 2, 5, 6] _ (fin f.ss.reverse _ _ _ rfl (by simp) (by simpa using hns) rfl rfl rfl rfl) rfl rfl ?_
        simp only [cF, fl5, go_sem, Nat.reduceEqDiff, Nat.reduceAdd, Nat.reduceSub, Nat.reduceMul, Nat.reduceLT, Nat.reduceLeDiff, Nat.reduceMod, Nat.reduceDiv, Int.reduceToNat, Int.reduceLT, Int.reduceLE, Bool.not_true, Bool.not_false, reduceIte, Int.reduceEq, Int.reduceBEq, Int.reduceBNe, Int.reduceGT, Int.reduceGE, Int.reduceNeg, Int.reduceAdd, Int.reduceSub, Nat.reduceBEq, decide_true, decide_false, undef, beq_self_eq_true, bne_self_eq_false, Bool.and_true, Bool.true_and, Bool.and_false, Bool.false_and, Bool.or_true, Bool.true_or, Bool.or_false, Bool.false_or, undef, List.length_map]
        repeat' (first
          | refine AndL.mk ?_ ?_
          | refine And.intro (And.intro (by unfold maxLen; omega) (by omega)) ?_
          | exact ⟨f.ss.reverse, by simp, by simpa using hns, rfl, rfl, rfl, rfl, .inl ⟨rfl, rfl, rfl⟩, rfl, rfl⟩
          | exact ⟨f.ss.reverse, by simp, by simpa using hns, rfl, rfl, rfl, rfl, .inr ⟨rfl, rfl, rfl⟩, rfl, rfl⟩
          | simp only [go_sem, Nat.reduceEqDiff, Nat.reduceAdd, Nat.reduceSub, Nat.reduceMul, Nat.reduceLT, Nat.reduceLeDiff, Nat.reduceMod, Nat.reduceDiv, Int.reduceToNat, Int.reduceLT, Int.reduceLE, Bool.not_true, Bool.not_false, reduceIte, Int.reduceEq, Int.reduceBEq, Int.reduceBNe, Int.reduceGT, Int.reduceGE, Int.reduceNeg, Int.reduceAdd, Int.reduceSub, Nat.reduceBEq, decide_true, decide_false, undef, beq_self_eq_true, bne_self_eq_false, Bool.and_true, Bool.true_and, Bool.and_false, Bool.false_and, Bool.or_true, Bool.true_or, Bool.or_false, Bool.false_or, undef, List.length_map])
      · have hpos : 0 < f.ss.length := by have := of_decide_eq_true g1; omega
        cases g2 : decide ((f.ss.length : Int) < 8)
        · simp only [go_sem, Nat.reduceEqDiff, Nat.reduceAdd, Nat.reduceSub, Nat.reduceMul, Nat.reduceLT, Nat.reduceLeDiff, Nat.reduceMod, Nat.reduceDiv, Int.reduceToNat, Int.reduceLT, Int.reduceLE, Bool.not_true, Bool.not_false, reduceIte, Int.reduceEq, Int.reduceBEq, Int.reduceBNe, Int.reduceGT, Int.reduceGE, Int.reduceNeg, Int.reduceAdd, Int.reduceSub, Nat.reduceBEq, decide_true, decide_false, undef, beq_self_eq_true, bne_self_eq_false, Bool.and_true, Bool.true_and, Bool.and_false, Bool.false_and, Bool.or_true, Bool.true_or, Bool.or_false, Bool.false_or, undef, List.length_map, g1, g2]
          refine awpL_gcpE [0, 2] [1, 2, 5, 6] _ (fin f.ss.reverse _ _ _ rfl (by simp) (by simpa using hns) rfl rfl rfl rfl) rfl rfl ?_
          simp only [cF, fl5, go_sem, Nat.reduceEqDiff, Nat.reduceAdd, Nat.reduceSub, Nat.reduceMul, Nat.reduceLT, Nat.reduceLeDiff, Nat.reduceMod, Nat.reduceDiv, Int.reduceToNat, Int.reduceLT, Int.reduceLE, Bool.not_true, Bool.not_false, reduceIte, Int.reduceEq, Int.reduceBEq, Int.reduceBNe, Int.reduceGT, Int.reduceGE, Int.reduceNeg, Int.reduceAdd, Int.reduceSub, Nat.reduceBEq, decide_true, decide_false, undef, beq_self_eq_true, bne_self_eq_false, Bool.and_true, Bool.true_and, Bool.and_false, Bool.false_and, Bool.or_true, Bool.true_or, Bool.or_false, Bool.false_or, undef, List.length_map]
          repeat' (first
            | refine AndL.mk ?_ ?_
            | refine And.intro (And.intro (by unfold maxLen; omega) (by omega)) ?_
            | exact ⟨f.ss.reverse, by simp, by simpa using hns, rfl, rfl, rfl, rfl, .inl ⟨rfl, rfl, rfl⟩, rfl, rfl⟩
            | exact ⟨f.ss.reverse, by simp, by simpa using hns, rfl, rfl, rfl, rfl, .inr ⟨rfl, rfl, rfl⟩, rfl, rfl⟩
            | simp only [go_sem, Nat.reduceEqDiff, Nat.reduceAdd, Nat.reduceSub, Nat.reduceMul, Nat.reduceLT, Nat.reduceLeDiff, Nat.reduceMod, Nat.reduceDiv, Int.reduceToNat, Int.reduceLT, Int.reduceLE, Bool.not_true, Bool.not_false, reduceIte, Int.reduceEq, Int.reduceBEq, Int.reduceBNe, Int.reduceGT, Int.reduceGE, Int.reduceNeg, Int.reduceAdd, Int.reduceSub, Nat.reduceBEq, decide_true, decide_false, undef, beq_self_eq_true, bne_self_eq_false, Bool.and_true, Bool.true_and, Bool.and_false, Bool.false_and, Bool.or_true, Bool.true_or, Bool.or_false, Bool.false_or, undef, List.length_map])
        · have n0 : ¬ ((f.ss.length : Int) = 0) := by omega
          have t1 := mod_nat u f.ss.length
          have w0 : IntKind.i64.wrap (u : Int) = u := wrap_id (by omega) (by omega)
          have hi : u % f.ss.length < f.ss.length := Nat.mod_lt _ hpos
          have hg : f.ss[u % f.ss.length]? = some f.ss[u % f.ss.length] := List.getElem?_eq_getElem hi
          have hmem := List.getElem_mem hi
          generalize f.ss[u % f.ss.length] = x at *
          have hm : ((u % f.ss.length : Nat) : Int) < (f.ss.length : Int) := by omega
          have hlt8 : f.ss.length < 8 := by have := of_decide_eq_true g2; omega
          have hrow : (f.ss.reverse.map tSn).map E.t ++ [E.t (.agg [vi x.h, vb x.up])] = ((f.ss.reverse ++ [x]).map tSn).map E.t := by simp [tSn]
          have hxs : ∀ y, y ∈ f.ss.reverse ++ [x] ↔ y ∈ f.ss := fun y => by
            rw [List.mem_append, List.mem_reverse, List.mem_singleton]
            exact ⟨fun h => h.elim id (fun h => h ▸ hmem), .inl⟩
          have hxl : (f.ss.reverse ++ [x]).length ≤ 8 := by simp; omega
          simp only [cF, fl5, go_sem, Nat.reduceEqDiff, Nat.reduceAdd, Nat.reduceSub, Nat.reduceMul, Nat.reduceLT, Nat.reduceLeDiff, Nat.reduceMod, Nat.reduceDiv, Int.reduceToNat, Int.reduceLT, Int.reduceLE, Bool.not_true, Bool.not_false, reduceIte, Int.reduceEq, Int.reduceBEq, Int.reduceBNe, Int.reduceGT, Int.reduceGE, Int.reduceNeg, Int.reduceAdd, Int.reduceSub, Nat.reduceBEq, decide_true, decide_false, undef, beq_self_eq_true, bne_self_eq_false, Bool.and_true, Bool.true_and, Bool.and_false, Bool.false_and, Bool.or_true, Bool.true_or, Bool.or_false, Bool.false_or, undef, List.length_map, g1, g2, n0, t1, w0, List.getElem?_map, hg, tSn, Option.map_some]
          refine ⟨⟨by rw [List.length_reverse]; unfold maxLen; omega, by rw [List.length_reverse]; omega⟩, ?_⟩
          simp only [hrow]
          refine awpL_gcpE [0, 2] [1, 2, 5, 6] _ (fin (f.ss.reverse ++ [x]) _ _ _ (by simp) hxs hxl rfl rfl rfl rfl) rfl rfl ?_
          simp only [cF, fl5, go_sem, Nat.reduceEqDiff, Nat.reduceAdd, Nat.reduceSub, Nat.reduceMul, Nat.reduceLT, Nat.reduceLeDiff, Nat.reduceMod, Nat.reduceDiv, Int.reduceToNat, Int.reduceLT, Int.reduceLE, Bool.not_true, Bool.not_false, reduceIte, Int.reduceEq, Int.reduceBEq, Int.reduceBNe, Int.reduceGT, Int.reduceGE, Int.reduceNeg, Int.reduceAdd, Int.reduceSub, Nat.reduceBEq, decide_true, decide_false, undef, beq_self_eq_true, bne_self_eq_false, Bool.and_true, Bool.true_and, Bool.and_false, Bool.false_and, Bool.or_true, Bool.true_or, Bool.or_false, Bool.false_or, undef, List.length_map]
          repeat' (first
            | refine AndL.mk ?_ ?_
            | refine And.intro (And.intro (by unfold maxLen; omega) (by omega)) ?_
            | exact ⟨f.ss.reverse ++ [x], hxs, hxl, rfl, rfl, rfl, rfl, .inl ⟨rfl, rfl, rfl⟩, rfl, rfl⟩
            | exact ⟨f.ss.reverse ++ [x], hxs, hxl, rfl, rfl, rfl, rfl, .inr ⟨rfl, rfl, rfl⟩, rfl, rfl⟩
            | simp only [go_sem, Nat.reduceEqDiff, Nat.reduceAdd, Nat.reduceSub, Nat.reduceMul, Nat.reduceLT, Nat.reduceLeDiff, Nat.reduceMod, Nat.reduceDiv, Int.reduceToNat, Int.reduceLT, Int.reduceLE, Bool.not_true, Bool.not_false, reduceIte, Int.reduceEq, Int.reduceBEq, Int.reduceBNe, Int.reduceGT, Int.reduceGE, Int.reduceNeg, Int.reduceAdd, Int.reduceSub, Nat.reduceBEq, decide_true, decide_false, undef, beq_self_eq_true, bne_self_eq_false, Bool.and_true, Bool.true_and, Bool.and_false, Bool.false_and, Bool.or_true, Bool.true_or, Bool.or_false, Bool.false_or, undef, List.length_map])
  rintro ⟨env, σ, df, k⟩ ⟨xs, hxs, hxl, q1, q2, q5, q6, hor, hdf, hk⟩
  simp only at q1 q2 q5 q6 hor hdf hk
  subst hdf hk
  have hg : (withS f xs).OK := withS_OK hf hxl fun s hs => hf.ss s ((hxs s).1 hs)
  have ht := truths_same f xs hxs
  have hok := (Fl.ok_iff _).2 hf
  have hokx := (Fl.ok_iff _).2 hg
  have hLx : Lens (withS f xs) := ⟨hL.1, by have : (withS f xs).ss.length = xs.length := rfl
                                            omega⟩
  have h17 := Up_ok f hL
  have h19 := Count_ok f hL
  have h21 := Long_ok f hL
  have h27 := Ask_ok f hL
  have x17 := Up_ok (withS f xs) hLx
  have x19 := Count_ok (withS f xs) hLx
  have x21 := Long_ok (withS f xs) hLx
  have x27 := Ask_ok (withS f xs) hLx
  rw [specUp_same hf hg ht] at x17
  rw [specCount_same hf hg ht] at x19
  rw [specLong_same hf hg ht] at x21
  rw [specAsk_same hf hg ht] at x27
  obtain ⟨a1, a2, a3, e1⟩ : ∃ a b c, specUp f = (a, b, c) := ⟨_, _, _, rfl⟩
  obtain ⟨b1, b2, e2⟩ : ∃ a b, specCount f = (a, b) := ⟨_, _, rfl⟩
  obtain ⟨c1, c2, c3, e3⟩ : ∃ a b c, specLong f = ((a, b), c) := ⟨_, _, _, rfl⟩
  obtain ⟨d1, d2, d3, e4⟩ : ∃ a b c, specAsk f = (a, b, c) := ⟨_, _, _, rfl⟩
  rw [e1] at h17 x17
  rw [e2] at h19 x19
  rw [e3] at h21 x21
  rw [e4] at h27 x27
  simp only [twoE, oneE, spanE, tSp, fl5] at h17 h19 h21 h27 x17 x19 x21 x27
  have hrow3 : ∀ (kp : List Nat) (σ : List AO) (n : Nat), n = f.hs.length → True := fun _ _ _ _ => trivial
  refine awpL_chop 9 (c1 := ?d1) (c2 := ?d2) (TwMid3 f u) ?hc3 ?_ ?_
  case hc3 => simp only [chop]; rfl
  · have step : ∀ (σ : List AO), σ = σ → True := fun _ _ => trivial
    rcases hor with ⟨q9, q10, hσ⟩ | ⟨q9, q10, hσ⟩
    all_goals
      subst hσ
      simp only [go_sem, Nat.reduceEqDiff, Nat.reduceAdd, Nat.reduceSub, Nat.reduceMul, Nat.reduceLT, Nat.reduceLeDiff, Nat.reduceMod, Nat.reduceDiv, Int.reduceToNat, Int.reduceLT, Int.reduceLE, Bool.not_true, Bool.not_false, reduceIte, Int.reduceEq, Int.reduceBEq, Int.reduceBNe, Int.reduceGT, Int.reduceGE, Int.reduceNeg, Int.reduceAdd, Int.reduceSub, Nat.reduceBEq, decide_true, decide_false, undef, beq_self_eq_true, bne_self_eq_false, Bool.and_true, Bool.true_and, Bool.and_false, Bool.false_and, Bool.or_true, Bool.true_or, Bool.or_false, Bool.false_or]
    · refine awpL_gcpE [0, 1] [1, 2, 5, 6, 9, 10] { env := [(1, .t (.lit (.int .u8 u))), (2, .ptr 0 0), (5, .t (.ptr (.agg (fl5 (withS f xs))) 0)), (6, .ptr 1 0), (9, .t (.slice 3 (f.hs.map tHr))), (10, .t (.slice 2 (f.ss.map tSn)))], σ := [cF f, cF f] } ?_ rfl rfl ?_
      · exact St.gc_mk (by
          simp only [List.map_cons, List.map_nil, q1, q2, q5, q6, q9, q10]
          rw [gc_loc (id := 2) (n := 10) (xs := f.hs.map tHr) rfl rfl (by simp), gc_loc (id := 3) (n := 10) (xs := f.ss.map tSn) rfl rfl (by simp)]
          rfl) rfl rfl rfl
      simp only [cF, fl5, withS, go_sem, Nat.reduceEqDiff, Nat.reduceAdd, Nat.reduceSub, Nat.reduceMul, Nat.reduceLT, Nat.reduceLeDiff, Nat.reduceMod, Nat.reduceDiv, Int.reduceToNat, Int.reduceLT, Int.reduceLE, Bool.not_true, Bool.not_false, reduceIte, Int.reduceEq, Int.reduceBEq, Int.reduceBNe, Int.reduceGT, Int.reduceGE, Int.reduceNeg, Int.reduceAdd, Int.reduceSub, Nat.reduceBEq, decide_true, decide_false, undef, beq_self_eq_true, bne_self_eq_false, Bool.and_true, Bool.true_and, Bool.and_false, Bool.false_and, Bool.or_true, Bool.true_or, Bool.or_false, Bool.false_or, undef, List.length_map]
      refine ACallL.quiet1 h17 rfl rfl rfl ?_
      simp only [go_sem, Nat.reduceEqDiff, Nat.reduceAdd, Nat.reduceSub, Nat.reduceMul, Nat.reduceLT, Nat.reduceLeDiff, Nat.reduceMod, Nat.reduceDiv, Int.reduceToNat, Int.reduceLT, Int.reduceLE, Bool.not_true, Bool.not_false, reduceIte, Int.reduceEq, Int.reduceBEq, Int.reduceBNe, Int.reduceGT, Int.reduceGE, Int.reduceNeg, Int.reduceAdd, Int.reduceSub, Nat.reduceBEq, decide_true, decide_false, undef, beq_self_eq_true, bne_self_eq_false, Bool.and_true, Bool.true_and, Bool.and_false, Bool.false_and, Bool.or_true, Bool.true_or, Bool.or_false, Bool.false_or, undef]
      refine ACallL.quiet1 x17 rfl rfl rfl ?_
      simp only [go_sem, Nat.reduceEqDiff, Nat.reduceAdd, Nat.reduceSub, Nat.reduceMul, Nat.reduceLT, Nat.reduceLeDiff, Nat.reduceMod, Nat.reduceDiv, Int.reduceToNat, Int.reduceLT, Int.reduceLE, Bool.not_true, Bool.not_false, reduceIte, Int.reduceEq, Int.reduceBEq, Int.reduceBNe, Int.reduceGT, Int.reduceGE, Int.reduceNeg, Int.reduceAdd, Int.reduceSub, Nat.reduceBEq, decide_true, decide_false, undef, beq_self_eq_true, bne_self_eq_false, Bool.and_true, Bool.true_and, Bool.and_false, Bool.false_and, Bool.or_true, Bool.true_or, Bool.or_false, Bool.false_or, undef]
      refine ACallL.quiet1 h19 rfl rfl rfl ?_
      simp only [go_sem, Nat.reduceEqDiff, Nat.reduceAdd, Nat.reduceSub, Nat.reduceMul, Nat.reduceLT, Nat.reduceLeDiff, Nat.reduceMod, Nat.reduceDiv, Int.reduceToNat, Int.reduceLT, Int.reduceLE, Bool.not_true, Bool.not_false, reduceIte, Int.reduceEq, Int.reduceBEq, Int.reduceBNe, Int.reduceGT, Int.reduceGE, Int.reduceNeg, Int.reduceAdd, Int.reduceSub, Nat.reduceBEq, decide_true, decide_false, undef, beq_self_eq_true, bne_self_eq_false, Bool.and_true, Bool.true_and, Bool.and_false, Bool.false_and, Bool.or_true, Bool.true_or, Bool.or_false, Bool.false_or, undef]
      refine ACallL.quiet1 x19 rfl rfl rfl ?_
      simp only [go_sem, Nat.reduceEqDiff, Nat.reduceAdd, Nat.reduceSub, Nat.reduceMul, Nat.reduceLT, Nat.reduceLeDiff, Nat.reduceMod, Nat.reduceDiv, Int.reduceToNat, Int.reduceLT, Int.reduceLE, Bool.not_true, Bool.not_false, reduceIte, Int.reduceEq, Int.reduceBEq, Int.reduceBNe, Int.reduceGT, Int.reduceGE, Int.reduceNeg, Int.reduceAdd, Int.reduceSub, Nat.reduceBEq, decide_true, decide_false, undef, beq_self_eq_true, bne_self_eq_false, Bool.and_true, Bool.true_and, Bool.and_false, Bool.false_and, Bool.or_true, Bool.true_or, Bool.or_false, Bool.false_or, undef]
      refine ACallL.fresh1 h21 rfl ?_
      simp only [go_sem, Nat.reduceEqDiff, Nat.reduceAdd, Nat.reduceSub, Nat.reduceMul, Nat.reduceLT, Nat.reduceLeDiff, Nat.reduceMod, Nat.reduceDiv, Int.reduceToNat, Int.reduceLT, Int.reduceLE, Bool.not_true, Bool.not_false, reduceIte, Int.reduceEq, Int.reduceBEq, Int.reduceBNe, Int.reduceGT, Int.reduceGE, Int.reduceNeg, Int.reduceAdd, Int.reduceSub, Nat.reduceBEq, decide_true, decide_false, undef, beq_self_eq_true, bne_self_eq_false, Bool.and_true, Bool.true_and, Bool.and_false, Bool.false_and, Bool.or_true, Bool.true_or, Bool.or_false, Bool.false_or, undef]
      refine ACallL.fresh1 x21 rfl ?_
      simp only [go_sem, Nat.reduceEqDiff, Nat.reduceAdd, Nat.reduceSub, Nat.reduceMul, Nat.reduceLT, Nat.reduceLeDiff, Nat.reduceMod, Nat.reduceDiv, Int.reduceToNat, Int.reduceLT, Int.reduceLE, Bool.not_true, Bool.not_false, reduceIte, Int.reduceEq, Int.reduceBEq, Int.reduceBNe, Int.reduceGT, Int.reduceGE, Int.reduceNeg, Int.reduceAdd, Int.reduceSub, Nat.reduceBEq, decide_true, decide_false, undef, beq_self_eq_true, bne_self_eq_false, Bool.and_true, Bool.true_and, Bool.and_false, Bool.false_and, Bool.or_true, Bool.true_or, Bool.or_false, Bool.false_or, undef]
      refine ACallL.quiet1 h27 rfl rfl rfl ?_
      simp only [go_sem, Nat.reduceEqDiff, Nat.reduceAdd, Nat.reduceSub, Nat.reduceMul, Nat.reduceLT, Nat.reduceLeDiff, Nat.reduceMod, Nat.reduceDiv, Int.reduceToNat, Int.reduceLT, Int.reduceLE, Bool.not_true, Bool.not_false, reduceIte, Int.reduceEq, Int.reduceBEq, Int.reduceBNe, Int.reduceGT, Int.reduceGE, Int.reduceNeg, Int.reduceAdd, Int.reduceSub, Nat.reduceBEq, decide_true, decide_false, undef, beq_self_eq_true, bne_self_eq_false, Bool.and_true, Bool.true_and, Bool.and_false, Bool.false_and, Bool.or_true, Bool.true_or, Bool.or_false, Bool.false_or, undef]
      refine ACallL.quiet1 x27 rfl rfl rfl ?_
      simp only [go_sem, Nat.reduceEqDiff, Nat.reduceAdd, Nat.reduceSub, Nat.reduceMul, Nat.reduceLT, Nat.reduceLeDiff, Nat.reduceMod, Nat.reduceDiv, Int.reduceToNat, Int.reduceLT, Int.reduceLE, Bool.not_true, Bool.not_false, reduceIte, Int.reduceEq, Int.reduceBEq, Int.reduceBNe, Int.reduceGT, Int.reduceGE, Int.reduceNeg, Int.reduceAdd, Int.reduceSub, Nat.reduceBEq, decide_true, decide_false, undef, beq_self_eq_true, bne_self_eq_false, Bool.and_true, Bool.true_and, Bool.and_false, Bool.false_and, Bool.or_true, Bool.true_or, Bool.or_false, Bool.false_or, undef, toKey2, kEq2, beq_self_eq_true, bne_self_eq_false, Bool.and_true, Bool.not_true, Bool.not_false]
      exact ⟨rfl, rfl, rfl, rfl, rfl, ⟨_, _, rfl⟩, rfl, rfl⟩
    · refine awpL_gcpE [0, 1] [1, 2, 5, 6, 9, 10] { env := [(1, .t (.lit (.int .u8 u))), (2, .ptr 0 0), (5, .t (.ptr (.agg (fl5 (withS f xs))) 0)), (6, .ptr 1 0), (9, .t (.slice 3 (f.hs.map tHr))), (10, .t (.slice 2 (f.ss.map tSn)))], σ := [cF f, cF f] } ?_ rfl rfl ?_
      · exact St.gc_mk (by
          simp only [List.map_cons, List.map_nil, q1, q2, q5, q6, q9, q10]
          rw [gc_loc (id := 3) (n := 10) (xs := f.hs.map tHr) rfl rfl (by simp), gc_loc (id := 2) (n := 10) (xs := f.ss.map tSn) rfl rfl (by simp)]
          rfl) rfl rfl rfl
      simp only [cF, fl5, withS, go_sem, Nat.reduceEqDiff, Nat.reduceAdd, Nat.reduceSub, Nat.reduceMul, Nat.reduceLT, Nat.reduceLeDiff, Nat.reduceMod, Nat.reduceDiv, Int.reduceToNat, Int.reduceLT, Int.reduceLE, Bool.not_true, Bool.not_false, reduceIte, Int.reduceEq, Int.reduceBEq, Int.reduceBNe, Int.reduceGT, Int.reduceGE, Int.reduceNeg, Int.reduceAdd, Int.reduceSub, Nat.reduceBEq, decide_true, decide_false, undef, beq_self_eq_true, bne_self_eq_false, Bool.and_true, Bool.true_and, Bool.and_false, Bool.false_and, Bool.or_true, Bool.true_or, Bool.or_false, Bool.false_or, undef, List.length_map]
      refine ACallL.quiet1 h17 rfl rfl rfl ?_
      simp only [go_sem, Nat.reduceEqDiff, Nat.reduceAdd, Nat.reduceSub, Nat.reduceMul, Nat.reduceLT, Nat.reduceLeDiff, Nat.reduceMod, Nat.reduceDiv, Int.reduceToNat, Int.reduceLT, Int.reduceLE, Bool.not_true, Bool.not_false, reduceIte, Int.reduceEq, Int.reduceBEq, Int.reduceBNe, Int.reduceGT, Int.reduceGE, Int.reduceNeg, Int.reduceAdd, Int.reduceSub, Nat.reduceBEq, decide_true, decide_false, undef, beq_self_eq_true, bne_self_eq_false, Bool.and_true, Bool.true_and, Bool.and_false, Bool.false_and, Bool.or_true, Bool.true_or, Bool.or_false, Bool.false_or, undef]
      refine ACallL.quiet1 x17 rfl rfl rfl ?_
      simp only [go_sem, Nat.reduceEqDiff, Nat.reduceAdd, Nat.reduceSub, Nat.reduceMul, Nat.reduceLT, Nat.reduceLeDiff, Nat.reduceMod, Nat.reduceDiv, Int.reduceToNat, Int.reduceLT, Int.reduceLE, Bool.not_true, Bool.not_false, reduceIte, Int.reduceEq, Int.reduceBEq, Int.reduceBNe, Int.reduceGT, Int.reduceGE, Int.reduceNeg, Int.reduceAdd, Int.reduceSub, Nat.reduceBEq, decide_true, decide_false, undef, beq_self_eq_true, bne_self_eq_false, Bool.and_true, Bool.true_and, Bool.and_false, Bool.false_and, Bool.or_true, Bool.true_or, Bool.or_false, Bool.false_or, undef]
      refine ACallL.quiet1 h19 rfl rfl rfl ?_
      simp only [go_sem, Nat.reduceEqDiff, Nat.reduceAdd, Nat.reduceSub, Nat.reduceMul, Nat.reduceLT, Nat.reduceLeDiff, Nat.reduceMod, Nat.reduceDiv, Int.reduceToNat, Int.reduceLT, Int.reduceLE, Bool.not_true, Bool.not_false, reduceIte, Int.reduceEq, Int.reduceBEq, Int.reduceBNe, Int.reduceGT, Int.reduceGE, Int.reduceNeg, Int.reduceAdd, Int.reduceSub, Nat.reduceBEq, decide_true, decide_false, undef, beq_self_eq_true, bne_self_eq_false, Bool.and_true, Bool.true_and, Bool.and_false, Bool.false_and, Bool.or_true, Bool.true_or, Bool.or_false, Bool.false_or, undef]
      refine ACallL.quiet1 x19 rfl rfl rfl ?_
      simp only [go_sem, Nat.reduceEqDiff, Nat.reduceAdd, Nat.reduceSub, Nat.reduceMul, Nat.reduceLT, Nat.reduceLeDiff, Nat.reduceMod, Nat.reduceDiv, Int.reduceToNat, Int.reduceLT, Int.reduceLE, Bool.not_true, Bool.not_false, reduceIte, Int.reduceEq, Int.reduceBEq, Int.reduceBNe, Int.reduceGT, Int.reduceGE, Int.reduceNeg, Int.reduceAdd, Int.reduceSub, Nat.reduceBEq, decide_true, decide_false, undef, beq_self_eq_true, bne_self_eq_false, Bool.and_true, Bool.true_and, Bool.and_false, Bool.false_and, Bool.or_true, Bool.true_or, Bool.or_false, Bool.false_or, undef]
      refine ACallL.fresh1 h21 rfl ?_
      simp only [go_sem, Nat.reduceEqDiff, Nat.reduceAdd, Nat.reduceSub, Nat.reduceMul, Nat.reduceLT, Nat.reduceLeDiff, Nat.reduceMod, Nat.reduceDiv, Int.reduceToNat, Int.reduceLT, Int.reduceLE, Bool.not_true, Bool.not_false, reduceIte, Int.reduceEq, Int.reduceBEq, Int.reduceBNe, Int.reduceGT, Int.reduceGE, Int.reduceNeg, Int.reduceAdd, Int.reduceSub, Nat.reduceBEq, decide_true, decide_false, undef, beq_self_eq_true, bne_self_eq_false, Bool.and_true, Bool.true_and, Bool.and_false, Bool.false_and, Bool.or_true, Bool.true_or, Bool.or_false, Bool.false_or, undef]
      refine ACallL.fresh1 x21 rfl ?_
      simp only [go_sem, Nat.reduceEqDiff, Nat.reduceAdd, Nat.reduceSub, Nat.reduceMul, Nat.reduceLT, Nat.reduceLeDiff, Nat.reduceMod, Nat.reduceDiv, Int.reduceToNat, Int.reduceLT, Int.reduceLE, Bool.not_true, Bool.not_false, reduceIte, Int.reduceEq, Int.reduceBEq, Int.reduceBNe, Int.reduceGT, Int.reduceGE, Int.reduceNeg, Int.reduceAdd, Int.reduceSub, Nat.reduceBEq, decide_true, decide_false, undef, beq_self_eq_true, bne_self_eq_false, Bool.and_true, Bool.true_and, Bool.and_false, Bool.false_and, Bool.or_true, Bool.true_or, Bool.or_false, Bool.false_or, undef]
      refine ACallL.quiet1 h27 rfl rfl rfl ?_
      simp only [go_sem, Nat.reduceEqDiff, Nat.reduceAdd, Nat.reduceSub, Nat.reduceMul, Nat.reduceLT, Nat.reduceLeDiff, Nat.reduceMod, Nat.reduceDiv, Int.reduceToNat, Int.reduceLT, Int.reduceLE, Bool.not_true, Bool.not_false, reduceIte, Int.reduceEq, Int.reduceBEq, Int.reduceBNe, Int.reduceGT, Int.reduceGE, Int.reduceNeg, Int.reduceAdd, Int.reduceSub, Nat.reduceBEq, decide_true, decide_false, undef, beq_self_eq_true, bne_self_eq_false, Bool.and_true, Bool.true_and, Bool.and_false, Bool.false_and, Bool.or_true, Bool.true_or, Bool.or_false, Bool.false_or, undef]
      refine ACallL.quiet1 x27 rfl rfl rfl ?_
      simp only [go_sem, Nat.reduceEqDiff, Nat.reduceAdd, Nat.reduceSub, Nat.reduceMul, Nat.reduceLT, Nat.reduceLeDiff, Nat.reduceMod, Nat.reduceDiv, Int.reduceToNat, Int.reduceLT, Int.reduceLE, Bool.not_true, Bool.not_false, reduceIte, Int.reduceEq, Int.reduceBEq, Int.reduceBNe, Int.reduceGT, Int.reduceGE, Int.reduceNeg, Int.reduceAdd, Int.reduceSub, Nat.reduceBEq, decide_true, decide_false, undef, beq_self_eq_true, bne_self_eq_false, Bool.and_true, Bool.true_and, Bool.and_false, Bool.false_and, Bool.or_true, Bool.true_or, Bool.or_false, Bool.false_or, undef, toKey2, kEq2, beq_self_eq_true, bne_self_eq_false, Bool.and_true, Bool.not_true, Bool.not_false]
      exact ⟨rfl, rfl, rfl, rfl, rfl, ⟨_, _, rfl⟩, rfl, rfl⟩
  rintro ⟨env, σ, df, k⟩ ⟨q1, q2, q6, q9, q10, ⟨A, B, hσ⟩, hdf, hk⟩
  simp only at q1 q2 q6 q9 q10 hσ hdf hk
  subst hσ hdf hk
  clear h17 h19 h21 h27 x17 x19 x21 x27
  refine awpL_chop 1 (c1 := ?e1) (c2 := ?e2) (TwMid4 f) ?hc4 ?_ ?_
  case hc4 => simp only [chop]; rfl
  · simp only [cF, fl5, go_sem, Nat.reduceEqDiff, Nat.reduceAdd, Nat.reduceSub, Nat.reduceMul, Nat.reduceLT, Nat.reduceLeDiff, Nat.reduceMod, Nat.reduceDiv, Int.reduceToNat, Int.reduceLT, Int.reduceLE, Bool.not_true, Bool.not_false, reduceIte, Int.reduceEq, Int.reduceBEq, Int.reduceBNe, Int.reduceGT, Int.reduceGE, Int.reduceNeg, Int.reduceAdd, Int.reduceSub, Nat.reduceBEq, decide_true, decide_false, undef, beq_self_eq_true, bne_self_eq_false, Bool.and_true, Bool.true_and, Bool.and_false, Bool.false_and, Bool.or_true, Bool.true_or, Bool.or_false, Bool.false_or, undef, List.length_map, q1, q2, q6, q9, q10]
    cases g1 : decide ((f.hs.length : Int) > 0)
    · simp only [cF, fl5, go_sem, Nat.reduceEqDiff, Nat.reduceAdd, Nat.reduceSub, Nat.reduceMul, Nat.reduceLT, Nat.reduceLeDiff, Nat.reduceMod, Nat.reduceDiv, Int.reduceToNat, Int.reduceLT, Int.reduceLE, Bool.not_true, Bool.not_false, reduceIte, Int.reduceEq, Int.reduceBEq, Int.reduceBNe, Int.reduceGT, Int.reduceGE, Int.reduceNeg, Int.reduceAdd, Int.reduceSub, Nat.reduceBEq, decide_true, decide_false, undef, beq_self_eq_true, bne_self_eq_false, Bool.and_true, Bool.true_and, Bool.and_false, Bool.false_and, Bool.or_true, Bool.true_or, Bool.or_false, Bool.false_or, undef, List.length_map, q1, q2, q6, q9, q10, g1]
      exact ⟨q2, q9, q10, ⟨_, rfl⟩, rfl, rfl⟩
    have hpos : 0 < f.hs.length := by have := of_decide_eq_true g1; omega
    cases g2 : decide ((f.ss.length : Int) ≤ 6)
    · simp only [cF, fl5, go_sem, Nat.reduceEqDiff, Nat.reduceAdd, Nat.reduceSub, Nat.reduceMul, Nat.reduceLT, Nat.reduceLeDiff, Nat.reduceMod, Nat.reduceDiv, Int.reduceToNat, Int.reduceLT, Int.reduceLE, Bool.not_true, Bool.not_false, reduceIte, Int.reduceEq, Int.reduceBEq, Int.reduceBNe, Int.reduceGT, Int.reduceGE, Int.reduceNeg, Int.reduceAdd, Int.reduceSub, Nat.reduceBEq, decide_true, decide_false, undef, beq_self_eq_true, bne_self_eq_false, Bool.and_true, Bool.true_and, Bool.and_false, Bool.false_and, Bool.or_true, Bool.true_or, Bool.or_false, Bool.false_or, undef, List.length_map, q1, q2, q6, q9, q10, g1, g2]
      exact ⟨q2, q9, q10, ⟨_, rfl⟩, rfl, rfl⟩
    have hs6 : f.ss.length ≤ 6 := by have := of_decide_eq_true g2; omega
    have n0 : ¬ ((f.hs.length : Int) = 0) := by omega
    have t1 := mod_nat u f.hs.length
    have w0 : IntKind.i64.wrap (u : Int) = u := wrap_id (by omega) (by omega)
    have hv : u % f.hs.length < f.hs.length := Nat.mod_lt _ hpos
    generalize u % f.hs.length = v at *
    have hyt := truths_clash f v
    have hyOK : (withS f (f.ss ++ [(⟨v, true⟩ : Sn), (⟨v, false⟩ : Sn)])).OK := withS_OK hf (by simp; omega) fun s hs => by
      rcases List.mem_append.1 hs with h | h
      · exact hf.ss s h
      · simp at h
        rcases h with rfl | rfl
        · simp only; omega
        · simp only; omega
    have hyL : Lens (withS f (f.ss ++ [(⟨v, true⟩ : Sn), (⟨v, false⟩ : Sn)])) := ⟨hL.1, by
      have : (withS f (f.ss ++ [(⟨v, true⟩ : Sn), (⟨v, false⟩ : Sn)])).ss.length = f.ss.length + 2 := by simp [withS]
      omega⟩
    have y19 := Count_ok _ hyL
    have y29 := Wrong_ok _ hyL
    have e5 : specCount (withS f (f.ss ++ [(⟨v, true⟩ : Sn), (⟨v, false⟩ : Sn)])) = (0, 0) := by simp only [specCount, (Fl.ok_iff _).2 hyOK, hyt]; rfl
    obtain ⟨z, e6⟩ : ∃ z, specWrong (withS f (f.ss ++ [(⟨v, true⟩ : Sn), (⟨v, false⟩ : Sn)])) = (z, 0) := by
      have hT : noT (withS f (f.ss ++ [(⟨v, true⟩ : Sn), (⟨v, false⟩ : Sn)])) = true := by unfold noT; rw [hyt]; rfl
      simp only [specWrong, (Fl.ok_iff _).2 hyOK, hT, bestW_wrong _ hyOK]
      exact ⟨_, rfl⟩
    rw [e5] at y19
    rw [e6] at y29
    have hrow : (f.ss.map tSn).map E.t ++ [E.t (.agg [vi v, vb true]), E.t (.agg [vi v, vb false])] = ((f.ss ++ [(⟨v, true⟩ : Sn), (⟨v, false⟩ : Sn)]).map tSn).map E.t := by simp [tSn]
    have hyl : (f.ss ++ [(⟨v, true⟩ : Sn), (⟨v, false⟩ : Sn)]).length = f.ss.length + 2 := by simp
    simp only [oneE, fl5, withS] at y19 y29
    generalize hyy : f.ss ++ [(⟨v, true⟩ : Sn), (⟨v, false⟩ : Sn)] = ys at *
    simp only [cF, fl5, go_sem, Nat.reduceEqDiff, Nat.reduceAdd, Nat.reduceSub, Nat.reduceMul, Nat.reduceLT, Nat.reduceLeDiff, Nat.reduceMod, Nat.reduceDiv, Int.reduceToNat, Int.reduceLT, Int.reduceLE, Bool.not_true, Bool.not_false, reduceIte, Int.reduceEq, Int.reduceBEq, Int.reduceBNe, Int.reduceGT, Int.reduceGE, Int.reduceNeg, Int.reduceAdd, Int.reduceSub, Nat.reduceBEq, decide_true, decide_false, undef, beq_self_eq_true, bne_self_eq_false, Bool.and_true, Bool.true_and, Bool.and_false, Bool.false_and, Bool.or_true, Bool.true_or, Bool.or_false, Bool.false_or, undef, List.length_map, q1, q2, q6, q9, q10, g1, g2, n0, t1, w0]
    refine ⟨⟨by unfold maxLen; omega, by omega⟩, ?_⟩
    refine ACallL.quiet1 (seen_ok _ _) rfl rfl rfl ?_
    simp only [cF, fl5, go_sem, Nat.reduceEqDiff, Nat.reduceAdd, Nat.reduceSub, Nat.reduceMul, Nat.reduceLT, Nat.reduceLeDiff, Nat.reduceMod, Nat.reduceDiv, Int.reduceToNat, Int.reduceLT, Int.reduceLE, Bool.not_true, Bool.not_false, reduceIte, Int.reduceEq, Int.reduceBEq, Int.reduceBNe, Int.reduceGT, Int.reduceGE, Int.reduceNeg, Int.reduceAdd, Int.reduceSub, Nat.reduceBEq, decide_true, decide_false, undef, beq_self_eq_true, bne_self_eq_false, Bool.and_true, Bool.true_and, Bool.and_false, Bool.false_and, Bool.or_true, Bool.true_or, Bool.or_false, Bool.false_or, undef, List.length_map, q1, q2, q6, q9, q10]
    refine ACallL.quiet1 (seen_ok _ _) rfl rfl rfl ?_
    simp only [cF, fl5, go_sem, Nat.reduceEqDiff, Nat.reduceAdd, Nat.reduceSub, Nat.reduceMul, Nat.reduceLT, Nat.reduceLeDiff, Nat.reduceMod, Nat.reduceDiv, Int.reduceToNat, Int.reduceLT, Int.reduceLE, Bool.not_true, Bool.not_false, reduceIte, Int.reduceEq, Int.reduceBEq, Int.reduceBNe, Int.reduceGT, Int.reduceGE, Int.reduceNeg, Int.reduceAdd, Int.reduceSub, Nat.reduceBEq, decide_true, decide_false, undef, beq_self_eq_true, bne_self_eq_false, Bool.and_true, Bool.true_and, Bool.and_false, Bool.false_and, Bool.or_true, Bool.true_or, Bool.or_false, Bool.false_or, undef, List.length_map, q1, q2, q6, q9, q10]
    refine ⟨⟨by unfold maxLen; omega, by omega⟩, ?_⟩
    simp only [hrow]
    have hgc : ∀ (X Y A B : AO) (R : List AO), E.gc [] (X :: Y :: A :: B :: .row 2 ((ys.map tSn).map .t) :: R) 12 (.agg [.t (vi f.low), .t (vi f.high), .t (vi f.quiet), .t (.slice 3 (f.hs.map tHr)), .loc 4 (f.ss.length + 2)]) = .t (.agg [vi f.low, vi f.high, vi f.quiet, .slice 3 (f.hs.map tHr), .slice 2 (ys.map tSn)]) := by
      intro X Y A B R
      have h : E.gc [] (X :: Y :: A :: B :: .row 2 ((ys.map tSn).map .t) :: R) 11 (.loc 4 (f.ss.length + 2)) = .t (.slice 2 (ys.map tSn)) := gc_loc (n := 9) rfl rfl (by simpa using hyl.symm)
      rw [E.gc]
      simp only [List.map_cons, List.map_nil, gc_t, h]
      rfl
    refine ACallL.quiet1 y19 rfl (by rw [List.map_cons, List.map_nil, hgc]) rfl ?_
    simp only [cF, fl5, go_sem, Nat.reduceEqDiff, Nat.reduceAdd, Nat.reduceSub, Nat.reduceMul, Nat.reduceLT, Nat.reduceLeDiff, Nat.reduceMod, Nat.reduceDiv, Int.reduceToNat, Int.reduceLT, Int.reduceLE, Bool.not_true, Bool.not_false, reduceIte, Int.reduceEq, Int.reduceBEq, Int.reduceBNe, Int.reduceGT, Int.reduceGE, Int.reduceNeg, Int.reduceAdd, Int.reduceSub, Nat.reduceBEq, decide_true, decide_false, undef, beq_self_eq_true, bne_self_eq_false, Bool.and_true, Bool.true_and, Bool.and_false, Bool.false_and, Bool.or_true, Bool.true_or, Bool.or_false, Bool.false_or, undef, List.length_map, q1, q2, q6, q9, q10]
    refine ACallL.quiet1 y29 rfl (by rw [List.map_cons, List.map_nil, hgc]) rfl ?_
    simp only [cF, fl5, go_sem, Nat.reduceEqDiff, Nat.reduceAdd, Nat.reduceSub, Nat.reduceMul, Nat.reduceLT, Nat.reduceLeDiff, Nat.reduceMod, Nat.reduceDiv, Int.reduceToNat, Int.reduceLT, Int.reduceLE, Bool.not_true, Bool.not_false, reduceIte, Int.reduceEq, Int.reduceBEq, Int.reduceBNe, Int.reduceGT, Int.reduceGE, Int.reduceNeg, Int.reduceAdd, Int.reduceSub, Nat.reduceBEq, decide_true, decide_false, undef, beq_self_eq_true, bne_self_eq_false, Bool.and_true, Bool.true_and, Bool.and_false, Bool.false_and, Bool.or_true, Bool.true_or, Bool.or_false, Bool.false_or, undef, List.length_map, q1, q2, q6, q9, q10]
    exact ⟨q2, q9, q10, ⟨_, rfl⟩, rfl, rfl⟩
  rintro ⟨env, σ, df, k⟩ ⟨q2, q9, q10, ⟨R, hσ⟩, hdf, hk⟩
  simp only at q2 q9 q10 hσ hdf hk
  subst hσ hdf hk
  refine awpL_chop 1 (c1 := ?f1) (c2 := ?f2) (TwMid5 f) ?hc5 ?_ ?_
  case hc5 => simp only [chop]; rfl
  · simp only [cF, fl5, go_sem, Nat.reduceEqDiff, Nat.reduceAdd, Nat.reduceSub, Nat.reduceMul, Nat.reduceLT, Nat.reduceLeDiff, Nat.reduceMod, Nat.reduceDiv, Int.reduceToNat, Int.reduceLT, Int.reduceLE, Bool.not_true, Bool.not_false, reduceIte, Int.reduceEq, Int.reduceBEq, Int.reduceBNe, Int.reduceGT, Int.reduceGE, Int.reduceNeg, Int.reduceAdd, Int.reduceSub, Nat.reduceBEq, decide_true, decide_false, undef, beq_self_eq_true, bne_self_eq_false, Bool.and_true, Bool.true_and, Bool.and_false, Bool.false_and, Bool.or_true, Bool.true_or, Bool.or_false, Bool.false_or, undef, List.length_map, q2, q9, q10]
    refine awpL_for (i := 238) (L := 237) f.hs.length (fun j s => s = { env := [(238, .t (vi j)), (237, .t (vi f.hs.length)), (2, .ptr 0 0), (9, .t (.slice 3 (f.hs.map tHr))), (10, .t (.slice 2 (f.ss.map tSn)))], σ := [cF f] }) ?_ ?_ ?_ ?_
    · rintro k s rfl; exact ⟨rfl, rfl⟩
    · exact ⟨_, Sub.gc [0] [238, 237, 2, 9, 10] rfl rfl, St.gc_mk (by simp only [List.map_cons, List.map_nil, lk, Nat.reduceEqDiff, reduceIte, q2, q9, q10]; rfl) rfl rfl rfl⟩
    · rintro j s hj rfl
      have hg : f.hs[j]? = some f.hs[j] := List.getElem?_eq_getElem hj
      have hw : IntKind.i64.wrap ((j : Int) + 1) = ((j + 1 : Nat) : Int) := by rw [wrap_id (by omega) (by omega)]; omega
      have hjl : (j : Int) < (f.hs.length : Int) := by omega
      generalize f.hs[j] = x at *
      simp only [cF, fl5, go_sem, Nat.reduceEqDiff, Nat.reduceAdd, Nat.reduceSub, Nat.reduceMul, Nat.reduceLT, Nat.reduceLeDiff, Nat.reduceMod, Nat.reduceDiv, Int.reduceToNat, Int.reduceLT, Int.reduceLE, Bool.not_true, Bool.not_false, reduceIte, Int.reduceEq, Int.reduceBEq, Int.reduceBNe, Int.reduceGT, Int.reduceGE, Int.reduceNeg, Int.reduceAdd, Int.reduceSub, Nat.reduceBEq, decide_true, decide_false, undef, beq_self_eq_true, bne_self_eq_false, Bool.and_true, Bool.true_and, Bool.and_false, Bool.false_and, Bool.or_true, Bool.true_or, Bool.or_false, Bool.false_or, undef, List.length_map, List.getElem?_map, hg, tHr, Option.map_some, toKey3, kEq3, hw]
      exact ⟨_, Sub.gc [0] [238, 237, 2, 9, 10] rfl rfl, rfl⟩
    · rintro s rfl
      simp only [go_sem, Nat.reduceEqDiff, Nat.reduceAdd, Nat.reduceSub, Nat.reduceMul, Nat.reduceLT, Nat.reduceLeDiff, Nat.reduceMod, Nat.reduceDiv, Int.reduceToNat, Int.reduceLT, Int.reduceLE, Bool.not_true, Bool.not_false, reduceIte, Int.reduceEq, Int.reduceBEq, Int.reduceBNe, Int.reduceGT, Int.reduceGE, Int.reduceNeg, Int.reduceAdd, Int.reduceSub, Nat.reduceBEq, decide_true, decide_false, undef, beq_self_eq_true, bne_self_eq_false, Bool.and_true, Bool.true_and, Bool.and_false, Bool.false_and, Bool.or_true, Bool.true_or, Bool.or_false, Bool.false_or, undef]
      exact ⟨rfl, rfl, rfl, rfl, rfl⟩
  rintro ⟨env, σ, df, k⟩ ⟨q2, q10, hσ, hdf, hk⟩
  simp only at q2 q10 hσ hdf hk
  subst hσ hdf hk
  simp only [cF, fl5, go_sem, Nat.reduceEqDiff, Nat.reduceAdd, Nat.reduceSub, Nat.reduceMul, Nat.reduceLT, Nat.reduceLeDiff, Nat.reduceMod, Nat.reduceDiv, Int.reduceToNat, Int.reduceLT, Int.reduceLE, Bool.not_true, Bool.not_false, reduceIte, Int.reduceEq, Int.reduceBEq, Int.reduceBNe, Int.reduceGT, Int.reduceGE, Int.reduceNeg, Int.reduceAdd, Int.reduceSub, Nat.reduceBEq, decide_true, decide_false, undef, beq_self_eq_true, bne_self_eq_false, Bool.and_true, Bool.true_and, Bool.and_false, Bool.false_and, Bool.or_true, Bool.true_or, Bool.or_false, Bool.false_or, undef, List.length_map, q2, q10]
  refine awpL_for (i := 254) (L := 253) f.ss.length (fun j s => s = { env := [(254, .t (vi j)), (253, .t (vi f.ss.length)), (2, .ptr 0 0), (10, .t (.slice 2 (f.ss.map tSn)))], σ := [cF f] }) ?_ ?_ ?_ ?_
  · rintro k s rfl; exact ⟨rfl, rfl⟩
  · exact ⟨_, Sub.gc [0] [254, 253, 2, 10] rfl rfl, St.gc_mk (by simp only [List.map_cons, List.map_nil, lk, Nat.reduceEqDiff, reduceIte, q2, q10]; rfl) rfl rfl rfl⟩
  · rintro j s hj rfl
    have hg : f.ss[j]? = some f.ss[j] := List.getElem?_eq_getElem hj
    have hw : IntKind.i64.wrap ((j : Int) + 1) = ((j + 1 : Nat) : Int) := by rw [wrap_id (by omega) (by omega)]; omega
    generalize f.ss[j] = x at *
    simp only [cF, fl5, go_sem, Nat.reduceEqDiff, Nat.reduceAdd, Nat.reduceSub, Nat.reduceMul, Nat.reduceLT, Nat.reduceLeDiff, Nat.reduceMod, Nat.reduceDiv, Int.reduceToNat, Int.reduceLT, Int.reduceLE, Bool.not_true, Bool.not_false, reduceIte, Int.reduceEq, Int.reduceBEq, Int.reduceBNe, Int.reduceGT, Int.reduceGE, Int.reduceNeg, Int.reduceAdd, Int.reduceSub, Nat.reduceBEq, decide_true, decide_false, undef, beq_self_eq_true, bne_self_eq_false, Bool.and_true, Bool.true_and, Bool.and_false, Bool.false_and, Bool.or_true, Bool.true_or, Bool.or_false, Bool.false_or, undef, List.length_map, List.getElem?_map, hg, tSn, Option.map_some, toKeyS, kEqS, hw]
    exact ⟨_, Sub.gc [0] [254, 253, 2, 10] rfl rfl, rfl⟩
  · rintro s rfl
    simp only [go_sem, Nat.reduceEqDiff, Nat.reduceAdd, Nat.reduceSub, Nat.reduceMul, Nat.reduceLT, Nat.reduceLeDiff, Nat.reduceMod, Nat.reduceDiv, Int.reduceToNat, Int.reduceLT, Int.reduceLE, Bool.not_true, Bool.not_false, reduceIte, Int.reduceEq, Int.reduceBEq, Int.reduceBNe, Int.reduceGT, Int.reduceGE, Int.reduceNeg, Int.reduceAdd, Int.reduceSub, Nat.reduceBEq, decide_true, decide_false, undef, beq_self_eq_true, bne_self_eq_false, Bool.and_true, Bool.true_and, Bool.and_false, Bool.false_and, Bool.or_true, Bool.true_or, Bool.or_false, Bool.false_or, undef]
    refine ACallL.quiet1 awake_ok rfl rfl rfl ?_
    simp only [go_sem, Nat.reduceEqDiff, Nat.reduceAdd, Nat.reduceSub, Nat.reduceMul, Nat.reduceLT, Nat.reduceLeDiff, Nat.reduceMod, Nat.reduceDiv, Int.reduceToNat, Int.reduceLT, Int.reduceLE, Bool.not_true, Bool.not_false, reduceIte, Int.reduceEq, Int.reduceBEq, Int.reduceBNe, Int.reduceGT, Int.reduceGE, Int.reduceNeg, Int.reduceAdd, Int.reduceSub, Nat.reduceBEq, decide_true, decide_false, undef, beq_self_eq_true, bne_self_eq_false, Bool.and_true, Bool.true_and, Bool.and_false, Bool.false_and, Bool.or_true, Bool.true_or, Bool.or_false, Bool.false_or, undef]
    exact finL_ret [] ⟨rfl, rfl, rfl, rfl, _, rfl, res_mk rfl⟩
end Go.Proofs.YtkbjodmpmmnhgaaDoor
