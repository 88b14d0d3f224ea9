/- Proved here: laws that the statements need (FlC36, FlXC). No conditions but those that each law states. -/
import Derived.Test.YtkbjodmpmmnhgaaDoorFL
import Derived.Test.YtkbjodmpmmnhgaaDoorProg
import Derived.Test.YtkbjodmpmmnhgaaDoorMU

set_option linter.unusedSimpArgs false
set_option linter.unusedVariables false

/- Compiled code of functions, printed by program; each is checked to be the program's. No conditions. -/
namespace Go.Proofs.YtkbjodmpmmnhgaaDoor
open Go Go.Ab
/-- dipworks/dipworkslaw10.FlagTrue -/
def c6 : AC :=
 .seq (.reg [⟨(some 2), none, .box (.tmp 0)⟩,
    ⟨(some 4), none, .mov (.lit (.bool false))⟩])
 (.seq (.seq (.reg [⟨(some 23), none, .load true 5 (.tmp 2)⟩,
     ⟨(some 24), none, .call (.fn 31) [(.tmp 23)]⟩,
     ⟨(some 25), none, .un .not (.tmp 24)⟩])
  (.cond (.tmp 25) (.seq (.reg [⟨(some 26), none, .call (.fn 14) []⟩,
      ⟨(some 4), none, .mov (.tmp 26)⟩])
   (.ret))
    (.skip)))
 (.seq (.reg [⟨(some 27), none, .load true 5 (.tmp 2)⟩,
    ⟨(some 28), none, .mov (.tmp 1)⟩,
    ⟨(some 29), none, .call (.fn 32) [(.tmp 27), (.tmp 28)]⟩,
    ⟨(some 5), none, .mov (.tmp 29)⟩])
 (.seq (.reg [⟨(some 30), none, .load true 5 (.tmp 2)⟩,
    ⟨(some 31), none, .mov (.tmp 5)⟩,
    ⟨(some 32), none, .call (.fn 33) [(.tmp 30), (.tmp 31)]⟩,
    ⟨(some 6), none, .mov (.tmp 32)⟩])
 (.seq (.reg [⟨(some 33), none, .load true 5 (.tmp 2)⟩,
    ⟨(some 34), none, .mov (.tmp 6)⟩,
    ⟨(some 35), none, .call (.fn 34) [(.tmp 33), (.tmp 34)]⟩,
    ⟨(some 7), none, .alloc [(.int .i64 0), (.int .i64 0), (.int .i64 0), (.slice none 0 0), (.slice none 0 0)]⟩,
    ⟨none, none, .store 5 (.tmp 7) (.tmp 35)⟩])
 (.seq (.reg [⟨(some 37), none, .load true 5 (.tmp 7)⟩,
    ⟨(some 38), none, .call (.fn 17) [(.tmp 37)]⟩,
    ⟨(some 36), none, .mov (.tmp 38)⟩,
    ⟨(some 39), none, .ext (.tmp 36) 0⟩,
    ⟨(some 40), none, .ext (.tmp 36) 1⟩,
    ⟨(some 41), none, .ext (.tmp 36) 2⟩,
    ⟨(some 8), none, .mov (.tmp 39)⟩,
    ⟨(some 9), none, .mov (.tmp 40)⟩,
    ⟨(some 10), none, .mov (.tmp 41)⟩])
 (.seq (.reg [⟨(some 43), none, .load true 5 (.tmp 7)⟩,
    ⟨(some 44), none, .call (.fn 19) [(.tmp 43)]⟩,
    ⟨(some 42), none, .mov (.tmp 44)⟩,
    ⟨(some 45), none, .ext (.tmp 42) 0⟩,
    ⟨(some 46), none, .ext (.tmp 42) 1⟩,
    ⟨(some 11), none, .mov (.tmp 45)⟩,
    ⟨(some 12), none, .mov (.tmp 46)⟩])
 (.seq (.reg [⟨(some 48), none, .load true 5 (.tmp 7)⟩,
    ⟨(some 49), none, .call (.fn 21) [(.tmp 48)]⟩,
    ⟨(some 47), none, .mov (.tmp 49)⟩,
    ⟨(some 50), none, .ext (.tmp 47) 0⟩,
    ⟨(some 51), none, .ext (.tmp 47) 1⟩,
    ⟨(some 13), none, .alloc [(.int .i64 0), (.int .i64 0)]⟩,
    ⟨none, none, .store 2 (.tmp 13) (.tmp 50)⟩,
    ⟨(some 14), none, .mov (.tmp 51)⟩])
 (.seq (.reg [⟨(some 53), none, .load true 5 (.tmp 7)⟩,
    ⟨(some 54), none, .call (.fn 29) [(.tmp 53)]⟩,
    ⟨(some 52), none, .mov (.tmp 54)⟩,
    ⟨(some 55), none, .ext (.tmp 52) 0⟩,
    ⟨(some 56), none, .ext (.tmp 52) 1⟩,
    ⟨(some 15), none, .mov (.tmp 55)⟩,
    ⟨(some 16), none, .mov (.tmp 56)⟩])
 (.seq (.seq (.reg [⟨(some 57), none, .mov (.tmp 10)⟩,
     ⟨(some 58), none, .bin .neq (.tmp 57) (.lit (.int .i64 0))⟩,
     ⟨(some 59), none, .mov (.tmp 58)⟩,
     ⟨(some 60), (some (59, false)), .mov (.tmp 12)⟩,
     ⟨(some 61), (some (59, false)), .bin .neq (.tmp 60) (.lit (.int .i64 0))⟩,
     ⟨(some 62), none, .pick (.tmp 59) (.lit (.bool true)) (.tmp 61)⟩,
     ⟨(some 63), none, .mov (.tmp 62)⟩,
     ⟨(some 64), (some (63, false)), .mov (.tmp 11)⟩,
     ⟨(some 65), (some (63, false)), .bin .lss (.tmp 64) (.lit (.int .i64 1))⟩,
     ⟨(some 66), none, .pick (.tmp 63) (.lit (.bool true)) (.tmp 65)⟩,
     ⟨(some 67), none, .mov (.tmp 66)⟩,
     ⟨(some 68), (some (67, false)), .mov (.tmp 14)⟩,
     ⟨(some 69), (some (67, false)), .bin .neq (.tmp 68) (.lit (.int .i64 0))⟩,
     ⟨(some 70), none, .pick (.tmp 67) (.lit (.bool true)) (.tmp 69)⟩,
     ⟨(some 71), none, .mov (.tmp 70)⟩,
     ⟨(some 72), (some (71, false)), .mov (.tmp 16)⟩,
     ⟨(some 73), (some (71, false)), .bin .neq (.tmp 72) (.lit (.int .i64 4))⟩,
     ⟨(some 74), none, .pick (.tmp 71) (.lit (.bool true)) (.tmp 73)⟩,
     ⟨(some 75), none, .mov (.tmp 74)⟩,
     ⟨(some 76), (some (75, false)), .mov (.tmp 8)⟩,
     ⟨(some 77), (some (75, false)), .mov (.tmp 6)⟩,
     ⟨(some 78), (some (75, false)), .bin .andNot (.tmp 76) (.tmp 77)⟩,
     ⟨(some 79), (some (75, false)), .bin .neq (.tmp 78) (.lit (.int .i64 0))⟩,
     ⟨(some 80), none, .pick (.tmp 75) (.lit (.bool true)) (.tmp 79)⟩,
     ⟨(some 81), none, .mov (.tmp 80)⟩,
     ⟨(some 82), (some (81, false)), .mov (.tmp 6)⟩,
     ⟨(some 83), (some (81, false)), .mov (.tmp 9)⟩,
     ⟨(some 84), (some (81, false)), .bin .andNot (.tmp 82) (.tmp 83)⟩,
     ⟨(some 85), (some (81, false)), .bin .neq (.tmp 84) (.lit (.int .i64 0))⟩,
     ⟨(some 86), none, .pick (.tmp 81) (.lit (.bool true)) (.tmp 85)⟩])
  (.cond (.tmp 86) (.seq (.reg [⟨(some 4), none, .mov (.lit (.bool false))⟩])
   (.ret))
    (.skip)))
 (.seq (.reg [⟨(some 17), none, .mov (.lit (.int .i64 0))⟩,
    ⟨(some 18), none, .mov (.lit (.int .i64 (-1)))⟩])
 (.seq (.seq (.reg [⟨(some 87), none, .mov (.tmp 5)⟩,
     ⟨(some 88), none, .len (.tmp 87)⟩,
     ⟨(some 89), none, .mov (.lit (.int .i64 0))⟩])
  (.block 0 (.loop (.seq (.reg [⟨(some 90), none, .bin .lss (.tmp 89) (.tmp 88)⟩])
   (.seq (.cond (.tmp 90) (.skip)
      (.exit 0))
   (.seq (.block 1 (.seq (.reg [⟨(some 91), none, .mov (.tmp 89)⟩,
       ⟨(some 92), none, .iaddr 1 (.tmp 87) (.tmp 89)⟩,
       ⟨(some 93), none, .load false 1 (.tmp 92)⟩,
       ⟨(some 19), none, .mov (.tmp 91)⟩,
       ⟨(some 20), none, .mov (.tmp 93)⟩])
    (.seq (.reg [⟨(some 95), none, .load true 5 (.tmp 7)⟩,
       ⟨(some 96), none, .mov (.tmp 19)⟩,
       ⟨(some 97), none, .call (.fn 15) [(.tmp 95), (.tmp 96)]⟩,
       ⟨(some 94), none, .mov (.tmp 97)⟩,
       ⟨(some 98), none, .ext (.tmp 94) 0⟩,
       ⟨(some 99), none, .ext (.tmp 94) 1⟩,
       ⟨(some 21), none, .mov (.tmp 98)⟩,
       ⟨(some 22), none, .mov (.tmp 99)⟩])
    (.seq (.seq (.reg [⟨(some 100), none, .mov (.tmp 22)⟩,
        ⟨(some 101), none, .bin .neq (.tmp 100) (.lit (.int .i64 0))⟩,
        ⟨(some 102), none, .mov (.tmp 101)⟩,
        ⟨(some 103), (some (102, false)), .mov (.tmp 21)⟩,
        ⟨(some 104), (some (102, false)), .mov (.tmp 20)⟩,
        ⟨(some 105), (some (102, false)), .bin .shr (.tmp 103) (.tmp 104)⟩,
        ⟨(some 106), (some (102, false)), .bin .and (.tmp 105) (.lit (.int .i64 1))⟩,
        ⟨(some 107), (some (102, false)), .bin .eql (.tmp 106) (.lit (.int .i64 0))⟩,
        ⟨(some 108), none, .pick (.tmp 102) (.lit (.bool true)) (.tmp 107)⟩,
        ⟨(some 109), none, .mov (.tmp 108)⟩,
        ⟨(some 110), (some (109, false)), .mov (.tmp 21)⟩,
        ⟨(some 111), (some (109, false)), .bin .shr (.tmp 110) (.lit (.int .u64 3))⟩,
        ⟨(some 112), (some (109, false)), .bin .neq (.tmp 111) (.lit (.int .i64 0))⟩,
        ⟨(some 113), none, .pick (.tmp 109) (.lit (.bool true)) (.tmp 112)⟩])
     (.cond (.tmp 113) (.seq (.reg [⟨(some 4), none, .mov (.lit (.bool false))⟩])
      (.ret))
       (.skip)))
    (.seq (.reg [⟨(some 114), none, .mov (.tmp 6)⟩,
       ⟨(some 115), none, .mov (.tmp 19)⟩,
       ⟨(some 116), none, .bin .shr (.tmp 114) (.tmp 115)⟩,
       ⟨(some 117), none, .bin .and (.tmp 116) (.lit (.int .i64 1))⟩,
       ⟨(some 118), none, .bin .eql (.tmp 117) (.lit (.int .i64 1))⟩])
    (.cond (.tmp 118) (.seq (.reg [⟨(some 119), none, .mov (.tmp 17)⟩,
        ⟨(some 120), none, .bin .add (.tmp 119) (.lit (.int .i64 1))⟩,
        ⟨(some 17), none, .mov (.tmp 120)⟩])
     (.seq (.reg [⟨(some 121), none, .mov (.tmp 18)⟩,
        ⟨(some 122), none, .bin .lss (.tmp 121) (.lit (.int .i64 0))⟩])
     (.cond (.tmp 122) (.reg [⟨(some 123), none, .mov (.tmp 19)⟩,
        ⟨(some 18), none, .mov (.tmp 123)⟩])
       (.skip))))
      (.seq (.reg [⟨(some 124), none, .mov (.tmp 18)⟩,
        ⟨(some 125), none, .bin .geq (.tmp 124) (.lit (.int .i64 0))⟩])
     (.cond (.tmp 125) (.seq (.seq (.reg [⟨(some 126), none, .mov (.tmp 19)⟩,
          ⟨(some 127), none, .mov (.tmp 18)⟩,
          ⟨(some 128), none, .bin .sub (.tmp 126) (.tmp 127)⟩,
          ⟨(some 129), none, .faddr 2 (.tmp 2)⟩,
          ⟨(some 130), none, .load false 1 (.tmp 129)⟩,
          ⟨(some 131), none, .bin .lss (.tmp 128) (.tmp 130)⟩])
       (.cond (.tmp 131) (.seq (.reg [⟨(some 4), none, .mov (.lit (.bool false))⟩])
        (.ret))
         (.skip)))
      (.reg [⟨(some 18), none, .mov (.lit (.int .i64 (-1)))⟩]))
       (.skip)))))))))
   (.reg [⟨(some 132), none, .bin .add (.tmp 89) (.lit (.int .i64 1))⟩,
     ⟨(some 89), none, .mov (.tmp 132)⟩])))))))
 (.seq (.reg [⟨(some 133), none, .faddr 0 (.tmp 13)⟩,
    ⟨(some 134), none, .load false 1 (.tmp 133)⟩,
    ⟨(some 135), none, .mov (.tmp 17)⟩,
    ⟨(some 136), none, .bin .leq (.tmp 134) (.tmp 135)⟩,
    ⟨(some 137), none, .mov (.tmp 136)⟩,
    ⟨(some 138), (some (137, true)), .mov (.tmp 17)⟩,
    ⟨(some 139), (some (137, true)), .faddr 1 (.tmp 13)⟩,
    ⟨(some 140), (some (137, true)), .load false 1 (.tmp 139)⟩,
    ⟨(some 141), (some (137, true)), .bin .leq (.tmp 138) (.tmp 140)⟩,
    ⟨(some 142), none, .pick (.tmp 137) (.tmp 141) (.lit (.bool false))⟩,
    ⟨(some 143), none, .mov (.tmp 142)⟩,
    ⟨(some 144), (some (143, true)), .call (.fn 14) []⟩,
    ⟨(some 145), none, .pick (.tmp 143) (.tmp 144) (.lit (.bool false))⟩,
    ⟨(some 4), none, .mov (.tmp 145)⟩])
 (.ret)))))))))))))
theorem k6 : FnC Tryd.prog 6 146 [] [] [.tmp 4] c6 2 := ⟨Tryd.f6, _, Tryd.func6, rfl, by decide, rfl, by decide, by kernel_rfl, by kernel_rfl⟩
/-- dipworks/dipworkslaw10.kinds -/
def c32 : AC :=
 .seq (.reg [⟨(some 2), none, .box (.tmp 0)⟩,
    ⟨(some 4), none, .mov (.lit (.slice none 0 0))⟩])
 (.seq (.reg [⟨(some 5), none, .mov (.lit (.slice none 0 0))⟩])
 (.seq (.seq (.reg [⟨(some 11), none, .faddr 3 (.tmp 2)⟩,
     ⟨(some 12), none, .load false 1 (.tmp 11)⟩,
     ⟨(some 13), none, .len (.tmp 12)⟩,
     ⟨(some 14), none, .mov (.lit (.int .i64 0))⟩])
  (.block 0 (.loop (.seq (.reg [⟨(some 15), none, .bin .lss (.tmp 14) (.tmp 13)⟩])
   (.seq (.cond (.tmp 15) (.skip)
      (.exit 0))
   (.seq (.block 1 (.seq (.reg [⟨(some 16), none, .mov (.tmp 14)⟩,
       ⟨(some 17), none, .iaddr 3 (.tmp 12) (.tmp 14)⟩,
       ⟨(some 18), none, .load true 3 (.tmp 17)⟩,
       ⟨(some 7), none, .alloc [(.int .i64 0), (.int .i64 0), (.int .i64 0)]⟩,
       ⟨(some 6), none, .mov (.tmp 16)⟩,
       ⟨none, none, .store 3 (.tmp 7) (.tmp 18)⟩])
    (.seq (.reg [⟨(some 8), none, .mov (.lit (.int .i64 0))⟩])
    (.seq (.seq (.reg [⟨(some 19), none, .mov (.tmp 1)⟩,
        ⟨(some 20), none, .len (.tmp 19)⟩,
        ⟨(some 21), none, .bin .gtr (.tmp 20) (.lit (.int .i64 0))⟩])
     (.cond (.tmp 21) (.reg [⟨(some 22), none, .mov (.tmp 1)⟩,
        ⟨(some 23), none, .mov (.tmp 6)⟩,
        ⟨(some 24), none, .mov (.tmp 1)⟩,
        ⟨(some 25), none, .len (.tmp 24)⟩,
        ⟨(some 26), none, .bin .rem (.tmp 23) (.tmp 25)⟩,
        ⟨(some 27), none, .iaddr 1 (.tmp 22) (.tmp 26)⟩,
        ⟨(some 28), none, .load false 1 (.tmp 27)⟩,
        ⟨(some 29), none, .conv .i64 (.tmp 28)⟩,
        ⟨(some 30), none, .mov (.tmp 6)⟩,
        ⟨(some 31), none, .bin .mul (.lit (.int .i64 37)) (.tmp 30)⟩,
        ⟨(some 32), none, .bin .add (.tmp 29) (.tmp 31)⟩,
        ⟨(some 8), none, .mov (.tmp 32)⟩])
       (.skip)))
    (.seq (.draw (.step ⟨(some 33), none, .faddr 0 (.tmp 7)⟩ (
       .step ⟨(some 34), none, .faddr 0 (.tmp 33)⟩ (
       .step ⟨(some 35), none, .load false 1 (.tmp 34)⟩ (
       .step ⟨(some 36), none, .mov (.tmp 8)⟩ (
       .step ⟨(some 37), none, .faddr 0 (.tmp 7)⟩ (
       .step ⟨(some 38), none, .faddr 1 (.tmp 37)⟩ (
       .step ⟨(some 39), none, .load false 1 (.tmp 38)⟩ (
       .step ⟨(some 40), none, .faddr 0 (.tmp 7)⟩ (
       .step ⟨(some 41), none, .faddr 0 (.tmp 40)⟩ (
       .step ⟨(some 42), none, .load false 1 (.tmp 41)⟩ (
       .step ⟨(some 43), none, .bin .sub (.tmp 39) (.tmp 42)⟩ (
       .step ⟨(some 44), none, .bin .add (.tmp 43) (.lit (.int .i64 1))⟩ (
       .step ⟨(some 45), none, .bin .rem (.tmp 36) (.tmp 44)⟩ (
       .step ⟨(some 46), none, .bin .add (.tmp 35) (.tmp 45)⟩ (
       .step ⟨(some 9), none, .mov (.tmp 46)⟩ (
       .done)))))))))))))))))
    (.seq (.reg [⟨(some 47), none, .faddr 2 (.tmp 7)⟩,
       ⟨(some 48), none, .load false 1 (.tmp 47)⟩,
       ⟨(some 49), none, .bin .eql (.tmp 48) (.lit (.int .i64 2))⟩,
       ⟨(some 50), none, .mov (.tmp 49)⟩,
       ⟨(some 51), (some (50, false)), .faddr 2 (.tmp 7)⟩,
       ⟨(some 52), (some (50, false)), .load false 1 (.tmp 51)⟩,
       ⟨(some 53), (some (50, false)), .bin .eql (.tmp 52) (.lit (.int .i64 1))⟩,
       ⟨(some 54), (some (50, false)), .mov (.tmp 53)⟩,
       ⟨(some 55), (some (54, true)), .mov (.tmp 8)⟩,
       ⟨(some 56), (some (54, true)), .bin .quo (.tmp 55) (.lit (.int .i64 64))⟩,
       ⟨(some 57), (some (54, true)), .bin .rem (.tmp 56) (.lit (.int .i64 2))⟩,
       ⟨(some 58), (some (54, true)), .bin .eql (.tmp 57) (.lit (.int .i64 1))⟩,
       ⟨(some 59), (some (50, false)), .pick (.tmp 54) (.tmp 58) (.lit (.bool false))⟩,
       ⟨(some 60), none, .pick (.tmp 50) (.lit (.bool true)) (.tmp 59)⟩,
       ⟨(some 10), none, .mov (.tmp 60)⟩])
    (.block 2 (.seq (.reg [⟨(some 65), none, .mov (.tmp 10)⟩,
       ⟨(some 66), none, .mov (.tmp 65)⟩,
       ⟨(some 67), (some (66, false)), .mov (.tmp 9)⟩,
       ⟨(some 68), (some (66, false)), .faddr 1 (.tmp 2)⟩,
       ⟨(some 69), (some (66, false)), .load false 1 (.tmp 68)⟩,
       ⟨(some 70), (some (66, false)), .bin .geq (.tmp 67) (.tmp 69)⟩,
       ⟨(some 71), none, .pick (.tmp 66) (.lit (.bool true)) (.tmp 70)⟩,
       ⟨(some 64), none, .mov (.tmp 71)⟩])
    (.cond (.tmp 64) (.reg [⟨(some 72), none, .mov (.tmp 5)⟩,
       ⟨(some 73), none, .bslice 1 (.int .i64 0) 1 [(0, (.lit (.int .i64 2)))]⟩,
       ⟨(some 74), none, .app 1 8 (.tmp 72) (.tmp 73)⟩,
       ⟨(some 5), none, .mov (.tmp 74)⟩])
      (.seq (.reg [⟨(some 76), none, .mov (.tmp 9)⟩,
        ⟨(some 77), none, .faddr 0 (.tmp 2)⟩,
        ⟨(some 78), none, .load false 1 (.tmp 77)⟩,
        ⟨(some 79), none, .bin .lss (.tmp 76) (.tmp 78)⟩,
        ⟨(some 75), none, .mov (.tmp 79)⟩])
     (.cond (.tmp 75) (.reg [⟨(some 80), none, .mov (.tmp 5)⟩,
        ⟨(some 81), none, .bslice 1 (.int .i64 0) 1 [(0, (.lit (.int .i64 0)))]⟩,
        ⟨(some 82), none, .app 1 8 (.tmp 80) (.tmp 81)⟩,
        ⟨(some 5), none, .mov (.tmp 82)⟩])
       (.reg [⟨(some 61), none, .mov (.tmp 5)⟩,
        ⟨(some 62), none, .bslice 1 (.int .i64 0) 1 [(0, (.lit (.int .i64 1)))]⟩,
        ⟨(some 63), none, .app 1 8 (.tmp 61) (.tmp 62)⟩,
        ⟨(some 5), none, .mov (.tmp 63)⟩]))))))))))))
   (.reg [⟨(some 83), none, .bin .add (.tmp 14) (.lit (.int .i64 1))⟩,
     ⟨(some 14), none, .mov (.tmp 83)⟩])))))))
 (.seq (.reg [⟨(some 84), none, .mov (.tmp 5)⟩,
    ⟨(some 4), none, .mov (.tmp 84)⟩])
 (.ret))))
theorem k32 : FnC Tryd.prog 32 85 [] [] [.tmp 4] c32 2 := ⟨Tryd.f32, _, Tryd.func32, rfl, by decide, rfl, by decide, by kernel_rfl, by kernel_rfl⟩
/-- dipworks/dipworkslaw10.right -/
def c34 : AC :=
 .seq (.reg [⟨(some 2), none, .box (.tmp 0)⟩,
    ⟨(some 4), none, .alloc [(.int .i64 0), (.int .i64 0), (.int .i64 0), (.slice none 0 0), (.slice none 0 0)]⟩])
 (.seq (.reg [⟨(some 8), none, .load true 5 (.tmp 2)⟩,
    ⟨(some 5), none, .alloc [(.int .i64 0), (.int .i64 0), (.int .i64 0), (.slice none 0 0), (.slice none 0 0)]⟩,
    ⟨none, none, .store 5 (.tmp 5) (.tmp 8)⟩])
 (.seq (.reg [⟨(some 9), none, .faddr 4 (.tmp 5)⟩,
    ⟨none, none, .store 1 (.tmp 9) (.lit (.slice none 0 0))⟩])
 (.seq (.seq (.reg [⟨(some 10), none, .faddr 4 (.tmp 2)⟩,
     ⟨(some 11), none, .load false 1 (.tmp 10)⟩,
     ⟨(some 12), none, .len (.tmp 11)⟩,
     ⟨(some 13), none, .mov (.lit (.int .i64 0))⟩])
  (.block 0 (.loop (.seq (.reg [⟨(some 14), none, .bin .lss (.tmp 13) (.tmp 12)⟩])
   (.seq (.cond (.tmp 14) (.skip)
      (.exit 0))
   (.seq (.block 1 (.seq (.reg [⟨(some 15), none, .iaddr 2 (.tmp 11) (.tmp 13)⟩,
       ⟨(some 16), none, .load true 2 (.tmp 15)⟩,
       ⟨(some 7), none, .alloc [(.int .i64 0), (.bool false)]⟩,
       ⟨none, none, .store 2 (.tmp 7) (.tmp 16)⟩])
    (.draw (.step ⟨(some 17), none, .faddr 4 (.tmp 5)⟩ (
      .step ⟨(some 18), none, .load false 1 (.tmp 17)⟩ (
      .step ⟨(some 19), none, .faddr 0 (.tmp 7)⟩ (
      .step ⟨(some 20), none, .load false 1 (.tmp 19)⟩ (
      .step ⟨(some 21), none, .mov (.tmp 1)⟩ (
      .step ⟨(some 22), none, .faddr 0 (.tmp 7)⟩ (
      .step ⟨(some 23), none, .load false 1 (.tmp 22)⟩ (
      .step ⟨(some 24), none, .bin .shr (.tmp 21) (.tmp 23)⟩ (
      .step ⟨(some 25), none, .bin .and (.tmp 24) (.lit (.int .i64 1))⟩ (
      .step ⟨(some 26), none, .bin .eql (.tmp 25) (.lit (.int .i64 1))⟩ (
      .ev ⟨(some 27), none, .call (.fn 42) [(.tmp 20), (.tmp 26)]⟩ [⟨(some 23), none, .load false 1 (.tmp 22)⟩, ⟨(some 22), none, .faddr 0 (.tmp 7)⟩, ⟨(some 19), none, .faddr 0 (.tmp 7)⟩, ⟨(some 18), none, .load false 1 (.tmp 17)⟩, ⟨(some 17), none, .faddr 4 (.tmp 5)⟩] (
      .ev ⟨(some 28), none, .bslice 2 (.agg #[(.int .i64 0), (.bool false)]) 1 [(0, (.tmp 27))]⟩ [⟨(some 23), none, .load false 1 (.tmp 22)⟩, ⟨(some 22), none, .faddr 0 (.tmp 7)⟩, ⟨(some 20), none, .load false 1 (.tmp 19)⟩, ⟨(some 19), none, .faddr 0 (.tmp 7)⟩, ⟨(some 18), none, .load false 1 (.tmp 17)⟩, ⟨(some 17), none, .faddr 4 (.tmp 5)⟩] (
       .ev ⟨(some 29), none, .app 2 16 (.tmp 18) (.tmp 28)⟩ [⟨(some 23), none, .load false 1 (.tmp 22)⟩, ⟨(some 22), none, .faddr 0 (.tmp 7)⟩, ⟨(some 20), none, .load false 1 (.tmp 19)⟩, ⟨(some 19), none, .faddr 0 (.tmp 7)⟩, ⟨(some 17), none, .faddr 4 (.tmp 5)⟩] (
        .step ⟨(some 30), none, .faddr 4 (.tmp 5)⟩ (
         .ev ⟨none, none, .store 1 (.tmp 30) (.tmp 29)⟩ [] (
         .done)
         (.stop)))
        (.stop))
       (.stop))
      (.stop)))))))))))))))
   (.reg [⟨(some 31), none, .bin .add (.tmp 13) (.lit (.int .i64 1))⟩,
     ⟨(some 13), none, .mov (.tmp 31)⟩])))))))
 (.seq (.reg [⟨(some 32), none, .load true 5 (.tmp 5)⟩,
    ⟨none, none, .store 5 (.tmp 4) (.tmp 32)⟩])
 (.ret)))))
theorem k34 : FnC Tryd.prog 34 33 [4] [] [.cell 4 true 5] c34 2 := ⟨Tryd.f34, _, Tryd.func34, rfl, by decide, rfl, by decide, by kernel_rfl, by kernel_rfl⟩
end Go.Proofs.YtkbjodmpmmnhgaaDoor

/- FlagTrue: of which kinds hours truly are; the law's own 'kinds' and 'right'. -/
namespace Go.Proofs.YtkbjodmpmmnhgaaDoor
open Go Go.Ab

def numH (by_ : List Nat) (i : Nat) : Nat := if by_.length = 0 then 0 else by_.getD (i % by_.length) 0 + 37 * i
def windH (h : Hr) (n : Nat) : Int := h.lo + (n : Int).tmod (h.hi - h.lo + 1)
def kindH (f : Fl) (h : Hr) (n : Nat) : Nat := if h.th = 2 ∨ (h.th = 1 ∧ n / 64 % 2 = 1) ∨ windH h n ≥ f.high then 2 else if windH h n < f.low then 0 else 1
def kindsL (f : Fl) (by_ : List Nat) : Nat → List Nat
  | 0 => []
  | j + 1 => kindsL f by_ j ++ [kindH f (f.hs.getD j ⟨0, 0, 0⟩) (numH by_ j)]
theorem kindH_lt (f : Fl) (h : Hr) (n : Nat) : kindH f h n < 3 := by unfold kindH; split <;> (try split) <;> decide
theorem kindsL_len (f : Fl) (by_ : List Nat) : ∀ j, (kindsL f by_ j).length = j
  | 0 => rfl
  | j + 1 => by simp [kindsL, kindsL_len f by_ j]
theorem kindsL_at (f : Fl) (by_ : List Nat) : ∀ j i, i < j → (kindsL f by_ j)[i]? = some (kindH f (f.hs.getD i ⟨0, 0, 0⟩) (numH by_ i))
  | j + 1, i, hi => by
    have hl := kindsL_len f by_ j
    unfold kindsL
    by_cases c : i < j
    · rw [List.getElem?_append_left (by omega)]
      exact kindsL_at f by_ j i c
    · have : i = j := by omega
      subst this
      rw [List.getElem?_append_right (by omega), hl]
      simp
theorem kAcc_has (f : Fl) (lo : Int) {k : Nat} : ∀ {j m : Nat}, m < j → kBit f (lo + m) = 2 ^ k → (kAcc f lo j).testBit k = true
  | j + 1, m, hm, hb => by
    unfold kAcc
    rw [Nat.testBit_or]
    by_cases c : m < j
    · rw [kAcc_has f lo c hb]; rfl
    · have : m = j := by omega
      subst this
      rw [hb, Nat.testBit_two_pow_self]
      simp
theorem kindH_can (f : Fl) (h : Hr) (hh : h.lo ≤ h.hi ∧ 0 ≤ h.th ∧ h.th ≤ 2) (hlh : f.low ≤ f.high) (n : Nat) : (kindsN f h).testBit (kindH f h n) = true := by
  have key : ∀ c : Bool, ((if h.th = 0 then 0 else 4 : Nat)).testBit 2 = (if h.th = 0 then false else true) := fun _ => by split <;> rfl
  unfold kindsN
  rw [Nat.testBit_or, Bool.or_eq_true]
  by_cases c2 : h.th = 2
  · right
    have : kindH f h n = 2 := by unfold kindH; rw [if_pos (.inl c2)]
    rw [this, key true, if_neg (by omega)]
  by_cases c1 : h.th = 1 ∧ n / 64 % 2 = 1
  · right
    have : kindH f h n = 2 := by unfold kindH; rw [if_pos (.inr (.inl c1))]
    rw [this, key true, if_neg (by omega)]
  left
  rw [if_neg c2]
  have hm : 0 ≤ (n : Int).tmod (h.hi - h.lo + 1) ∧ (n : Int).tmod (h.hi - h.lo + 1) < h.hi - h.lo + 1 := by
    rw [Int.tmod_eq_emod_of_nonneg (by omega)]
    exact ⟨Int.emod_nonneg _ (by omega), Int.emod_lt_of_pos _ (by omega)⟩
  have hw : windH h n = h.lo + (n : Int).tmod (h.hi - h.lo + 1) := rfl
  refine kAcc_has f h.lo (m := ((n : Int).tmod (h.hi - h.lo + 1)).toNat) (by omega) ?_
  rw [show h.lo + ((((n : Int).tmod (h.hi - h.lo + 1)).toNat : Nat) : Int) = windH h n by omega]
  by_cases g : windH h n ≥ f.high
  · have e1 : kBit f (windH h n) = 4 := if_pos g
    have e2 : kindH f h n = 2 := if_pos (.inr (.inr g))
    rw [e1, e2]
  · have e1 : kBit f (windH h n) = if windH h n < f.low then 1 else 2 := if_neg g
    have e2 : kindH f h n = if windH h n < f.low then 0 else 1 := if_neg (by
      intro e
      rcases e with e | e | e
      · exact c2 e
      · exact c1 e
      · exact g e)
    rw [e1, e2]
    split <;> rfl
theorem kindsL_rows (f : Fl) (hf : f.OK) (by_ : List Nat) : kindsL f by_ f.hs.length ∈ rows f := by
  rw [kls_mem]
  refine ⟨kindsL_len _ _ _, fun i k hi => ?_⟩
  have hil : i < f.hs.length := by
    have := (List.getElem?_eq_some_iff.1 hi).1
    rwa [kindsL_len] at this
  rw [kindsL_at f by_ _ _ hil] at hi
  cases hi
  rw [kset_mem, Nat.zero_add]
  have hg : f.hs[i]? = some f.hs[i] := List.getElem?_eq_getElem hil
  have hgd : f.hs.getD i ⟨0, 0, 0⟩ = f.hs[i] := by rw [List.getD_eq_getElem?_getD, hg]; rfl
  have hh := hf.hs _ (List.getElem_mem hil)
  refine ⟨kindH_lt _ _ _, ?_⟩
  unfold Kf
  rw [hg, hgd]
  exact kindH_can f _ ⟨hh.2.1, hh.2.2.2.1, hh.2.2.2.2⟩ hf.lh _

section
variable {f : Fl} {h : Hr} {n : Nat}
theorem kindH_two (e : h.th = 2) : kindH f h n = 2 := if_pos (.inl e)
theorem kindH_one (e : h.th = 1) (e2 : n / 64 % 2 = 1) : kindH f h n = 2 := if_pos (.inr (.inl ⟨e, e2⟩))
theorem kindH_hi (e : windH h n ≥ f.high) : kindH f h n = 2 := if_pos (.inr (.inr e))
theorem kindH_not (e : ¬ h.th = 2) (e2 : ¬ (h.th = 1 ∧ n / 64 % 2 = 1)) (e3 : ¬ windH h n ≥ f.high) : kindH f h n = if windH h n < f.low then 0 else 1 := if_neg (by
  intro c
  rcases c with c | c | c
  · exact e c
  · exact e2 c
  · exact e3 c)
theorem kindH_lo (e : ¬ h.th = 2) (e2 : ¬ (h.th = 1 ∧ n / 64 % 2 = 1)) (e3 : ¬ windH h n ≥ f.high) (e4 : windH h n < f.low) : kindH f h n = 0 := by rw [kindH_not e e2 e3, if_pos e4]
theorem kindH_mid (e : ¬ h.th = 2) (e2 : ¬ (h.th = 1 ∧ n / 64 % 2 = 1)) (e3 : ¬ windH h n ≥ f.high) (e4 : ¬ windH h n < f.low) : kindH f h n = 1 := by rw [kindH_not e e2 e3, if_neg e4]
end

abbrev tBy (ws : List Nat) : T := .slice 1 (ws.map fun w : Nat => .lit (.int .u16 w))
theorem rem_pos (n : Nat) {d : Int} (h : 0 < d) : ((n : Int).tmod d) = ((n % d.toNat : Nat) : Int) := by
  obtain ⟨m, rfl⟩ : ∃ m : Nat, d = m := ⟨d.toNat, by omega⟩
  rw [mod_nat, Int.toNat_natCast]

set_option maxRecDepth 8000 in
set_option maxHeartbeats 4000000 in
theorem kindsR_ok (f : Fl) (hf : f.OK) (ws : List Nat) (hw : ∀ w ∈ ws, w < 65536) (hl : ws.length < 9223372036854775808) : ACall Tryd.prog 32 [.t (.agg (fl5 f)), .t (tBy ws)] [] (ret (tK (kindsL f ws f.hs.length))) := by
  refine ACall.walk k32 ?_
  unfold c32 fl5 tK
  have hn := hf.nh
  have hlh := hf.lh
  have hhi := hf.high
  have hlo1 := hf.low
  simp only [go_sem, Nat.reduceEqDiff, Nat.reduceAdd, Nat.reduceSub, Nat.reduceMul, Nat.reduceLT, Nat.reduceLeDiff, Nat.reduceMod, Nat.reduceDiv, Int.reduceToNat, Int.reduceLT, Int.reduceLE, Bool.not_true, Bool.not_false, reduceIte, Int.reduceEq, Int.reduceBEq, Int.reduceBNe, Int.reduceGT, Int.reduceGE, Int.reduceNeg, Int.reduceAdd, Int.reduceSub, Nat.reduceBEq, decide_true, decide_false, undef, beq_self_eq_true, bne_self_eq_false, Bool.and_true, Bool.true_and, Bool.and_false, Bool.false_and, Bool.or_true, Bool.true_or, Bool.or_false, Bool.false_or, List.length_map]
  refine awpL_for (i := 14) (L := 13) f.hs.length (fun j s => s = { env := [(14, .t (vi j)), (13, .t (vi f.hs.length)), (12, .t (.slice 3 (f.hs.map tHr))), (1, .t (tBy ws)), (2, .ptr 0 0), (5, .loc 1 j)], σ := [.cells ((fl5 f).map .t), .row 1 (((kindsL f ws j).map fun k : Nat => vi k).map .t)] }) ?_ ⟨_, (Sub.ghost 5 1 (by decide) rfl).trans (Sub.gc [0, 1] [14, 13, 12, 1, 2, 5] rfl rfl), rfl⟩ ?_ ?_
  · rintro k s rfl; exact ⟨rfl, rfl⟩
  · rintro j s hj rfl
    have hwj : IntKind.i64.wrap ((j : Int) + 1) = ((j + 1 : Nat) : Int) := by rw [wrap_id (by omega) (by omega)]; omega
    have hg : f.hs[j]? = some f.hs[j] := List.getElem?_eq_getElem hj
    have hgd : f.hs.getD j ⟨0, 0, 0⟩ = f.hs[j] := by rw [List.getD_eq_getElem?_getD, hg]; rfl
    have hh := hf.hs _ (List.getElem_mem hj)
    have hk : kindsL f ws (j + 1) = kindsL f ws j ++ [kindH f (f.hs.getD j ⟨0, 0, 0⟩) (numH ws j)] := rfl
    have hkl := kindsL_len f ws j
    rw [hgd] at hk
    generalize f.hs[j] = x at *
    obtain ⟨lo, hi, th⟩ := x
    simp only at hh
    generalize kindsL f ws j = O at *
    subst hkl
    -- the number
    have hnum : ∃ n : Nat, n = numH ws O.length ∧ n < 70000 := by
      refine ⟨_, rfl, ?_⟩
      unfold numH
      split
      · omega
      · rename_i c
        have hm : O.length % ws.length < ws.length := Nat.mod_lt _ (by omega)
        rw [List.getD_eq_getElem?_getD, List.getElem?_eq_getElem hm, Option.getD_some]
        have := hw _ (List.getElem_mem hm)
        omega
    obtain ⟨n, hne, hnb⟩ := hnum
    have d1 : IntKind.i64.wrap (hi - lo) = hi - lo := wrap_id (by omega) (by omega)
    have d2 : IntKind.i64.wrap (hi - lo + 1) = hi - lo + 1 := wrap_id (by omega) (by omega)
    have d0 : (hi - lo + 1 = 0) = False := by simp; omega
    have hmb : 0 ≤ (n : Int).tmod (hi - lo + 1) ∧ (n : Int).tmod (hi - lo + 1) < hi - lo + 1 := by
      rw [Int.tmod_eq_emod_of_nonneg (by omega)]
      exact ⟨Int.emod_nonneg _ (by omega), Int.emod_lt_of_pos _ (by omega)⟩
    obtain ⟨wd, hwd0⟩ : ∃ wd : Int, wd = windH ⟨lo, hi, th⟩ n := ⟨_, rfl⟩
    obtain ⟨q, hq⟩ : ∃ q : Nat, q = n / 64 % 2 := ⟨_, rfl⟩
    have hwd : IntKind.i64.wrap (lo + (n : Int).tmod (hi - lo + 1)) = wd := by rw [hwd0]; exact wrap_id (by omega) (by omega)
    have q64 : IntKind.i64.wrap ((n : Int).tdiv 64) = ((n / 64 : Nat) : Int) := by
      rw [show (n : Int).tdiv 64 = ((n / 64 : Nat) : Int) by rw [Int.tdiv_eq_ediv_of_nonneg (by omega)]; rfl]
      exact wrap_id (by omega) (by omega)
    have r2 : ((n / 64 : Nat) : Int).tmod 2 = (q : Int) := by
      rw [hq]
      exact mod_nat (n / 64) 2
    have g2 : ((2 : Int) = 0) = False := by simp
    have g64 : ((64 : Int) = 0) = False := by simp
    have hwO : IntKind.i64.wrap ((O.length : Int) + 1) = ((O.length + 1 : Nat) : Int) := hwj
    rw [← hne] at hk
    simp only [fl5, go_sem, Nat.reduceEqDiff, Nat.reduceAdd, Nat.reduceSub, Nat.reduceMul, Nat.reduceLT, Nat.reduceLeDiff, Nat.reduceMod, Nat.reduceDiv, Int.reduceToNat, Int.reduceLT, Int.reduceLE, Bool.not_true, Bool.not_false, reduceIte, Int.reduceEq, Int.reduceBEq, Int.reduceBNe, Int.reduceGT, Int.reduceGE, Int.reduceNeg, Int.reduceAdd, Int.reduceSub, Nat.reduceBEq, decide_true, decide_false, undef, beq_self_eq_true, bne_self_eq_false, Bool.and_true, Bool.true_and, Bool.and_false, Bool.false_and, Bool.or_true, Bool.true_or, Bool.or_false, Bool.false_or, undef, List.length_map, List.getElem?_map, hg, Option.map_some, tHr]
    cases hws : decide ((ws.length : Int) > 0)
    case' false =>
      have h0 : ws.length = 0 := by have := of_decide_eq_false hws; omega
      have hn0 : n = 0 := by rw [hne]; unfold numH; rw [if_pos h0]
      clear hne
      subst hn0
      simp only [Int.natCast_zero, Nat.zero_div] at hwd q64 hmb r2
      have num1 : True := trivial
      have num2 : True := trivial
      have num3 : True := trivial
      have num4 : True := trivial
      have num5 : True := trivial
      have num6 : True := trivial
    case' true =>
      have h0 : 0 < ws.length := by have := of_decide_eq_true hws; omega
      have num1 := mod_nat O.length ws.length
      have num2 : ((ws.length : Int) = 0) = False := eq_false (by omega)
      have hm : O.length % ws.length < ws.length := Nat.mod_lt _ h0
      have hgm : ws[O.length % ws.length]? = some ws[O.length % ws.length] := List.getElem?_eq_getElem hm
      have hwm := hw _ (List.getElem_mem hm)
      have hnn : n = ws[O.length % ws.length] + 37 * O.length := by
        rw [hne]; unfold numH; rw [if_neg (by omega), List.getD_eq_getElem?_getD, hgm]; rfl
      clear hne
      generalize ws[O.length % ws.length] = w at *
      generalize O.length % ws.length = m at *
      have num3 := hgm
      have num4 : IntKind.i64.wrap (w : Int) = w := wrap_id (by omega) (by omega)
      have num5 : IntKind.i64.wrap (37 * (O.length : Int)) = 37 * (O.length : Int) := wrap_id (by omega) (by omega)
      have num6 : IntKind.i64.wrap ((w : Int) + 37 * (O.length : Int)) = n := by rw [wrap_id (by omega) (by omega)]; omega
    all_goals
      simp only [fl5, go_sem, Nat.reduceEqDiff, Nat.reduceAdd, Nat.reduceSub, Nat.reduceMul, Nat.reduceLT, Nat.reduceLeDiff, Nat.reduceMod, Nat.reduceDiv, Int.reduceToNat, Int.reduceLT, Int.reduceLE, Bool.not_true, Bool.not_false, reduceIte, Int.reduceEq, Int.reduceBEq, Int.reduceBNe, Int.reduceGT, Int.reduceGE, Int.reduceNeg, Int.reduceAdd, Int.reduceSub, Nat.reduceBEq, decide_true, decide_false, undef, beq_self_eq_true, bne_self_eq_false, Bool.and_true, Bool.true_and, Bool.and_false, Bool.false_and, Bool.or_true, Bool.true_or, Bool.or_false, Bool.false_or, undef, List.length_map, List.getElem?_map, hg, Option.map_some, tHr, hws, num1, num2, num3, num4, num5, num6, d0, d1, d2, g2, g64, hwd, q64, r2]
      cases e1 : (th == 2)
      case' true =>
        have hk := hk.trans (congrArg (fun k => O ++ [k]) (kindH_two (eq_of_beq e1)))
        simp only [fl5, go_sem, Nat.reduceEqDiff, Nat.reduceAdd, Nat.reduceSub, Nat.reduceMul, Nat.reduceLT, Nat.reduceLeDiff, Nat.reduceMod, Nat.reduceDiv, Int.reduceToNat, Int.reduceLT, Int.reduceLE, Bool.not_true, Bool.not_false, reduceIte, Int.reduceEq, Int.reduceBEq, Int.reduceBNe, Int.reduceGT, Int.reduceGE, Int.reduceNeg, Int.reduceAdd, Int.reduceSub, Nat.reduceBEq, decide_true, decide_false, undef, beq_self_eq_true, bne_self_eq_false, Bool.and_true, Bool.true_and, Bool.and_false, Bool.false_and, Bool.or_true, Bool.true_or, Bool.or_false, Bool.false_or, undef, List.length_map, hwO, d0, d1, d2, g2, g64, hwd, q64, r2, e1]
        refine ⟨⟨by unfold maxLen; omega, by omega⟩, _, Sub.gc [0, 1] [14, 13, 12, 1, 2, 5] rfl rfl, ?_⟩
        rw [hk, List.map_append, List.map_append]
        exact St.gc_mk rfl (by
          show [AO.cells _, AO.row 1 ((List.map E.t _ ++ List.map E.t [_]).map (E.gc _ _ _))] = _
          rw [List.map_append, gc_row, gc_row]
          rfl) rfl rfl
      case' false =>
        have n1 : ¬ th = 2 := fun e => by rw [e] at e1; cases e1
        cases e2 : (th == 1)
        case' true =>
          cases e3 : ((q : Int) == 1)
          case' true =>
            have hk := hk.trans (congrArg (fun k => O ++ [k]) (kindH_one (eq_of_beq e2) (by rw [← hq]; have := eq_of_beq e3; omega)))
            simp only [fl5, go_sem, Nat.reduceEqDiff, Nat.reduceAdd, Nat.reduceSub, Nat.reduceMul, Nat.reduceLT, Nat.reduceLeDiff, Nat.reduceMod, Nat.reduceDiv, Int.reduceToNat, Int.reduceLT, Int.reduceLE, Bool.not_true, Bool.not_false, reduceIte, Int.reduceEq, Int.reduceBEq, Int.reduceBNe, Int.reduceGT, Int.reduceGE, Int.reduceNeg, Int.reduceAdd, Int.reduceSub, Nat.reduceBEq, decide_true, decide_false, undef, beq_self_eq_true, bne_self_eq_false, Bool.and_true, Bool.true_and, Bool.and_false, Bool.false_and, Bool.or_true, Bool.true_or, Bool.or_false, Bool.false_or, undef, List.length_map, hwO, d0, d1, d2, g2, g64, hwd, q64, r2, e1, e2, e3]
            refine ⟨⟨by unfold maxLen; omega, by omega⟩, _, Sub.gc [0, 1] [14, 13, 12, 1, 2, 5] rfl rfl, ?_⟩
            rw [hk, List.map_append, List.map_append]
            exact St.gc_mk rfl (by
              show [AO.cells _, AO.row 1 ((List.map E.t _ ++ List.map E.t [_]).map (E.gc _ _ _))] = _
              rw [List.map_append, gc_row, gc_row]
              rfl) rfl rfl
          case' false =>
            have n2 : ¬ (th = 1 ∧ q = 1) := fun e => by rw [e.2] at e3; cases e3
            rw [hq] at n2
            cases e4 : decide (wd ≥ f.high)
            case' true =>
              have hk := hk.trans (congrArg (fun k => O ++ [k]) (kindH_hi (by rw [← hwd0]; exact of_decide_eq_true e4)))
              simp only [fl5, go_sem, Nat.reduceEqDiff, Nat.reduceAdd, Nat.reduceSub, Nat.reduceMul, Nat.reduceLT, Nat.reduceLeDiff, Nat.reduceMod, Nat.reduceDiv, Int.reduceToNat, Int.reduceLT, Int.reduceLE, Bool.not_true, Bool.not_false, reduceIte, Int.reduceEq, Int.reduceBEq, Int.reduceBNe, Int.reduceGT, Int.reduceGE, Int.reduceNeg, Int.reduceAdd, Int.reduceSub, Nat.reduceBEq, decide_true, decide_false, undef, beq_self_eq_true, bne_self_eq_false, Bool.and_true, Bool.true_and, Bool.and_false, Bool.false_and, Bool.or_true, Bool.true_or, Bool.or_false, Bool.false_or, undef, List.length_map, hwO, d0, d1, d2, g2, g64, hwd, q64, r2, e1, e2, e3, e4]
              refine ⟨⟨by unfold maxLen; omega, by omega⟩, _, Sub.gc [0, 1] [14, 13, 12, 1, 2, 5] rfl rfl, ?_⟩
              rw [hk, List.map_append, List.map_append]
              exact St.gc_mk rfl (by
                show [AO.cells _, AO.row 1 ((List.map E.t _ ++ List.map E.t [_]).map (E.gc _ _ _))] = _
                rw [List.map_append, gc_row, gc_row]
                rfl) rfl rfl
            cases e5 : decide (wd < f.low)
            case' true =>
              have hk := hk.trans (congrArg (fun k => O ++ [k]) (kindH_lo (n1) (n2) (by rw [← hwd0]; exact of_decide_eq_false e4) (by rw [← hwd0]; exact of_decide_eq_true e5)))
              simp only [fl5, go_sem, Nat.reduceEqDiff, Nat.reduceAdd, Nat.reduceSub, Nat.reduceMul, Nat.reduceLT, Nat.reduceLeDiff, Nat.reduceMod, Nat.reduceDiv, Int.reduceToNat, Int.reduceLT, Int.reduceLE, Bool.not_true, Bool.not_false, reduceIte, Int.reduceEq, Int.reduceBEq, Int.reduceBNe, Int.reduceGT, Int.reduceGE, Int.reduceNeg, Int.reduceAdd, Int.reduceSub, Nat.reduceBEq, decide_true, decide_false, undef, beq_self_eq_true, bne_self_eq_false, Bool.and_true, Bool.true_and, Bool.and_false, Bool.false_and, Bool.or_true, Bool.true_or, Bool.or_false, Bool.false_or, undef, List.length_map, hwO, d0, d1, d2, g2, g64, hwd, q64, r2, e1, e2, e3, e4, e5]
              refine ⟨⟨by unfold maxLen; omega, by omega⟩, _, Sub.gc [0, 1] [14, 13, 12, 1, 2, 5] rfl rfl, ?_⟩
              rw [hk, List.map_append, List.map_append]
              exact St.gc_mk rfl (by
                show [AO.cells _, AO.row 1 ((List.map E.t _ ++ List.map E.t [_]).map (E.gc _ _ _))] = _
                rw [List.map_append, gc_row, gc_row]
                rfl) rfl rfl
            case' false =>
              have hk := hk.trans (congrArg (fun k => O ++ [k]) (kindH_mid (n1) (n2) (by rw [← hwd0]; exact of_decide_eq_false e4) (by rw [← hwd0]; exact of_decide_eq_false e5)))
              simp only [fl5, go_sem, Nat.reduceEqDiff, Nat.reduceAdd, Nat.reduceSub, Nat.reduceMul, Nat.reduceLT, Nat.reduceLeDiff, Nat.reduceMod, Nat.reduceDiv, Int.reduceToNat, Int.reduceLT, Int.reduceLE, Bool.not_true, Bool.not_false, reduceIte, Int.reduceEq, Int.reduceBEq, Int.reduceBNe, Int.reduceGT, Int.reduceGE, Int.reduceNeg, Int.reduceAdd, Int.reduceSub, Nat.reduceBEq, decide_true, decide_false, undef, beq_self_eq_true, bne_self_eq_false, Bool.and_true, Bool.true_and, Bool.and_false, Bool.false_and, Bool.or_true, Bool.true_or, Bool.or_false, Bool.false_or, undef, List.length_map, hwO, d0, d1, d2, g2, g64, hwd, q64, r2, e1, e2, e3, e4, e5]
              refine ⟨⟨by unfold maxLen; omega, by omega⟩, _, Sub.gc [0, 1] [14, 13, 12, 1, 2, 5] rfl rfl, ?_⟩
              rw [hk, List.map_append, List.map_append]
              exact St.gc_mk rfl (by
                show [AO.cells _, AO.row 1 ((List.map E.t _ ++ List.map E.t [_]).map (E.gc _ _ _))] = _
                rw [List.map_append, gc_row, gc_row]
                rfl) rfl rfl
        case' false =>
          have n2 : ¬ (th = 1 ∧ q = 1) := fun e => by rw [e.1] at e2; cases e2
          rw [hq] at n2
          cases e4 : decide (wd ≥ f.high)
          case' true =>
            have hk := hk.trans (congrArg (fun k => O ++ [k]) (kindH_hi (by rw [← hwd0]; exact of_decide_eq_true e4)))
            simp only [fl5, go_sem, Nat.reduceEqDiff, Nat.reduceAdd, Nat.reduceSub, Nat.reduceMul, Nat.reduceLT, Nat.reduceLeDiff, Nat.reduceMod, Nat.reduceDiv, Int.reduceToNat, Int.reduceLT, Int.reduceLE, Bool.not_true, Bool.not_false, reduceIte, Int.reduceEq, Int.reduceBEq, Int.reduceBNe, Int.reduceGT, Int.reduceGE, Int.reduceNeg, Int.reduceAdd, Int.reduceSub, Nat.reduceBEq, decide_true, decide_false, undef, beq_self_eq_true, bne_self_eq_false, Bool.and_true, Bool.true_and, Bool.and_false, Bool.false_and, Bool.or_true, Bool.true_or, Bool.or_false, Bool.false_or, undef, List.length_map, hwO, d0, d1, d2, g2, g64, hwd, q64, r2, e1, e2, e4]
            refine ⟨⟨by unfold maxLen; omega, by omega⟩, _, Sub.gc [0, 1] [14, 13, 12, 1, 2, 5] rfl rfl, ?_⟩
            rw [hk, List.map_append, List.map_append]
            exact St.gc_mk rfl (by
              show [AO.cells _, AO.row 1 ((List.map E.t _ ++ List.map E.t [_]).map (E.gc _ _ _))] = _
              rw [List.map_append, gc_row, gc_row]
              rfl) rfl rfl
          cases e5 : decide (wd < f.low)
          case' true =>
            have hk := hk.trans (congrArg (fun k => O ++ [k]) (kindH_lo (n1) (n2) (by rw [← hwd0]; exact of_decide_eq_false e4) (by rw [← hwd0]; exact of_decide_eq_true e5)))
            simp only [fl5, go_sem, Nat.reduceEqDiff, Nat.reduceAdd, Nat.reduceSub, Nat.reduceMul, Nat.reduceLT, Nat.reduceLeDiff, Nat.reduceMod, Nat.reduceDiv, Int.reduceToNat, Int.reduceLT, Int.reduceLE, Bool.not_true, Bool.not_false, reduceIte, Int.reduceEq, Int.reduceBEq, Int.reduceBNe, Int.reduceGT, Int.reduceGE, Int.reduceNeg, Int.reduceAdd, Int.reduceSub, Nat.reduceBEq, decide_true, decide_false, undef, beq_self_eq_true, bne_self_eq_false, Bool.and_true, Bool.true_and, Bool.and_false, Bool.false_and, Bool.or_true, Bool.true_or, Bool.or_false, Bool.false_or, undef, List.length_map, hwO, d0, d1, d2, g2, g64, hwd, q64, r2, e1, e2, e4, e5]
            refine ⟨⟨by unfold maxLen; omega, by omega⟩, _, Sub.gc [0, 1] [14, 13, 12, 1, 2, 5] rfl rfl, ?_⟩
            rw [hk, List.map_append, List.map_append]
            exact St.gc_mk rfl (by
              show [AO.cells _, AO.row 1 ((List.map E.t _ ++ List.map E.t [_]).map (E.gc _ _ _))] = _
              rw [List.map_append, gc_row, gc_row]
              rfl) rfl rfl
          case' false =>
            have hk := hk.trans (congrArg (fun k => O ++ [k]) (kindH_mid (n1) (n2) (by rw [← hwd0]; exact of_decide_eq_false e4) (by rw [← hwd0]; exact of_decide_eq_false e5)))
            simp only [fl5, go_sem, Nat.reduceEqDiff, Nat.reduceAdd, Nat.reduceSub, Nat.reduceMul, Nat.reduceLT, Nat.reduceLeDiff, Nat.reduceMod, Nat.reduceDiv, Int.reduceToNat, Int.reduceLT, Int.reduceLE, Bool.not_true, Bool.not_false, reduceIte, Int.reduceEq, Int.reduceBEq, Int.reduceBNe, Int.reduceGT, Int.reduceGE, Int.reduceNeg, Int.reduceAdd, Int.reduceSub, Nat.reduceBEq, decide_true, decide_false, undef, beq_self_eq_true, bne_self_eq_false, Bool.and_true, Bool.true_and, Bool.and_false, Bool.false_and, Bool.or_true, Bool.true_or, Bool.or_false, Bool.false_or, undef, List.length_map, hwO, d0, d1, d2, g2, g64, hwd, q64, r2, e1, e2, e4, e5]
            refine ⟨⟨by unfold maxLen; omega, by omega⟩, _, Sub.gc [0, 1] [14, 13, 12, 1, 2, 5] rfl rfl, ?_⟩
            rw [hk, List.map_append, List.map_append]
            exact St.gc_mk rfl (by
              show [AO.cells _, AO.row 1 ((List.map E.t _ ++ List.map E.t [_]).map (E.gc _ _ _))] = _
              rw [List.map_append, gc_row, gc_row]
              rfl) rfl rfl
  · rintro s rfl
    simp only [go_sem, Nat.reduceEqDiff, Nat.reduceAdd, Nat.reduceSub, Nat.reduceMul, Nat.reduceLT, Nat.reduceLeDiff, Nat.reduceMod, Nat.reduceDiv, Int.reduceToNat, Int.reduceLT, Int.reduceLE, Bool.not_true, Bool.not_false, reduceIte, Int.reduceEq, Int.reduceBEq, Int.reduceBNe, Int.reduceGT, Int.reduceGE, Int.reduceNeg, Int.reduceAdd, Int.reduceSub, Nat.reduceBEq, decide_true, decide_false, undef, beq_self_eq_true, bne_self_eq_false, Bool.and_true, Bool.true_and, Bool.and_false, Bool.false_and, Bool.or_true, Bool.true_or, Bool.or_false, Bool.false_or, undef]
    refine finL_ret [] ⟨rfl, rfl, rfl, rfl, _, rfl, ?_⟩
    have hkl := kindsL_len f ws f.hs.length
    generalize kindsL f ws f.hs.length = O at *
    have hg : E.gc [] [AO.cells ((fl5 f).map .t), .row 1 ((O.map fun k : Nat => vi k).map .t)] 12 (.loc 1 f.hs.length) = .t (.slice 1 (O.map fun k : Nat => vi k)) := gc_loc (n := 10) rfl rfl (by simp [hkl])
    exact ⟨congrArg Out.ret hg, rfl⟩

/-! ### right -/
def seenAs (f : Fl) (up : Nat) : List Sn := f.ss.map fun s => ⟨s.h, up.testBit s.h.toNat⟩
theorem gc_fl {σ : List AO} {a b c d : T} {xs : List T} {id n : Nat} (h : σ[id]? = some (.row 2 (xs.map .t))) (hn : n = xs.length) : E.gc [] σ 12 (.agg [.t a, .t b, .t c, .t d, .loc id n]) = .t (.agg [a, b, c, d, .slice 2 xs]) := by
  rw [E.gc]
  simp only [List.map_cons, List.map_nil, gc_t]
  rw [gc_loc (n := 9) (xs := xs) rfl h hn]
  rfl
theorem take_map1 {α β : Type} (g : α → β) (l : List α) {j : Nat} {x : α} (h : l[j]? = some x) : (l.map g).take (j + 1) = (l.map g).take j ++ [g x] := by
  obtain ⟨hk, e⟩ := List.getElem?_eq_some_iff.1 h
  rw [List.take_succ_eq_append_getElem (by simpa using hk), List.getElem_map, e]

set_option maxRecDepth 8000 in
set_option maxHeartbeats 4000000 in
theorem rightR_ok (f : Fl) (hf : f.OK) (up : Nat) (hu : up < 9223372036854775808) : ACall Tryd.prog 34 [.t (.agg (fl5 f)), .t (vi up)] [] (ret (.agg (fl5 (withS f (seenAs f up))))) := by
  refine ACall.walk k34 ?_
  unfold c34 fl5
  have hn := hf.ns
  have hsl : (seenAs f up).length = f.ss.length := by simp [seenAs]
  have htl : ∀ j, j ≤ f.ss.length → ((seenAs f up).take j).length = j := fun j hj => by rw [List.length_take, hsl]; omega
  simp only [go_sem, Nat.reduceEqDiff, Nat.reduceAdd, Nat.reduceSub, Nat.reduceMul, Nat.reduceLT, Nat.reduceLeDiff, Nat.reduceMod, Nat.reduceDiv, Int.reduceToNat, Int.reduceLT, Int.reduceLE, Bool.not_true, Bool.not_false, reduceIte, Int.reduceEq, Int.reduceBEq, Int.reduceBNe, Int.reduceGT, Int.reduceGE, Int.reduceNeg, Int.reduceAdd, Int.reduceSub, Nat.reduceBEq, decide_true, decide_false, undef, beq_self_eq_true, bne_self_eq_false, Bool.and_true, Bool.true_and, Bool.and_false, Bool.false_and, Bool.or_true, Bool.true_or, Bool.or_false, Bool.false_or, List.length_map]
  refine awpL_for (i := 13) (L := 12) f.ss.length (fun j s => s = { env := [(13, .t (vi j)), (12, .t (vi f.ss.length)), (11, .t (.slice 2 (f.ss.map tSn))), (1, .t (vi up)), (4, .ptr 0 0), (5, .ptr 1 0)], σ := [.cells (zlist [.int .i64 0, .int .i64 0, .int .i64 0, .slice none 0 0, .slice none 0 0]), .cells [.t (vi f.low), .t (vi f.high), .t (vi f.quiet), .t (.slice 3 (f.hs.map tHr)), .loc 2 ((seenAs f up).take j).length], .row 2 ((((seenAs f up).take j).map tSn).map .t)] }) ?_ ⟨_, (Sub.ghostC 2 4 2 (by decide) rfl rfl).trans (Sub.gc [1, 2, 3] [13, 12, 11, 1, 4, 5] rfl rfl), rfl⟩ ?_ ?_
  · rintro k s rfl; exact ⟨rfl, rfl⟩
  · rintro j s hj rfl
    have hwj : IntKind.i64.wrap ((j : Int) + 1) = ((j + 1 : Nat) : Int) := by rw [wrap_id (by omega) (by omega)]; omega
    have hg : f.ss[j]? = some f.ss[j] := List.getElem?_eq_getElem hj
    have hr := hf.ss _ (List.getElem_mem hj)
    have ht := take_map1 (fun s : Sn => (⟨s.h, up.testBit s.h.toNat⟩ : Sn)) f.ss hg
    have hol := htl j (by omega)
    generalize f.ss[j] = x at *
    obtain ⟨xh, xu⟩ := x
    simp only at hr ht
    obtain ⟨n, rfl⟩ : ∃ n : Nat, xh = n := ⟨xh.toNat, by omega⟩
    rw [Int.toNat_natCast] at ht
    have ht : (seenAs f up).take (j + 1) = (seenAs f up).take j ++ [⟨n, up.testBit n⟩] := ht
    have hb := bit_eq (a := up) (i := n) hu
    have hn0 : ((n : Int) < 0) = False := by simp
    generalize (seenAs f up).take j = O at *
    simp only [fl5, go_sem, Nat.reduceEqDiff, Nat.reduceAdd, Nat.reduceSub, Nat.reduceMul, Nat.reduceLT, Nat.reduceLeDiff, Nat.reduceMod, Nat.reduceDiv, Int.reduceToNat, Int.reduceLT, Int.reduceLE, Bool.not_true, Bool.not_false, reduceIte, Int.reduceEq, Int.reduceBEq, Int.reduceBNe, Int.reduceGT, Int.reduceGE, Int.reduceNeg, Int.reduceAdd, Int.reduceSub, Nat.reduceBEq, decide_true, decide_false, undef, beq_self_eq_true, bne_self_eq_false, Bool.and_true, Bool.true_and, Bool.and_false, Bool.false_and, Bool.or_true, Bool.true_or, Bool.or_false, Bool.false_or, undef, List.length_map, List.getElem?_map, hg, tSn, Option.map_some, hb, hn0]
    refine ACallL.quiet1 (seen_ok _ _) rfl rfl rfl ?_
    simp only [fl5, go_sem, Nat.reduceEqDiff, Nat.reduceAdd, Nat.reduceSub, Nat.reduceMul, Nat.reduceLT, Nat.reduceLeDiff, Nat.reduceMod, Nat.reduceDiv, Int.reduceToNat, Int.reduceLT, Int.reduceLE, Bool.not_true, Bool.not_false, reduceIte, Int.reduceEq, Int.reduceBEq, Int.reduceBNe, Int.reduceGT, Int.reduceGE, Int.reduceNeg, Int.reduceAdd, Int.reduceSub, Nat.reduceBEq, decide_true, decide_false, undef, beq_self_eq_true, bne_self_eq_false, Bool.and_true, Bool.true_and, Bool.and_false, Bool.false_and, Bool.or_true, Bool.true_or, Bool.or_false, Bool.false_or, undef, List.length_map, hwj]
    refine ⟨by unfold maxLen; omega, _, Sub.gc [0, 1, 2] [13, 12, 11, 1, 4, 5] rfl rfl, ?_⟩
    rw [ht, List.length_append, List.length_singleton, List.map_append, List.map_append]
    exact St.gc_mk rfl (by
      show [AO.cells _, AO.cells _, AO.row 2 ((List.map E.t _ ++ List.map E.t [_]).map (E.gc _ _ _))] = _
      rw [List.map_append, gc_row, gc_row]
      rfl) rfl rfl
  · rintro s rfl
    rw [List.take_of_length_le (by omega)]
    simp only [go_sem, Nat.reduceEqDiff, Nat.reduceAdd, Nat.reduceSub, Nat.reduceMul, Nat.reduceLT, Nat.reduceLeDiff, Nat.reduceMod, Nat.reduceDiv, Int.reduceToNat, Int.reduceLT, Int.reduceLE, Bool.not_true, Bool.not_false, reduceIte, Int.reduceEq, Int.reduceBEq, Int.reduceBNe, Int.reduceGT, Int.reduceGE, Int.reduceNeg, Int.reduceAdd, Int.reduceSub, Nat.reduceBEq, decide_true, decide_false, undef, beq_self_eq_true, bne_self_eq_false, Bool.and_true, Bool.true_and, Bool.and_false, Bool.false_and, Bool.or_true, Bool.true_or, Bool.or_false, Bool.false_or, undef]
    exact finL_ret [] ⟨rfl, rfl, rfl, rfl, _, rfl, ⟨congrArg Out.ret (gc_fl (by rfl) (by rw [List.length_map]; rfl)), rfl⟩⟩
end Go.Proofs.YtkbjodmpmmnhgaaDoor
