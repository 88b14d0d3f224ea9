/- Proved here: laws that the statements need (TwC4). No conditions but those that each law states. -/
import Derived.Test.YticdacdflemoiaaLF

set_option linter.unusedSimpArgs false
set_option linter.unusedVariables false

/- Compiled code of functions, printed by program; each is checked to be the program's. No conditions. -/
namespace Go.Proofs.Yticdacdflemoiaa
open Go Go.Ab
/-- dipworks/dipworkslaw06.TowelTrue -/
def c6 : AC :=
 .seq (.reg [⟨(some 2), none, .mov (.lit (.bool false))⟩])
 (.seq (.reg [⟨(some 27), none, .mov (.tmp 0)⟩,
    ⟨(some 28), none, .call (.fn 31) [(.tmp 27)]⟩,
    ⟨(some 26), none, .mov (.tmp 28)⟩,
    ⟨(some 29), none, .ext (.tmp 26) 0⟩,
    ⟨(some 30), none, .ext (.tmp 26) 1⟩,
    ⟨(some 3), none, .alloc [(.slice none 0 0), (.slice none 0 0), (.slice none 0 0)]⟩,
    ⟨none, none, .store 3 (.tmp 3) (.tmp 29)⟩,
    ⟨(some 4), none, .mov (.tmp 30)⟩])
 (.seq (.reg [⟨(some 32), none, .load true 3 (.tmp 3)⟩,
    ⟨(some 33), none, .call (.fn 19) [(.tmp 32)]⟩,
    ⟨(some 31), none, .mov (.tmp 33)⟩,
    ⟨(some 34), none, .ext (.tmp 31) 0⟩,
    ⟨(some 35), none, .ext (.tmp 31) 1⟩,
    ⟨(some 36), none, .ext (.tmp 31) 2⟩,
    ⟨(some 5), none, .mov (.tmp 34)⟩,
    ⟨(some 6), none, .mov (.tmp 35)⟩,
    ⟨(some 7), none, .mov (.tmp 36)⟩])
 (.seq (.reg [⟨(some 38), none, .load true 3 (.tmp 3)⟩,
    ⟨(some 39), none, .call (.fn 21) [(.tmp 38)]⟩,
    ⟨(some 37), none, .mov (.tmp 39)⟩,
    ⟨(some 40), none, .ext (.tmp 37) 0⟩,
    ⟨(some 41), none, .ext (.tmp 37) 1⟩,
    ⟨(some 8), none, .alloc [(.int .i64 0), (.int .i64 0)]⟩,
    ⟨none, none, .store 2 (.tmp 8) (.tmp 40)⟩,
    ⟨(some 9), none, .mov (.tmp 41)⟩])
 (.seq (.reg [⟨(some 43), none, .load true 3 (.tmp 3)⟩,
    ⟨(some 44), none, .call (.fn 23) [(.tmp 43)]⟩,
    ⟨(some 42), none, .mov (.tmp 44)⟩,
    ⟨(some 45), none, .ext (.tmp 42) 0⟩,
    ⟨(some 46), none, .ext (.tmp 42) 1⟩,
    ⟨(some 10), none, .mov (.tmp 45)⟩,
    ⟨(some 11), none, .mov (.tmp 46)⟩])
 (.seq (.reg [⟨(some 48), none, .load true 3 (.tmp 3)⟩,
    ⟨(some 49), none, .call (.fn 25) [(.tmp 48)]⟩,
    ⟨(some 47), none, .mov (.tmp 49)⟩,
    ⟨(some 50), none, .ext (.tmp 47) 0⟩,
    ⟨(some 51), none, .ext (.tmp 47) 1⟩,
    ⟨(some 52), none, .ext (.tmp 47) 2⟩,
    ⟨(some 12), none, .mov (.tmp 50)⟩,
    ⟨(some 13), none, .mov (.tmp 51)⟩,
    ⟨(some 14), none, .mov (.tmp 52)⟩])
 (.seq (.reg [⟨(some 54), none, .load true 3 (.tmp 3)⟩,
    ⟨(some 55), none, .call (.fn 29) [(.tmp 54)]⟩,
    ⟨(some 53), none, .mov (.tmp 55)⟩,
    ⟨(some 56), none, .ext (.tmp 53) 0⟩,
    ⟨(some 57), none, .ext (.tmp 53) 1⟩,
    ⟨(some 58), none, .ext (.tmp 53) 2⟩,
    ⟨(some 15), none, .mov (.tmp 56)⟩,
    ⟨(some 16), none, .mov (.tmp 57)⟩,
    ⟨(some 17), none, .mov (.tmp 58)⟩])
 (.seq (.seq (.reg [⟨(some 59), none, .mov (.tmp 7)⟩,
     ⟨(some 60), none, .bin .neq (.tmp 59) (.lit (.int .i64 0))⟩,
     ⟨(some 61), none, .mov (.tmp 60)⟩,
     ⟨(some 62), (some (61, false)), .mov (.tmp 9)⟩,
     ⟨(some 63), (some (61, false)), .bin .neq (.tmp 62) (.lit (.int .i64 0))⟩,
     ⟨(some 64), none, .pick (.tmp 61) (.lit (.bool true)) (.tmp 63)⟩,
     ⟨(some 65), none, .mov (.tmp 64)⟩,
     ⟨(some 66), (some (65, false)), .mov (.tmp 11)⟩,
     ⟨(some 67), (some (65, false)), .bin .neq (.tmp 66) (.lit (.int .i64 0))⟩,
     ⟨(some 68), none, .pick (.tmp 65) (.lit (.bool true)) (.tmp 67)⟩,
     ⟨(some 69), none, .mov (.tmp 68)⟩,
     ⟨(some 70), (some (69, false)), .mov (.tmp 10)⟩,
     ⟨(some 71), (some (69, false)), .bin .lss (.tmp 70) (.lit (.int .i64 1))⟩,
     ⟨(some 72), none, .pick (.tmp 69) (.lit (.bool true)) (.tmp 71)⟩,
     ⟨(some 73), none, .mov (.tmp 72)⟩,
     ⟨(some 74), (some (73, false)), .mov (.tmp 14)⟩,
     ⟨(some 75), (some (73, false)), .bin .neq (.tmp 74) (.lit (.int .i64 0))⟩,
     ⟨(some 76), none, .pick (.tmp 73) (.lit (.bool true)) (.tmp 75)⟩,
     ⟨(some 77), none, .mov (.tmp 76)⟩,
     ⟨(some 78), (some (77, false)), .mov (.tmp 17)⟩,
     ⟨(some 79), (some (77, false)), .bin .neq (.tmp 78) (.lit (.int .i64 4))⟩,
     ⟨(some 80), none, .pick (.tmp 77) (.lit (.bool true)) (.tmp 79)⟩,
     ⟨(some 81), none, .mov (.tmp 80)⟩,
     ⟨(some 82), (some (81, false)), .mov (.tmp 13)⟩,
     ⟨(some 83), (some (81, false)), .bin .lss (.tmp 82) (.lit (.int .i64 0))⟩,
     ⟨(some 84), none, .pick (.tmp 81) (.lit (.bool true)) (.tmp 83)⟩,
     ⟨(some 85), none, .mov (.tmp 84)⟩,
     ⟨(some 86), (some (85, false)), .mov (.tmp 13)⟩,
     ⟨(some 87), (some (85, false)), .call (.fn 32) [(.tmp 86)]⟩,
     ⟨(some 88), (some (85, false)), .mov (.tmp 12)⟩,
     ⟨(some 89), (some (85, false)), .bin .neq (.tmp 87) (.tmp 88)⟩,
     ⟨(some 90), none, .pick (.tmp 85) (.lit (.bool true)) (.tmp 89)⟩,
     ⟨(some 91), none, .mov (.tmp 90)⟩,
     ⟨(some 92), (some (91, false)), .mov (.tmp 13)⟩,
     ⟨(some 93), (some (91, false)), .mov (.tmp 6)⟩,
     ⟨(some 94), (some (91, false)), .bin .andNot (.tmp 92) (.tmp 93)⟩,
     ⟨(some 95), (some (91, false)), .bin .neq (.tmp 94) (.lit (.int .i64 0))⟩,
     ⟨(some 96), none, .pick (.tmp 91) (.lit (.bool true)) (.tmp 95)⟩,
     ⟨(some 97), none, .mov (.tmp 96)⟩,
     ⟨(some 98), (some (97, false)), .mov (.tmp 5)⟩,
     ⟨(some 99), (some (97, false)), .mov (.tmp 13)⟩,
     ⟨(some 100), (some (97, false)), .bin .andNot (.tmp 98) (.tmp 99)⟩,
     ⟨(some 101), (some (97, false)), .bin .neq (.tmp 100) (.lit (.int .i64 0))⟩,
     ⟨(some 102), none, .pick (.tmp 97) (.lit (.bool true)) (.tmp 101)⟩,
     ⟨(some 103), none, .mov (.tmp 102)⟩,
     ⟨(some 104), (some (103, false)), .mov (.tmp 6)⟩,
     ⟨(some 105), (some (103, false)), .mov (.tmp 4)⟩,
     ⟨(some 106), (some (103, false)), .len (.tmp 105)⟩,
     ⟨(some 107), (some (103, false)), .bin .shr (.tmp 104) (.tmp 106)⟩,
     ⟨(some 108), (some (103, false)), .bin .neq (.tmp 107) (.lit (.int .i64 0))⟩,
     ⟨(some 109), none, .pick (.tmp 103) (.lit (.bool true)) (.tmp 108)⟩])
  (.cond (.tmp 109) (.seq (.reg [⟨(some 2), none, .mov (.lit (.bool false))⟩])
   (.ret))
    (.skip)))
 (.seq (.reg [⟨(some 18), none, .mov (.lit (.int .i64 0))⟩,
    ⟨(some 19), none, .mov (.lit (.int .i64 0))⟩])
 (.seq (.seq (.reg [⟨(some 110), none, .mov (.tmp 4)⟩,
     ⟨(some 111), none, .len (.tmp 110)⟩,
     ⟨(some 112), none, .mov (.lit (.int .i64 0))⟩])
  (.block 0 (.loop (.seq (.reg [⟨(some 113), none, .bin .lss (.tmp 112) (.tmp 111)⟩])
   (.seq (.cond (.tmp 113) (.skip)
      (.exit 0))
   (.seq (.block 1 (.seq (.reg [⟨(some 114), none, .mov (.tmp 112)⟩,
       ⟨(some 115), none, .iaddr 1 (.tmp 110) (.tmp 112)⟩,
       ⟨(some 116), none, .load false 1 (.tmp 115)⟩,
       ⟨(some 20), none, .mov (.tmp 114)⟩,
       ⟨(some 21), none, .mov (.tmp 116)⟩])
    (.seq (.reg [⟨(some 118), none, .load true 3 (.tmp 3)⟩,
       ⟨(some 119), none, .mov (.tmp 20)⟩,
       ⟨(some 120), none, .call (.fn 15) [(.tmp 118), (.tmp 119)]⟩,
       ⟨(some 117), none, .mov (.tmp 120)⟩,
       ⟨(some 121), none, .ext (.tmp 117) 0⟩,
       ⟨(some 122), none, .ext (.tmp 117) 1⟩,
       ⟨(some 22), none, .alloc [(.int .i64 0), (.int .i64 0)]⟩,
       ⟨none, none, .store 2 (.tmp 22) (.tmp 121)⟩,
       ⟨(some 23), none, .mov (.tmp 122)⟩])
    (.seq (.reg [⟨(some 124), none, .load true 3 (.tmp 3)⟩,
       ⟨(some 125), none, .mov (.tmp 20)⟩,
       ⟨(some 126), none, .call (.fn 17) [(.tmp 124), (.tmp 125)]⟩,
       ⟨(some 123), none, .mov (.tmp 126)⟩,
       ⟨(some 127), none, .ext (.tmp 123) 0⟩,
       ⟨(some 128), none, .ext (.tmp 123) 1⟩,
       ⟨(some 24), none, .alloc [(.int .i64 0), (.int .i64 0)]⟩,
       ⟨none, none, .store 2 (.tmp 24) (.tmp 127)⟩,
       ⟨(some 25), none, .mov (.tmp 128)⟩])
    (.seq (.seq (.reg [⟨(some 129), none, .mov (.tmp 23)⟩,
        ⟨(some 130), none, .bin .neq (.tmp 129) (.lit (.int .i64 0))⟩,
        ⟨(some 131), none, .mov (.tmp 130)⟩,
        ⟨(some 132), (some (131, false)), .mov (.tmp 25)⟩,
        ⟨(some 133), (some (131, false)), .bin .neq (.tmp 132) (.lit (.int .i64 0))⟩,
        ⟨(some 134), none, .pick (.tmp 131) (.lit (.bool true)) (.tmp 133)⟩,
        ⟨(some 135), none, .mov (.tmp 134)⟩,
        ⟨(some 136), (some (135, false)), .mov (.tmp 21)⟩,
        ⟨(some 137), (some (135, false)), .load true 2 (.tmp 22)⟩,
        ⟨(some 138), (some (135, false)), .call (.fn 33) [(.tmp 136), (.tmp 137)]⟩,
        ⟨(some 139), (some (135, false)), .un .not (.tmp 138)⟩,
        ⟨(some 140), none, .pick (.tmp 135) (.lit (.bool true)) (.tmp 139)⟩,
        ⟨(some 141), none, .mov (.tmp 140)⟩,
        ⟨(some 142), (some (141, false)), .mov (.tmp 21)⟩,
        ⟨(some 143), (some (141, false)), .load true 2 (.tmp 24)⟩,
        ⟨(some 144), (some (141, false)), .call (.fn 33) [(.tmp 142), (.tmp 143)]⟩,
        ⟨(some 145), (some (141, false)), .un .not (.tmp 144)⟩,
        ⟨(some 146), none, .pick (.tmp 141) (.lit (.bool true)) (.tmp 145)⟩,
        ⟨(some 147), none, .mov (.tmp 146)⟩,
        ⟨(some 148), (some (147, false)), .faddr 0 (.tmp 24)⟩,
        ⟨(some 149), (some (147, false)), .load false 1 (.tmp 148)⟩,
        ⟨(some 150), (some (147, false)), .faddr 0 (.tmp 22)⟩,
        ⟨(some 151), (some (147, false)), .load false 1 (.tmp 150)⟩,
        ⟨(some 152), (some (147, false)), .bin .lss (.tmp 149) (.tmp 151)⟩,
        ⟨(some 153), none, .pick (.tmp 147) (.lit (.bool true)) (.tmp 152)⟩,
        ⟨(some 154), none, .mov (.tmp 153)⟩,
        ⟨(some 155), (some (154, false)), .faddr 1 (.tmp 24)⟩,
        ⟨(some 156), (some (154, false)), .load false 1 (.tmp 155)⟩,
        ⟨(some 157), (some (154, false)), .faddr 1 (.tmp 22)⟩,
        ⟨(some 158), (some (154, false)), .load false 1 (.tmp 157)⟩,
        ⟨(some 159), (some (154, false)), .bin .gtr (.tmp 156) (.tmp 158)⟩,
        ⟨(some 160), none, .pick (.tmp 154) (.lit (.bool true)) (.tmp 159)⟩])
     (.cond (.tmp 160) (.seq (.reg [⟨(some 2), none, .mov (.lit (.bool false))⟩])
      (.ret))
       (.skip)))
    (.seq (.seq (.draw (.step ⟨(some 161), none, .faddr 0 (.tmp 24)⟩ (
        .step ⟨(some 162), none, .load false 1 (.tmp 161)⟩ (
        .step ⟨(some 163), none, .bin .gtr (.tmp 162) (.lit (.int .i64 0))⟩ (
        .step ⟨(some 164), none, .mov (.tmp 5)⟩ (
        .step ⟨(some 165), none, .mov (.tmp 20)⟩ (
        .step ⟨(some 166), none, .bin .shr (.tmp 164) (.tmp 165)⟩ (
        .step ⟨(some 167), none, .bin .and (.tmp 166) (.lit (.int .i64 1))⟩ (
        .step ⟨(some 168), none, .bin .eql (.tmp 167) (.lit (.int .i64 1))⟩ (
        .step ⟨(some 169), none, .eqb true (.tmp 163) (.tmp 168)⟩ (
        .step ⟨(some 170), none, .mov (.tmp 169)⟩ (
        .step ⟨(some 171), (some (170, false)), .faddr 1 (.tmp 24)⟩ (
        .step ⟨(some 172), (some (170, false)), .load false 1 (.tmp 171)⟩ (
        .step ⟨(some 173), (some (170, false)), .bin .gtr (.tmp 172) (.lit (.int .i64 0))⟩ (
        .step ⟨(some 174), (some (170, false)), .mov (.tmp 6)⟩ (
        .step ⟨(some 175), (some (170, false)), .mov (.tmp 20)⟩ (
        .step ⟨(some 176), (some (170, false)), .bin .shr (.tmp 174) (.tmp 175)⟩ (
        .step ⟨(some 177), (some (170, false)), .bin .and (.tmp 176) (.lit (.int .i64 1))⟩ (
        .step ⟨(some 178), (some (170, false)), .bin .eql (.tmp 177) (.lit (.int .i64 1))⟩ (
        .step ⟨(some 179), (some (170, false)), .eqb true (.tmp 173) (.tmp 178)⟩ (
        .step ⟨(some 180), none, .pick (.tmp 170) (.lit (.bool true)) (.tmp 179)⟩ (
        .done))))))))))))))))))))))
     (.cond (.tmp 180) (.seq (.reg [⟨(some 2), none, .mov (.lit (.bool false))⟩])
      (.ret))
       (.skip)))
    (.seq (.reg [⟨(some 181), none, .mov (.tmp 18)⟩,
       ⟨(some 182), none, .mov (.tmp 21)⟩,
       ⟨(some 183), none, .bin .add (.tmp 181) (.tmp 182)⟩,
       ⟨(some 18), none, .mov (.tmp 183)⟩])
    (.seq (.reg [⟨(some 184), none, .mov (.tmp 21)⟩,
       ⟨(some 185), none, .bin .gtr (.tmp 184) (.lit (.int .i64 0))⟩])
    (.cond (.tmp 185) (.reg [⟨(some 186), none, .mov (.tmp 19)⟩,
       ⟨(some 187), none, .bin .add (.tmp 186) (.lit (.int .i64 1))⟩,
       ⟨(some 19), none, .mov (.tmp 187)⟩])
      (.skip))))))))))
   (.reg [⟨(some 188), none, .bin .add (.tmp 112) (.lit (.int .i64 1))⟩,
     ⟨(some 112), none, .mov (.tmp 188)⟩])))))))
 (.seq (.reg [⟨(some 189), none, .mov (.tmp 18)⟩,
    ⟨(some 190), none, .load true 2 (.tmp 8)⟩,
    ⟨(some 191), none, .call (.fn 33) [(.tmp 189), (.tmp 190)]⟩,
    ⟨(some 192), none, .mov (.tmp 191)⟩,
    ⟨(some 193), (some (192, true)), .mov (.tmp 19)⟩,
    ⟨(some 194), (some (192, true)), .mov (.tmp 12)⟩,
    ⟨(some 195), (some (192, true)), .bin .geq (.tmp 193) (.tmp 194)⟩,
    ⟨(some 196), none, .pick (.tmp 192) (.tmp 195) (.lit (.bool false))⟩,
    ⟨(some 197), none, .mov (.tmp 196)⟩,
    ⟨(some 198), (some (197, true)), .call (.fn 14) []⟩,
    ⟨(some 199), none, .pick (.tmp 197) (.tmp 198) (.lit (.bool false))⟩,
    ⟨(some 2), none, .mov (.tmp 199)⟩])
 (.ret)))))))))))
theorem k6 : FnC Try.prog 6 200 [] [] [.tmp 2] c6 1 := ⟨Try.f6, _, Try.func6, rfl, by decide, rfl, by decide, by kernel_rfl, by kernel_rfl⟩
/-- dipworks/dipworkslaw06.TowelEnds -/
def c7 : AC :=
 .seq (.reg [⟨(some 2), none, .box (.tmp 0)⟩,
    ⟨(some 4), none, .mov (.lit (.bool false))⟩])
 (.seq (.seq (.reg [⟨(some 23), none, .load true 3 (.tmp 2)⟩,
     ⟨(some 24), none, .call (.fn 34) [(.tmp 23)]⟩])
  (.cond (.tmp 24) (.seq (.reg [⟨(some 25), none, .call (.fn 14) []⟩,
      ⟨(some 4), none, .mov (.tmp 25)⟩])
   (.ret))
    (.skip)))
 (.seq (.reg [⟨(some 27), none, .load true 3 (.tmp 2)⟩,
    ⟨(some 28), none, .call (.fn 23) [(.tmp 27)]⟩,
    ⟨(some 26), none, .mov (.tmp 28)⟩,
    ⟨(some 29), none, .ext (.tmp 26) 0⟩,
    ⟨(some 30), none, .ext (.tmp 26) 1⟩,
    ⟨(some 5), none, .mov (.tmp 29)⟩,
    ⟨(some 6), none, .mov (.tmp 30)⟩])
 (.seq (.seq (.reg [⟨(some 31), none, .load true 3 (.tmp 2)⟩,
     ⟨(some 32), none, .call (.fn 35) [(.tmp 31)]⟩,
     ⟨(some 33), none, .un .not (.tmp 32)⟩])
  (.cond (.tmp 33) (.seq (.reg [⟨(some 34), none, .mov (.tmp 6)⟩,
      ⟨(some 35), none, .bin .eql (.tmp 34) (.lit (.int .i64 1))⟩,
      ⟨(some 36), none, .mov (.tmp 35)⟩,
      ⟨(some 37), (some (36, true)), .mov (.tmp 5)⟩,
      ⟨(some 38), (some (36, true)), .bin .eql (.tmp 37) (.lit (.int .i64 0))⟩,
      ⟨(some 39), none, .pick (.tmp 36) (.tmp 38) (.lit (.bool false))⟩,
      ⟨(some 40), none, .mov (.tmp 39)⟩,
      ⟨(some 41), (some (40, true)), .call (.fn 14) []⟩,
      ⟨(some 42), none, .pick (.tmp 40) (.tmp 41) (.lit (.bool false))⟩,
      ⟨(some 4), none, .mov (.tmp 42)⟩])
   (.ret))
    (.skip)))
 (.seq (.reg [⟨(some 44), none, .load true 3 (.tmp 2)⟩,
    ⟨(some 45), none, .faddr 0 (.tmp 2)⟩,
    ⟨(some 46), none, .load false 1 (.tmp 45)⟩,
    ⟨(some 47), none, .len (.tmp 46)⟩,
    ⟨(some 48), none, .call (.fn 15) [(.tmp 44), (.tmp 47)]⟩,
    ⟨(some 43), none, .mov (.tmp 48)⟩,
    ⟨(some 49), none, .ext (.tmp 43) 0⟩,
    ⟨(some 50), none, .ext (.tmp 43) 1⟩,
    ⟨(some 7), none, .alloc [(.int .i64 0), (.int .i64 0)]⟩,
    ⟨none, none, .store 2 (.tmp 7) (.tmp 49)⟩,
    ⟨(some 8), none, .mov (.tmp 50)⟩])
 (.seq (.reg [⟨(some 52), none, .load true 3 (.tmp 2)⟩,
    ⟨(some 53), none, .call (.fn 17) [(.tmp 52), (.lit (.int .i64 (-1)))]⟩,
    ⟨(some 51), none, .mov (.tmp 53)⟩,
    ⟨(some 54), none, .ext (.tmp 51) 0⟩,
    ⟨(some 55), none, .ext (.tmp 51) 1⟩,
    ⟨(some 9), none, .alloc [(.int .i64 0), (.int .i64 0)]⟩,
    ⟨none, none, .store 2 (.tmp 9) (.tmp 54)⟩,
    ⟨(some 10), none, .mov (.tmp 55)⟩])
 (.seq (.seq (.reg [⟨(some 56), none, .mov (.tmp 6)⟩,
     ⟨(some 57), none, .bin .neq (.tmp 56) (.lit (.int .i64 0))⟩,
     ⟨(some 58), none, .mov (.tmp 57)⟩,
     ⟨(some 59), (some (58, false)), .mov (.tmp 5)⟩,
     ⟨(some 60), (some (58, false)), .bin .lss (.tmp 59) (.lit (.int .i64 0))⟩,
     ⟨(some 61), none, .pick (.tmp 58) (.lit (.bool true)) (.tmp 60)⟩,
     ⟨(some 62), none, .mov (.tmp 61)⟩,
     ⟨(some 63), (some (62, false)), .mov (.tmp 8)⟩,
     ⟨(some 64), (some (62, false)), .bin .neq (.tmp 63) (.lit (.int .i64 2))⟩,
     ⟨(some 65), none, .pick (.tmp 62) (.lit (.bool true)) (.tmp 64)⟩,
     ⟨(some 66), none, .mov (.tmp 65)⟩,
     ⟨(some 67), (some (66, false)), .mov (.tmp 10)⟩,
     ⟨(some 68), (some (66, false)), .bin .neq (.tmp 67) (.lit (.int .i64 2))⟩,
     ⟨(some 69), none, .pick (.tmp 66) (.lit (.bool true)) (.tmp 68)⟩])
  (.cond (.tmp 69) (.seq (.reg [⟨(some 4), none, .mov (.lit (.bool false))⟩])
   (.ret))
    (.skip)))
 (.seq (.seq (.reg [⟨(some 70), none, .faddr 0 (.tmp 2)⟩,
     ⟨(some 71), none, .load false 1 (.tmp 70)⟩,
     ⟨(some 72), none, .len (.tmp 71)⟩,
     ⟨(some 73), none, .bin .eql (.tmp 72) (.lit (.int .i64 0))⟩])
  (.cond (.tmp 73) (.seq (.reg [⟨(some 74), none, .call (.fn 14) []⟩,
      ⟨(some 4), none, .mov (.tmp 74)⟩])
   (.ret))
    (.skip)))
 (.seq (.reg [⟨(some 75), none, .mov (.tmp 1)⟩,
    ⟨(some 76), none, .conv .i64 (.tmp 75)⟩,
    ⟨(some 77), none, .faddr 0 (.tmp 2)⟩,
    ⟨(some 78), none, .load false 1 (.tmp 77)⟩,
    ⟨(some 79), none, .len (.tmp 78)⟩,
    ⟨(some 80), none, .bin .rem (.tmp 76) (.tmp 79)⟩,
    ⟨(some 11), none, .mov (.tmp 80)⟩])
 (.seq (.reg [⟨(some 82), none, .load true 3 (.tmp 2)⟩,
    ⟨(some 83), none, .mov (.tmp 11)⟩,
    ⟨(some 84), none, .call (.fn 15) [(.tmp 82), (.tmp 83)]⟩,
    ⟨(some 81), none, .mov (.tmp 84)⟩,
    ⟨(some 85), none, .ext (.tmp 81) 0⟩,
    ⟨(some 86), none, .ext (.tmp 81) 1⟩,
    ⟨(some 12), none, .alloc [(.int .i64 0), (.int .i64 0)]⟩,
    ⟨none, none, .store 2 (.tmp 12) (.tmp 85)⟩,
    ⟨(some 13), none, .mov (.tmp 86)⟩])
 (.seq (.reg [⟨(some 88), none, .load true 3 (.tmp 2)⟩,
    ⟨(some 89), none, .mov (.tmp 11)⟩,
    ⟨(some 90), none, .call (.fn 17) [(.tmp 88), (.tmp 89)]⟩,
    ⟨(some 87), none, .mov (.tmp 90)⟩,
    ⟨(some 91), none, .ext (.tmp 87) 0⟩,
    ⟨(some 92), none, .ext (.tmp 87) 1⟩,
    ⟨(some 14), none, .alloc [(.int .i64 0), (.int .i64 0)]⟩,
    ⟨none, none, .store 2 (.tmp 14) (.tmp 91)⟩,
    ⟨(some 15), none, .mov (.tmp 92)⟩])
 (.seq (.reg [⟨(some 94), none, .load true 3 (.tmp 2)⟩,
    ⟨(some 95), none, .call (.fn 21) [(.tmp 94)]⟩,
    ⟨(some 93), none, .mov (.tmp 95)⟩,
    ⟨(some 96), none, .ext (.tmp 93) 0⟩,
    ⟨(some 97), none, .ext (.tmp 93) 1⟩,
    ⟨(some 16), none, .alloc [(.int .i64 0), (.int .i64 0)]⟩,
    ⟨none, none, .store 2 (.tmp 16) (.tmp 96)⟩,
    ⟨(some 17), none, .mov (.tmp 97)⟩])
 (.seq (.seq (.reg [⟨(some 98), none, .mov (.tmp 13)⟩,
     ⟨(some 99), none, .bin .neq (.tmp 98) (.lit (.int .i64 0))⟩,
     ⟨(some 100), none, .mov (.tmp 99)⟩,
     ⟨(some 101), (some (100, false)), .mov (.tmp 15)⟩,
     ⟨(some 102), (some (100, false)), .bin .eql (.tmp 101) (.lit (.int .i64 0))⟩,
     ⟨(some 103), (some (100, false)), .mov (.tmp 5)⟩,
     ⟨(some 104), (some (100, false)), .bin .gtr (.tmp 103) (.lit (.int .i64 0))⟩,
     ⟨(some 105), (some (100, false)), .eqb true (.tmp 102) (.tmp 104)⟩,
     ⟨(some 106), none, .pick (.tmp 100) (.lit (.bool true)) (.tmp 105)⟩,
     ⟨(some 107), none, .mov (.tmp 106)⟩,
     ⟨(some 108), (some (107, false)), .mov (.tmp 17)⟩,
     ⟨(some 109), (some (107, false)), .mov (.tmp 15)⟩,
     ⟨(some 110), (some (107, false)), .bin .neq (.tmp 108) (.tmp 109)⟩,
     ⟨(some 111), none, .pick (.tmp 107) (.lit (.bool true)) (.tmp 110)⟩,
     ⟨(some 112), none, .mov (.tmp 111)⟩,
     ⟨(some 113), (some (112, false)), .mov (.tmp 15)⟩,
     ⟨(some 114), (some (112, false)), .bin .neq (.tmp 113) (.lit (.int .i64 0))⟩,
     ⟨(some 115), (some (112, false)), .mov (.tmp 114)⟩,
     ⟨(some 116), (some (115, true)), .mov (.tmp 15)⟩,
     ⟨(some 117), (some (115, true)), .bin .neq (.tmp 116) (.lit (.int .i64 10))⟩,
     ⟨(some 118), (some (115, true)), .mov (.tmp 117)⟩,
     ⟨(some 119), (some (118, false)), .load true 2 (.tmp 14)⟩,
     ⟨(some 120), (some (118, false)), .build [(.int .i64 0), (.int .i64 0)] []⟩,
     ⟨(some 121), (some (118, false)), .eqs true [(some .i64), (some .i64)] (.tmp 119) (.tmp 120)⟩,
     ⟨(some 122), (some (115, true)), .pick (.tmp 118) (.lit (.bool true)) (.tmp 121)⟩,
     ⟨(some 123), (some (115, true)), .mov (.tmp 122)⟩,
     ⟨(some 124), (some (123, false)), .load true 2 (.tmp 16)⟩,
     ⟨(some 125), (some (123, false)), .build [(.int .i64 0), (.int .i64 0)] []⟩,
     ⟨(some 126), (some (123, false)), .eqs true [(some .i64), (some .i64)] (.tmp 124) (.tmp 125)⟩,
     ⟨(some 127), (some (115, true)), .pick (.tmp 123) (.lit (.bool true)) (.tmp 126)⟩,
     ⟨(some 128), (some (112, false)), .pick (.tmp 115) (.tmp 127) (.lit (.bool false))⟩,
     ⟨(some 129), none, .pick (.tmp 112) (.lit (.bool true)) (.tmp 128)⟩])
  (.cond (.tmp 129) (.seq (.reg [⟨(some 4), none, .mov (.lit (.bool false))⟩])
   (.ret))
    (.skip)))
 (.seq (.reg [⟨(some 130), none, .faddr 0 (.tmp 2)⟩,
    ⟨(some 131), none, .load false 1 (.tmp 130)⟩,
    ⟨(some 132), none, .mov (.tmp 11)⟩,
    ⟨(some 133), none, .iaddr 6 (.tmp 131) (.tmp 132)⟩,
    ⟨(some 134), none, .load true 6 (.tmp 133)⟩,
    ⟨(some 18), none, .alloc [(.int .i64 0), (.int .i64 0), (.int .i64 0), (.int .i64 0), (.int .i64 0), (.int .i64 0)]⟩,
    ⟨none, none, .store 6 (.tmp 18) (.tmp 134)⟩])
 (.seq (.seq (.reg [⟨(some 135), none, .faddr 0 (.tmp 12)⟩,
     ⟨(some 136), none, .load false 1 (.tmp 135)⟩,
     ⟨(some 137), none, .faddr 2 (.tmp 18)⟩,
     ⟨(some 138), none, .faddr 0 (.tmp 137)⟩,
     ⟨(some 139), none, .load false 1 (.tmp 138)⟩,
     ⟨(some 140), none, .faddr 4 (.tmp 18)⟩,
     ⟨(some 141), none, .faddr 1 (.tmp 140)⟩,
     ⟨(some 142), none, .load false 1 (.tmp 141)⟩,
     ⟨(some 143), none, .bin .sub (.tmp 139) (.tmp 142)⟩,
     ⟨(some 144), none, .mxmn true (.lit (.int .i64 0)) [(.tmp 143)]⟩,
     ⟨(some 145), none, .bin .neq (.tmp 136) (.tmp 144)⟩,
     ⟨(some 146), none, .mov (.tmp 145)⟩,
     ⟨(some 147), (some (146, false)), .faddr 1 (.tmp 12)⟩,
     ⟨(some 148), (some (146, false)), .load false 1 (.tmp 147)⟩,
     ⟨(some 149), (some (146, false)), .faddr 2 (.tmp 18)⟩,
     ⟨(some 150), (some (146, false)), .faddr 1 (.tmp 149)⟩,
     ⟨(some 151), (some (146, false)), .load false 1 (.tmp 150)⟩,
     ⟨(some 152), (some (146, false)), .faddr 4 (.tmp 18)⟩,
     ⟨(some 153), (some (146, false)), .faddr 0 (.tmp 152)⟩,
     ⟨(some 154), (some (146, false)), .load false 1 (.tmp 153)⟩,
     ⟨(some 155), (some (146, false)), .bin .sub (.tmp 151) (.tmp 154)⟩,
     ⟨(some 156), (some (146, false)), .bin .neq (.tmp 148) (.tmp 155)⟩,
     ⟨(some 157), none, .pick (.tmp 146) (.lit (.bool true)) (.tmp 156)⟩])
  (.cond (.tmp 157) (.seq (.reg [⟨(some 4), none, .mov (.lit (.bool false))⟩])
   (.ret))
    (.skip)))
 (.seq (.reg [⟨(some 19), none, .mov (.lit (.int .i64 0))⟩])
 (.seq (.seq (.reg [⟨(some 158), none, .faddr 0 (.tmp 12)⟩,
     ⟨(some 159), none, .load false 1 (.tmp 158)⟩,
     ⟨(some 20), none, .mov (.tmp 159)⟩])
  (.block 0 (.loop (.seq (.seq (.reg [⟨(some 160), none, .mov (.tmp 20)⟩,
       ⟨(some 161), none, .faddr 1 (.tmp 12)⟩,
       ⟨(some 162), none, .load false 1 (.tmp 161)⟩,
       ⟨(some 163), none, .bin .leq (.tmp 160) (.tmp 162)⟩])
    (.cond (.tmp 163) (.skip)
      (.exit 0)))
   (.seq (.block 1 (.seq (.reg [⟨(some 167), none, .load true 3 (.tmp 2)⟩,
       ⟨(some 168), none, .mov (.tmp 11)⟩,
       ⟨(some 169), none, .mov (.tmp 20)⟩,
       ⟨(some 170), none, .call (.fn 36) [(.tmp 167), (.tmp 168), (.tmp 169)]⟩,
       ⟨(some 171), none, .call (.fn 23) [(.tmp 170)]⟩,
       ⟨(some 166), none, .mov (.tmp 171)⟩,
       ⟨(some 172), none, .ext (.tmp 166) 0⟩,
       ⟨(some 173), none, .ext (.tmp 166) 1⟩,
       ⟨(some 21), none, .mov (.tmp 172)⟩,
       ⟨(some 22), none, .mov (.tmp 173)⟩])
    (.seq (.seq (.reg [⟨(some 174), none, .mov (.tmp 22)⟩,
        ⟨(some 175), none, .bin .neq (.tmp 174) (.lit (.int .i64 0))⟩,
        ⟨(some 176), none, .mov (.tmp 175)⟩,
        ⟨(some 177), (some (176, false)), .mov (.tmp 21)⟩,
        ⟨(some 178), (some (176, false)), .bin .gtr (.tmp 177) (.lit (.int .i64 0))⟩,
        ⟨(some 179), (some (176, false)), .mov (.tmp 5)⟩,
        ⟨(some 180), (some (176, false)), .bin .gtr (.tmp 179) (.lit (.int .i64 0))⟩,
        ⟨(some 181), (some (176, false)), .mov (.tmp 180)⟩,
        ⟨(some 182), (some (181, true)), .mov (.tmp 20)⟩,
        ⟨(some 183), (some (181, true)), .load true 2 (.tmp 14)⟩,
        ⟨(some 184), (some (181, true)), .call (.fn 33) [(.tmp 182), (.tmp 183)]⟩,
        ⟨(some 185), (some (176, false)), .pick (.tmp 181) (.tmp 184) (.lit (.bool false))⟩,
        ⟨(some 186), (some (176, false)), .eqb true (.tmp 178) (.tmp 185)⟩,
        ⟨(some 187), none, .pick (.tmp 176) (.lit (.bool true)) (.tmp 186)⟩])
     (.cond (.tmp 187) (.seq (.reg [⟨(some 4), none, .mov (.lit (.bool false))⟩])
      (.ret))
       (.skip)))
    (.reg [⟨(some 188), none, .mov (.tmp 19)⟩,
      ⟨(some 189), none, .mov (.tmp 21)⟩,
      ⟨(some 190), none, .bin .add (.tmp 188) (.tmp 189)⟩,
      ⟨(some 19), none, .mov (.tmp 190)⟩]))))
   (.reg [⟨(some 164), none, .mov (.tmp 20)⟩,
     ⟨(some 165), none, .bin .add (.tmp 164) (.lit (.int .i64 1))⟩,
     ⟨(some 20), none, .mov (.tmp 165)⟩]))))))
 (.seq (.reg [⟨(some 191), none, .mov (.tmp 19)⟩,
    ⟨(some 192), none, .mov (.tmp 5)⟩,
    ⟨(some 193), none, .bin .eql (.tmp 191) (.tmp 192)⟩,
    ⟨(some 194), none, .mov (.tmp 193)⟩,
    ⟨(some 195), (some (194, true)), .call (.fn 14) []⟩,
    ⟨(some 196), none, .pick (.tmp 194) (.tmp 195) (.lit (.bool false))⟩,
    ⟨(some 4), none, .mov (.tmp 196)⟩])
 (.ret))))))))))))))))))
theorem k7 : FnC Try.prog 7 197 [] [] [.tmp 4] c7 2 := ⟨Try.f7, _, Try.func7, rfl, by decide, rfl, by decide, by kernel_rfl, by kernel_rfl⟩
/-- dipworks/dipworkslaw06.TowelFewest -/
def c8 : AC :=
 .seq (.reg [⟨(some 2), none, .box (.tmp 0)⟩,
    ⟨(some 4), none, .mov (.lit (.bool false))⟩])
 (.seq (.seq (.reg [⟨(some 15), none, .load true 3 (.tmp 2)⟩,
     ⟨(some 16), none, .call (.fn 37) [(.tmp 15)]⟩,
     ⟨(some 17), none, .un .not (.tmp 16)⟩])
  (.cond (.tmp 17) (.seq (.reg [⟨(some 18), none, .call (.fn 14) []⟩,
      ⟨(some 4), none, .mov (.tmp 18)⟩])
   (.ret))
    (.skip)))
 (.seq (.reg [⟨(some 20), none, .load true 3 (.tmp 2)⟩,
    ⟨(some 21), none, .call (.fn 25) [(.tmp 20)]⟩,
    ⟨(some 19), none, .mov (.tmp 21)⟩,
    ⟨(some 22), none, .ext (.tmp 19) 0⟩,
    ⟨(some 23), none, .ext (.tmp 19) 1⟩,
    ⟨(some 24), none, .ext (.tmp 19) 2⟩,
    ⟨(some 5), none, .mov (.tmp 22)⟩,
    ⟨(some 6), none, .mov (.tmp 23)⟩,
    ⟨(some 7), none, .mov (.tmp 24)⟩])
 (.seq (.reg [⟨(some 26), none, .load true 3 (.tmp 2)⟩,
    ⟨(some 27), none, .call (.fn 23) [(.tmp 26)]⟩,
    ⟨(some 25), none, .mov (.tmp 27)⟩,
    ⟨(some 28), none, .ext (.tmp 25) 0⟩,
    ⟨(some 29), none, .ext (.tmp 25) 1⟩,
    ⟨(some 8), none, .mov (.tmp 28)⟩,
    ⟨(some 9), none, .mov (.tmp 29)⟩])
 (.seq (.seq (.reg [⟨(some 30), none, .mov (.tmp 9)⟩,
     ⟨(some 31), none, .bin .neq (.tmp 30) (.lit (.int .i64 0))⟩,
     ⟨(some 32), none, .mov (.tmp 31)⟩,
     ⟨(some 33), (some (32, false)), .mov (.tmp 7)⟩,
     ⟨(some 34), (some (32, false)), .bin .eql (.tmp 33) (.lit (.int .i64 0))⟩,
     ⟨(some 35), (some (32, false)), .mov (.tmp 8)⟩,
     ⟨(some 36), (some (32, false)), .bin .gtr (.tmp 35) (.lit (.int .i64 0))⟩,
     ⟨(some 37), (some (32, false)), .eqb true (.tmp 34) (.tmp 36)⟩,
     ⟨(some 38), none, .pick (.tmp 32) (.lit (.bool true)) (.tmp 37)⟩,
     ⟨(some 39), none, .mov (.tmp 38)⟩,
     ⟨(some 40), (some (39, false)), .mov (.tmp 7)⟩,
     ⟨(some 41), (some (39, false)), .bin .neq (.tmp 40) (.lit (.int .i64 0))⟩,
     ⟨(some 42), (some (39, false)), .mov (.tmp 41)⟩,
     ⟨(some 43), (some (42, true)), .mov (.tmp 7)⟩,
     ⟨(some 44), (some (42, true)), .bin .neq (.tmp 43) (.lit (.int .i64 10))⟩,
     ⟨(some 45), (some (42, true)), .mov (.tmp 44)⟩,
     ⟨(some 46), (some (45, false)), .mov (.tmp 5)⟩,
     ⟨(some 47), (some (45, false)), .bin .neq (.tmp 46) (.lit (.int .i64 0))⟩,
     ⟨(some 48), (some (42, true)), .pick (.tmp 45) (.lit (.bool true)) (.tmp 47)⟩,
     ⟨(some 49), (some (42, true)), .mov (.tmp 48)⟩,
     ⟨(some 50), (some (49, false)), .mov (.tmp 6)⟩,
     ⟨(some 51), (some (49, false)), .bin .neq (.tmp 50) (.lit (.int .i64 0))⟩,
     ⟨(some 52), (some (42, true)), .pick (.tmp 49) (.lit (.bool true)) (.tmp 51)⟩,
     ⟨(some 53), (some (39, false)), .pick (.tmp 42) (.tmp 52) (.lit (.bool false))⟩,
     ⟨(some 54), none, .pick (.tmp 39) (.lit (.bool true)) (.tmp 53)⟩])
  (.cond (.tmp 54) (.seq (.reg [⟨(some 4), none, .mov (.lit (.bool false))⟩])
   (.ret))
    (.skip)))
 (.seq (.seq (.reg [⟨(some 55), none, .mov (.tmp 7)⟩,
     ⟨(some 56), none, .bin .neq (.tmp 55) (.lit (.int .i64 0))⟩])
  (.cond (.tmp 56) (.seq (.reg [⟨(some 57), none, .call (.fn 14) []⟩,
      ⟨(some 4), none, .mov (.tmp 57)⟩])
   (.ret))
    (.skip)))
 (.seq (.reg [⟨(some 58), none, .mkfn (.func 38) [] [(.tmp 2)]⟩,
    ⟨(some 10), none, .mov (.tmp 58)⟩])
 (.seq (.reg [⟨(some 59), none, .faddr 0 (.tmp 2)⟩,
    ⟨(some 60), none, .load false 1 (.tmp 59)⟩,
    ⟨(some 61), none, .len (.tmp 60)⟩,
    ⟨(some 62), none, .bin .shl (.lit (.int .i64 1)) (.tmp 61)⟩,
    ⟨(some 63), none, .bin .sub (.tmp 62) (.lit (.int .i64 1))⟩,
    ⟨(some 11), none, .mov (.tmp 63)⟩,
    ⟨(some 12), none, .mov (.fn 32)⟩])
 (.seq (.seq (.reg [⟨(some 64), none, .mov (.tmp 6)⟩,
     ⟨(some 65), none, .bin .lss (.tmp 64) (.lit (.int .i64 0))⟩,
     ⟨(some 66), none, .mov (.tmp 65)⟩,
     ⟨(some 67), (some (66, false)), .mov (.tmp 6)⟩,
     ⟨(some 68), (some (66, false)), .mov (.tmp 11)⟩,
     ⟨(some 69), (some (66, false)), .bin .gtr (.tmp 67) (.tmp 68)⟩,
     ⟨(some 70), none, .pick (.tmp 66) (.lit (.bool true)) (.tmp 69)⟩,
     ⟨(some 71), none, .mov (.tmp 70)⟩,
     ⟨(some 72), (some (71, false)), .mov (.tmp 12)⟩,
     ⟨(some 73), (some (71, false)), .mov (.tmp 6)⟩,
     ⟨(some 74), (some (71, false)), .call (.tmp 72) [(.tmp 73)]⟩,
     ⟨(some 75), (some (71, false)), .mov (.tmp 5)⟩,
     ⟨(some 76), (some (71, false)), .bin .neq (.tmp 74) (.tmp 75)⟩,
     ⟨(some 77), none, .pick (.tmp 71) (.lit (.bool true)) (.tmp 76)⟩,
     ⟨(some 78), none, .mov (.tmp 77)⟩,
     ⟨(some 79), (some (78, false)), .mov (.tmp 10)⟩,
     ⟨(some 80), (some (78, false)), .mov (.tmp 6)⟩,
     ⟨(some 81), (some (78, false)), .call (.tmp 79) [(.tmp 80)]⟩,
     ⟨(some 82), (some (78, false)), .un .not (.tmp 81)⟩,
     ⟨(some 83), none, .pick (.tmp 78) (.lit (.bool true)) (.tmp 82)⟩])
  (.cond (.tmp 83) (.seq (.reg [⟨(some 4), none, .mov (.lit (.bool false))⟩])
   (.ret))
    (.skip)))
 (.seq (.seq (.reg [⟨(some 84), none, .faddr 0 (.tmp 2)⟩,
     ⟨(some 85), none, .load false 1 (.tmp 84)⟩,
     ⟨(some 86), none, .len (.tmp 85)⟩,
     ⟨(some 87), none, .mov (.lit (.int .i64 0))⟩])
  (.block 0 (.loop (.seq (.reg [⟨(some 88), none, .bin .lss (.tmp 87) (.tmp 86)⟩])
   (.seq (.cond (.tmp 88) (.skip)
      (.exit 0))
   (.seq (.block 1 (.seq (.reg [⟨(some 89), none, .mov (.tmp 87)⟩,
       ⟨(some 13), none, .mov (.tmp 89)⟩])
    (.seq (.reg [⟨(some 90), none, .mov (.tmp 6)⟩,
       ⟨(some 91), none, .mov (.tmp 13)⟩,
       ⟨(some 92), none, .bin .shr (.tmp 90) (.tmp 91)⟩,
       ⟨(some 93), none, .bin .and (.tmp 92) (.lit (.int .i64 1))⟩,
       ⟨(some 94), none, .bin .eql (.tmp 93) (.lit (.int .i64 1))⟩,
       ⟨(some 95), none, .mov (.tmp 94)⟩,
       ⟨(some 96), (some (95, true)), .mov (.tmp 10)⟩,
       ⟨(some 97), (some (95, true)), .mov (.tmp 6)⟩,
       ⟨(some 98), (some (95, true)), .mov (.tmp 13)⟩,
       ⟨(some 99), (some (95, true)), .bin .shl (.lit (.int .i64 1)) (.tmp 98)⟩,
       ⟨(some 100), (some (95, true)), .bin .andNot (.tmp 97) (.tmp 99)⟩,
       ⟨(some 101), (some (95, true)), .call (.tmp 96) [(.tmp 100)]⟩,
       ⟨(some 102), none, .pick (.tmp 95) (.tmp 101) (.lit (.bool false))⟩])
    (.cond (.tmp 102) (.seq (.reg [⟨(some 4), none, .mov (.lit (.bool false))⟩])
     (.ret))
      (.skip)))))
   (.reg [⟨(some 103), none, .bin .add (.tmp 87) (.lit (.int .i64 1))⟩,
     ⟨(some 87), none, .mov (.tmp 103)⟩])))))))
 (.seq (.reg [⟨(some 104), none, .mov (.tmp 1)⟩,
    ⟨(some 105), none, .conv .i64 (.tmp 104)⟩,
    ⟨(some 106), none, .mov (.tmp 11)⟩,
    ⟨(some 107), none, .bin .and (.tmp 105) (.tmp 106)⟩,
    ⟨(some 14), none, .mov (.tmp 107)⟩])
 (.seq (.reg [⟨(some 108), none, .mov (.tmp 10)⟩,
    ⟨(some 109), none, .mov (.tmp 14)⟩,
    ⟨(some 110), none, .call (.tmp 108) [(.tmp 109)]⟩,
    ⟨(some 111), none, .un .not (.tmp 110)⟩,
    ⟨(some 112), none, .mov (.tmp 111)⟩,
    ⟨(some 113), (some (112, false)), .mov (.tmp 12)⟩,
    ⟨(some 114), (some (112, false)), .mov (.tmp 14)⟩,
    ⟨(some 115), (some (112, false)), .call (.tmp 113) [(.tmp 114)]⟩,
    ⟨(some 116), (some (112, false)), .mov (.tmp 5)⟩,
    ⟨(some 117), (some (112, false)), .bin .gtr (.tmp 115) (.tmp 116)⟩,
    ⟨(some 118), none, .pick (.tmp 112) (.lit (.bool true)) (.tmp 117)⟩,
    ⟨(some 119), none, .mov (.tmp 118)⟩,
    ⟨(some 120), (some (119, false)), .mov (.tmp 12)⟩,
    ⟨(some 121), (some (119, false)), .mov (.tmp 14)⟩,
    ⟨(some 122), (some (119, false)), .call (.tmp 120) [(.tmp 121)]⟩,
    ⟨(some 123), (some (119, false)), .mov (.tmp 5)⟩,
    ⟨(some 124), (some (119, false)), .bin .eql (.tmp 122) (.tmp 123)⟩,
    ⟨(some 125), (some (119, false)), .mov (.tmp 124)⟩,
    ⟨(some 126), (some (125, true)), .mov (.tmp 14)⟩,
    ⟨(some 127), (some (125, true)), .mov (.tmp 6)⟩,
    ⟨(some 128), (some (125, true)), .bin .geq (.tmp 126) (.tmp 127)⟩,
    ⟨(some 129), (some (119, false)), .pick (.tmp 125) (.tmp 128) (.lit (.bool false))⟩,
    ⟨(some 130), none, .pick (.tmp 119) (.lit (.bool true)) (.tmp 129)⟩,
    ⟨(some 131), none, .mov (.tmp 130)⟩,
    ⟨(some 132), (some (131, true)), .call (.fn 14) []⟩,
    ⟨(some 133), none, .pick (.tmp 131) (.tmp 132) (.lit (.bool false))⟩,
    ⟨(some 4), none, .mov (.tmp 133)⟩])
 (.ret))))))))))))
theorem k8 : FnC Try.prog 8 134 [] [] [.tmp 4] c8 2 := ⟨Try.f8, _, Try.func8, rfl, by decide, rfl, by decide, by kernel_rfl, by kernel_rfl⟩
/-- dipworks/dipworkslaw06.TowelSearch -/
def c9 : AC :=
 .seq (.reg [⟨(some 2), none, .box (.tmp 0)⟩,
    ⟨(some 4), none, .mov (.lit (.bool false))⟩])
 (.seq (.seq (.reg [⟨(some 13), none, .load true 3 (.tmp 2)⟩,
     ⟨(some 14), none, .call (.fn 37) [(.tmp 13)]⟩,
     ⟨(some 15), none, .un .not (.tmp 14)⟩])
  (.cond (.tmp 15) (.seq (.reg [⟨(some 16), none, .call (.fn 14) []⟩,
      ⟨(some 4), none, .mov (.tmp 16)⟩])
   (.ret))
    (.skip)))
 (.seq (.reg [⟨(some 18), none, .load true 3 (.tmp 2)⟩,
    ⟨(some 19), none, .call (.fn 27) [(.tmp 18)]⟩,
    ⟨(some 17), none, .mov (.tmp 19)⟩,
    ⟨(some 20), none, .ext (.tmp 17) 0⟩,
    ⟨(some 21), none, .ext (.tmp 17) 1⟩,
    ⟨(some 22), none, .ext (.tmp 17) 2⟩,
    ⟨(some 5), none, .mov (.tmp 20)⟩,
    ⟨(some 6), none, .mov (.tmp 21)⟩,
    ⟨(some 7), none, .mov (.tmp 22)⟩])
 (.seq (.reg [⟨(some 24), none, .load true 3 (.tmp 2)⟩,
    ⟨(some 25), none, .call (.fn 23) [(.tmp 24)]⟩,
    ⟨(some 23), none, .mov (.tmp 25)⟩,
    ⟨(some 26), none, .ext (.tmp 23) 0⟩,
    ⟨(some 27), none, .ext (.tmp 23) 1⟩,
    ⟨(some 8), none, .mov (.tmp 26)⟩,
    ⟨(some 9), none, .mov (.tmp 27)⟩])
 (.seq (.seq (.reg [⟨(some 28), none, .mov (.tmp 9)⟩,
     ⟨(some 29), none, .bin .neq (.tmp 28) (.lit (.int .i64 0))⟩])
  (.cond (.tmp 29) (.seq (.reg [⟨(some 4), none, .mov (.lit (.bool false))⟩])
   (.ret))
    (.skip)))
 (.seq (.seq (.reg [⟨(some 30), none, .mov (.tmp 8)⟩,
     ⟨(some 31), none, .bin .lss (.tmp 30) (.lit (.int .i64 2))⟩])
  (.cond (.tmp 31) (.seq (.reg [⟨(some 10), none, .mov (.lit (.int .i64 11))⟩])
   (.seq (.seq (.reg [⟨(some 32), none, .mov (.tmp 8)⟩,
       ⟨(some 33), none, .bin .eql (.tmp 32) (.lit (.int .i64 0))⟩])
    (.cond (.tmp 33) (.reg [⟨(some 10), none, .mov (.lit (.int .i64 10))⟩])
      (.skip)))
   (.seq (.reg [⟨(some 34), none, .mov (.tmp 7)⟩,
      ⟨(some 35), none, .mov (.tmp 10)⟩,
      ⟨(some 36), none, .bin .eql (.tmp 34) (.tmp 35)⟩,
      ⟨(some 37), none, .mov (.tmp 36)⟩,
      ⟨(some 38), (some (37, true)), .mov (.tmp 5)⟩,
      ⟨(some 39), (some (37, true)), .bin .eql (.tmp 38) (.lit (.int .i64 0))⟩,
      ⟨(some 40), none, .pick (.tmp 37) (.tmp 39) (.lit (.bool false))⟩,
      ⟨(some 41), none, .mov (.tmp 40)⟩,
      ⟨(some 42), (some (41, true)), .mov (.tmp 6)⟩,
      ⟨(some 43), (some (41, true)), .bin .eql (.tmp 42) (.lit (.int .i64 0))⟩,
      ⟨(some 44), none, .pick (.tmp 41) (.tmp 43) (.lit (.bool false))⟩,
      ⟨(some 45), none, .mov (.tmp 44)⟩,
      ⟨(some 46), (some (45, true)), .call (.fn 14) []⟩,
      ⟨(some 47), none, .pick (.tmp 45) (.tmp 46) (.lit (.bool false))⟩,
      ⟨(some 4), none, .mov (.tmp 47)⟩])
   (.ret))))
    (.skip)))
 (.seq (.seq (.reg [⟨(some 48), none, .mov (.tmp 7)⟩,
     ⟨(some 49), none, .bin .neq (.tmp 48) (.lit (.int .i64 0))⟩,
     ⟨(some 50), none, .mov (.tmp 49)⟩,
     ⟨(some 51), (some (50, false)), .mov (.tmp 5)⟩,
     ⟨(some 52), (some (50, false)), .bin .lss (.tmp 51) (.lit (.int .i64 0))⟩,
     ⟨(some 53), none, .pick (.tmp 50) (.lit (.bool true)) (.tmp 52)⟩,
     ⟨(some 54), none, .mov (.tmp 53)⟩,
     ⟨(some 55), (some (54, false)), .mov (.tmp 5)⟩,
     ⟨(some 56), (some (54, false)), .faddr 0 (.tmp 2)⟩,
     ⟨(some 57), (some (54, false)), .load false 1 (.tmp 56)⟩,
     ⟨(some 58), (some (54, false)), .len (.tmp 57)⟩,
     ⟨(some 59), (some (54, false)), .bin .geq (.tmp 55) (.tmp 58)⟩,
     ⟨(some 60), none, .pick (.tmp 54) (.lit (.bool true)) (.tmp 59)⟩,
     ⟨(some 61), none, .mov (.tmp 60)⟩,
     ⟨(some 62), (some (61, false)), .mov (.tmp 6)⟩,
     ⟨(some 63), (some (61, false)), .bin .lss (.tmp 62) (.lit (.int .i64 1))⟩,
     ⟨(some 64), none, .pick (.tmp 61) (.lit (.bool true)) (.tmp 63)⟩,
     ⟨(some 65), none, .mov (.tmp 64)⟩,
     ⟨(some 66), (some (65, false)), .mov (.tmp 6)⟩,
     ⟨(some 67), (some (65, false)), .mov (.tmp 8)⟩,
     ⟨(some 68), (some (65, false)), .bin .gtr (.tmp 66) (.tmp 67)⟩,
     ⟨(some 69), none, .pick (.tmp 65) (.lit (.bool true)) (.tmp 68)⟩,
     ⟨(some 70), none, .mov (.tmp 69)⟩,
     ⟨(some 71), (some (70, false)), .load true 3 (.tmp 2)⟩,
     ⟨(some 72), (some (70, false)), .mov (.tmp 5)⟩,
     ⟨(some 73), (some (70, false)), .call (.fn 40) [(.tmp 71), (.tmp 72)]⟩,
     ⟨(some 74), (some (70, false)), .mov (.tmp 6)⟩,
     ⟨(some 75), (some (70, false)), .bin .neq (.tmp 73) (.tmp 74)⟩,
     ⟨(some 76), none, .pick (.tmp 70) (.lit (.bool true)) (.tmp 75)⟩])
  (.cond (.tmp 76) (.seq (.reg [⟨(some 4), none, .mov (.lit (.bool false))⟩])
   (.ret))
    (.skip)))
 (.seq (.reg [⟨(some 77), none, .mov (.tmp 1)⟩,
    ⟨(some 78), none, .conv .i64 (.tmp 77)⟩,
    ⟨(some 79), none, .faddr 0 (.tmp 2)⟩,
    ⟨(some 80), none, .load false 1 (.tmp 79)⟩,
    ⟨(some 81), none, .len (.tmp 80)⟩,
    ⟨(some 82), none, .bin .rem (.tmp 78) (.tmp 81)⟩,
    ⟨(some 11), none, .mov (.tmp 82)⟩])
 (.seq (.reg [⟨(some 83), none, .load true 3 (.tmp 2)⟩,
    ⟨(some 84), none, .mov (.tmp 11)⟩,
    ⟨(some 85), none, .call (.fn 40) [(.tmp 83), (.tmp 84)]⟩,
    ⟨(some 12), none, .mov (.tmp 85)⟩])
 (.seq (.reg [⟨(some 86), none, .mov (.tmp 12)⟩,
    ⟨(some 87), none, .mov (.tmp 6)⟩,
    ⟨(some 88), none, .bin .gtr (.tmp 86) (.tmp 87)⟩,
    ⟨(some 89), none, .mov (.tmp 88)⟩,
    ⟨(some 90), (some (89, false)), .mov (.tmp 12)⟩,
    ⟨(some 91), (some (89, false)), .mov (.tmp 6)⟩,
    ⟨(some 92), (some (89, false)), .bin .eql (.tmp 90) (.tmp 91)⟩,
    ⟨(some 93), (some (89, false)), .mov (.tmp 92)⟩,
    ⟨(some 94), (some (93, true)), .mov (.tmp 11)⟩,
    ⟨(some 95), (some (93, true)), .mov (.tmp 5)⟩,
    ⟨(some 96), (some (93, true)), .bin .geq (.tmp 94) (.tmp 95)⟩,
    ⟨(some 97), (some (89, false)), .pick (.tmp 93) (.tmp 96) (.lit (.bool false))⟩,
    ⟨(some 98), none, .pick (.tmp 89) (.lit (.bool true)) (.tmp 97)⟩,
    ⟨(some 99), none, .mov (.tmp 98)⟩,
    ⟨(some 100), (some (99, true)), .call (.fn 14) []⟩,
    ⟨(some 101), none, .pick (.tmp 99) (.tmp 100) (.lit (.bool false))⟩,
    ⟨(some 4), none, .mov (.tmp 101)⟩])
 (.ret))))))))))
theorem k9 : FnC Try.prog 9 102 [] [] [.tmp 4] c9 2 := ⟨Try.f9, _, Try.func9, rfl, by decide, rfl, by decide, by kernel_rfl, by kernel_rfl⟩
/-- dipworks/dipworkslaw06.TowelClash -/
def c10 : AC :=
 .seq (.reg [⟨(some 2), none, .box (.tmp 0)⟩,
    ⟨(some 4), none, .mov (.lit (.bool false))⟩])
 (.seq (.seq (.reg [⟨(some 19), none, .load true 3 (.tmp 2)⟩,
     ⟨(some 20), none, .call (.fn 37) [(.tmp 19)]⟩,
     ⟨(some 21), none, .un .not (.tmp 20)⟩])
  (.cond (.tmp 21) (.seq (.reg [⟨(some 22), none, .call (.fn 14) []⟩,
      ⟨(some 4), none, .mov (.tmp 22)⟩])
   (.ret))
    (.skip)))
 (.seq (.reg [⟨(some 24), none, .load true 3 (.tmp 2)⟩,
    ⟨(some 25), none, .call (.fn 29) [(.tmp 24)]⟩,
    ⟨(some 23), none, .mov (.tmp 25)⟩,
    ⟨(some 26), none, .ext (.tmp 23) 0⟩,
    ⟨(some 27), none, .ext (.tmp 23) 1⟩,
    ⟨(some 28), none, .ext (.tmp 23) 2⟩,
    ⟨(some 5), none, .mov (.tmp 26)⟩,
    ⟨(some 6), none, .mov (.tmp 27)⟩,
    ⟨(some 7), none, .mov (.tmp 28)⟩])
 (.seq (.reg [⟨(some 30), none, .load true 3 (.tmp 2)⟩,
    ⟨(some 31), none, .call (.fn 23) [(.tmp 30)]⟩,
    ⟨(some 29), none, .mov (.tmp 31)⟩,
    ⟨(some 32), none, .ext (.tmp 29) 0⟩,
    ⟨(some 33), none, .ext (.tmp 29) 1⟩,
    ⟨(some 8), none, .mov (.tmp 32)⟩,
    ⟨(some 9), none, .mov (.tmp 33)⟩])
 (.seq (.seq (.reg [⟨(some 34), none, .mov (.tmp 9)⟩,
     ⟨(some 35), none, .bin .neq (.tmp 34) (.lit (.int .i64 0))⟩,
     ⟨(some 36), none, .mov (.tmp 35)⟩,
     ⟨(some 37), (some (36, false)), .mov (.tmp 7)⟩,
     ⟨(some 38), (some (36, false)), .bin .eql (.tmp 37) (.lit (.int .i64 0))⟩,
     ⟨(some 39), (some (36, false)), .mov (.tmp 8)⟩,
     ⟨(some 40), (some (36, false)), .bin .eql (.tmp 39) (.lit (.int .i64 0))⟩,
     ⟨(some 41), (some (36, false)), .eqb true (.tmp 38) (.tmp 40)⟩,
     ⟨(some 42), none, .pick (.tmp 36) (.lit (.bool true)) (.tmp 41)⟩,
     ⟨(some 43), none, .mov (.tmp 42)⟩,
     ⟨(some 44), (some (43, false)), .mov (.tmp 7)⟩,
     ⟨(some 45), (some (43, false)), .bin .neq (.tmp 44) (.lit (.int .i64 0))⟩,
     ⟨(some 46), (some (43, false)), .mov (.tmp 45)⟩,
     ⟨(some 47), (some (46, true)), .mov (.tmp 7)⟩,
     ⟨(some 48), (some (46, true)), .bin .neq (.tmp 47) (.lit (.int .i64 4))⟩,
     ⟨(some 49), (some (46, true)), .mov (.tmp 48)⟩,
     ⟨(some 50), (some (49, false)), .mov (.tmp 5)⟩,
     ⟨(some 51), (some (49, false)), .bin .neq (.tmp 50) (.lit (.int .i64 0))⟩,
     ⟨(some 52), (some (46, true)), .pick (.tmp 49) (.lit (.bool true)) (.tmp 51)⟩,
     ⟨(some 53), (some (46, true)), .mov (.tmp 52)⟩,
     ⟨(some 54), (some (53, false)), .mov (.tmp 6)⟩,
     ⟨(some 55), (some (53, false)), .bin .neq (.tmp 54) (.lit (.int .i64 0))⟩,
     ⟨(some 56), (some (46, true)), .pick (.tmp 53) (.lit (.bool true)) (.tmp 55)⟩,
     ⟨(some 57), (some (43, false)), .pick (.tmp 46) (.tmp 56) (.lit (.bool false))⟩,
     ⟨(some 58), none, .pick (.tmp 43) (.lit (.bool true)) (.tmp 57)⟩])
  (.cond (.tmp 58) (.seq (.reg [⟨(some 4), none, .mov (.lit (.bool false))⟩])
   (.ret))
    (.skip)))
 (.seq (.seq (.reg [⟨(some 59), none, .mov (.tmp 7)⟩,
     ⟨(some 60), none, .bin .neq (.tmp 59) (.lit (.int .i64 0))⟩])
  (.cond (.tmp 60) (.seq (.reg [⟨(some 61), none, .call (.fn 14) []⟩,
      ⟨(some 4), none, .mov (.tmp 61)⟩])
   (.ret))
    (.skip)))
 (.seq (.reg [⟨(some 62), none, .mkfn (.func 41) [] [(.tmp 2)]⟩,
    ⟨(some 10), none, .mov (.tmp 62)⟩])
 (.seq (.draw (.step ⟨(some 63), none, .faddr 1 (.tmp 2)⟩ (
    .step ⟨(some 64), none, .load false 1 (.tmp 63)⟩ (
    .step ⟨(some 65), none, .len (.tmp 64)⟩ (
    .step ⟨(some 66), none, .bin .shl (.lit (.int .i64 1)) (.tmp 65)⟩ (
    .step ⟨(some 67), none, .bin .sub (.tmp 66) (.lit (.int .i64 1))⟩ (
    .step ⟨(some 68), none, .faddr 2 (.tmp 2)⟩ (
    .step ⟨(some 69), none, .load false 1 (.tmp 68)⟩ (
    .step ⟨(some 70), none, .len (.tmp 69)⟩ (
    .step ⟨(some 71), none, .bin .shl (.lit (.int .i64 1)) (.tmp 70)⟩ (
    .step ⟨(some 72), none, .bin .sub (.tmp 71) (.lit (.int .i64 1))⟩ (
    .step ⟨(some 11), none, .mov (.tmp 67)⟩ (
    .step ⟨(some 12), none, .mov (.tmp 72)⟩ (
    .done))))))))))))))
 (.seq (.seq (.reg [⟨(some 73), none, .mov (.tmp 5)⟩,
     ⟨(some 74), none, .bin .lss (.tmp 73) (.lit (.int .i64 0))⟩,
     ⟨(some 75), none, .mov (.tmp 74)⟩,
     ⟨(some 76), (some (75, false)), .mov (.tmp 5)⟩,
     ⟨(some 77), (some (75, false)), .mov (.tmp 11)⟩,
     ⟨(some 78), (some (75, false)), .bin .gtr (.tmp 76) (.tmp 77)⟩,
     ⟨(some 79), none, .pick (.tmp 75) (.lit (.bool true)) (.tmp 78)⟩,
     ⟨(some 80), none, .mov (.tmp 79)⟩,
     ⟨(some 81), (some (80, false)), .mov (.tmp 6)⟩,
     ⟨(some 82), (some (80, false)), .bin .lss (.tmp 81) (.lit (.int .i64 0))⟩,
     ⟨(some 83), none, .pick (.tmp 80) (.lit (.bool true)) (.tmp 82)⟩,
     ⟨(some 84), none, .mov (.tmp 83)⟩,
     ⟨(some 85), (some (84, false)), .mov (.tmp 6)⟩,
     ⟨(some 86), (some (84, false)), .mov (.tmp 12)⟩,
     ⟨(some 87), (some (84, false)), .bin .gtr (.tmp 85) (.tmp 86)⟩,
     ⟨(some 88), none, .pick (.tmp 84) (.lit (.bool true)) (.tmp 87)⟩,
     ⟨(some 89), none, .mov (.tmp 88)⟩,
     ⟨(some 90), (some (89, false)), .mov (.tmp 5)⟩,
     ⟨(some 91), (some (89, false)), .mov (.tmp 6)⟩,
     ⟨(some 92), (some (89, false)), .bin .add (.tmp 90) (.tmp 91)⟩,
     ⟨(some 93), (some (89, false)), .bin .eql (.tmp 92) (.lit (.int .i64 0))⟩,
     ⟨(some 94), none, .pick (.tmp 89) (.lit (.bool true)) (.tmp 93)⟩,
     ⟨(some 95), none, .mov (.tmp 94)⟩,
     ⟨(some 96), (some (95, false)), .mov (.tmp 10)⟩,
     ⟨(some 97), (some (95, false)), .mov (.tmp 5)⟩,
     ⟨(some 98), (some (95, false)), .mov (.tmp 6)⟩,
     ⟨(some 99), (some (95, false)), .call (.tmp 96) [(.tmp 97), (.tmp 98)]⟩,
     ⟨(some 100), (some (95, false)), .un .not (.tmp 99)⟩,
     ⟨(some 101), none, .pick (.tmp 95) (.lit (.bool true)) (.tmp 100)⟩])
  (.cond (.tmp 101) (.seq (.reg [⟨(some 4), none, .mov (.lit (.bool false))⟩])
   (.ret))
    (.skip)))
 (.seq (.seq (.reg [⟨(some 102), none, .mov (.lit (.int .i64 0))⟩])
  (.block 0 (.loop (.seq (.reg [⟨(some 103), none, .bin .lss (.tmp 102) (.lit (.int .i64 3))⟩])
   (.seq (.cond (.tmp 103) (.skip)
      (.exit 0))
   (.seq (.block 1 (.seq (.reg [⟨(some 104), none, .mov (.tmp 102)⟩,
       ⟨(some 13), none, .mov (.tmp 104)⟩])
    (.seq (.reg [⟨(some 105), none, .mov (.tmp 5)⟩,
       ⟨(some 106), none, .mov (.tmp 13)⟩,
       ⟨(some 107), none, .bin .shr (.tmp 105) (.tmp 106)⟩,
       ⟨(some 108), none, .bin .and (.tmp 107) (.lit (.int .i64 1))⟩,
       ⟨(some 109), none, .bin .eql (.tmp 108) (.lit (.int .i64 1))⟩,
       ⟨(some 110), none, .mov (.tmp 109)⟩,
       ⟨(some 111), (some (110, true)), .mov (.tmp 10)⟩,
       ⟨(some 112), (some (110, true)), .mov (.tmp 5)⟩,
       ⟨(some 113), (some (110, true)), .mov (.tmp 13)⟩,
       ⟨(some 114), (some (110, true)), .bin .shl (.lit (.int .i64 1)) (.tmp 113)⟩,
       ⟨(some 115), (some (110, true)), .bin .andNot (.tmp 112) (.tmp 114)⟩,
       ⟨(some 116), (some (110, true)), .mov (.tmp 6)⟩,
       ⟨(some 117), (some (110, true)), .call (.tmp 111) [(.tmp 115), (.tmp 116)]⟩,
       ⟨(some 118), none, .pick (.tmp 110) (.tmp 117) (.lit (.bool false))⟩,
       ⟨(some 119), none, .mov (.tmp 118)⟩,
       ⟨(some 120), (some (119, false)), .mov (.tmp 6)⟩,
       ⟨(some 121), (some (119, false)), .mov (.tmp 13)⟩,
       ⟨(some 122), (some (119, false)), .bin .shr (.tmp 120) (.tmp 121)⟩,
       ⟨(some 123), (some (119, false)), .bin .and (.tmp 122) (.lit (.int .i64 1))⟩,
       ⟨(some 124), (some (119, false)), .bin .eql (.tmp 123) (.lit (.int .i64 1))⟩,
       ⟨(some 125), (some (119, false)), .mov (.tmp 124)⟩,
       ⟨(some 126), (some (125, true)), .mov (.tmp 10)⟩,
       ⟨(some 127), (some (125, true)), .mov (.tmp 5)⟩,
       ⟨(some 128), (some (125, true)), .mov (.tmp 6)⟩,
       ⟨(some 129), (some (125, true)), .mov (.tmp 13)⟩,
       ⟨(some 130), (some (125, true)), .bin .shl (.lit (.int .i64 1)) (.tmp 129)⟩,
       ⟨(some 131), (some (125, true)), .bin .andNot (.tmp 128) (.tmp 130)⟩,
       ⟨(some 132), (some (125, true)), .call (.tmp 126) [(.tmp 127), (.tmp 131)]⟩,
       ⟨(some 133), (some (119, false)), .pick (.tmp 125) (.tmp 132) (.lit (.bool false))⟩,
       ⟨(some 134), none, .pick (.tmp 119) (.lit (.bool true)) (.tmp 133)⟩])
    (.cond (.tmp 134) (.seq (.reg [⟨(some 4), none, .mov (.lit (.bool false))⟩])
     (.ret))
      (.skip)))))
   (.reg [⟨(some 135), none, .bin .add (.tmp 102) (.lit (.int .i64 1))⟩,
     ⟨(some 102), none, .mov (.tmp 135)⟩])))))))
 (.seq (.reg [⟨(some 136), none, .mov (.tmp 1)⟩,
    ⟨(some 137), none, .conv .i64 (.tmp 136)⟩,
    ⟨(some 138), none, .mov (.tmp 11)⟩,
    ⟨(some 139), none, .bin .and (.tmp 137) (.tmp 138)⟩,
    ⟨(some 140), none, .mov (.tmp 1)⟩,
    ⟨(some 141), none, .conv .i64 (.tmp 140)⟩,
    ⟨(some 142), none, .bin .shr (.tmp 141) (.lit (.int .u64 3))⟩,
    ⟨(some 143), none, .mov (.tmp 12)⟩,
    ⟨(some 144), none, .bin .and (.tmp 142) (.tmp 143)⟩,
    ⟨(some 14), none, .mov (.tmp 139)⟩,
    ⟨(some 15), none, .mov (.tmp 144)⟩,
    ⟨(some 16), none, .mov (.fn 32)⟩])
 (.seq (.reg [⟨(some 145), none, .mov (.tmp 16)⟩,
    ⟨(some 146), none, .mov (.tmp 14)⟩,
    ⟨(some 147), none, .call (.tmp 145) [(.tmp 146)]⟩,
    ⟨(some 148), none, .mov (.tmp 16)⟩,
    ⟨(some 149), none, .mov (.tmp 15)⟩,
    ⟨(some 150), none, .call (.tmp 148) [(.tmp 149)]⟩,
    ⟨(some 151), none, .bin .add (.tmp 147) (.tmp 150)⟩,
    ⟨(some 152), none, .mov (.tmp 16)⟩,
    ⟨(some 153), none, .mov (.tmp 5)⟩,
    ⟨(some 154), none, .call (.tmp 152) [(.tmp 153)]⟩,
    ⟨(some 155), none, .mov (.tmp 16)⟩,
    ⟨(some 156), none, .mov (.tmp 6)⟩,
    ⟨(some 157), none, .call (.tmp 155) [(.tmp 156)]⟩,
    ⟨(some 158), none, .bin .add (.tmp 154) (.tmp 157)⟩,
    ⟨(some 17), none, .mov (.tmp 151)⟩,
    ⟨(some 18), none, .mov (.tmp 158)⟩])
 (.seq (.reg [⟨(some 159), none, .mov (.tmp 10)⟩,
    ⟨(some 160), none, .mov (.tmp 14)⟩,
    ⟨(some 161), none, .mov (.tmp 15)⟩,
    ⟨(some 162), none, .call (.tmp 159) [(.tmp 160), (.tmp 161)]⟩,
    ⟨(some 163), none, .un .not (.tmp 162)⟩,
    ⟨(some 164), none, .mov (.tmp 163)⟩,
    ⟨(some 165), (some (164, false)), .mov (.tmp 17)⟩,
    ⟨(some 166), (some (164, false)), .mov (.tmp 18)⟩,
    ⟨(some 167), (some (164, false)), .bin .gtr (.tmp 165) (.tmp 166)⟩,
    ⟨(some 168), none, .pick (.tmp 164) (.lit (.bool true)) (.tmp 167)⟩,
    ⟨(some 169), none, .mov (.tmp 168)⟩,
    ⟨(some 170), (some (169, false)), .mov (.tmp 17)⟩,
    ⟨(some 171), (some (169, false)), .mov (.tmp 18)⟩,
    ⟨(some 172), (some (169, false)), .bin .eql (.tmp 170) (.tmp 171)⟩,
    ⟨(some 173), (some (169, false)), .mov (.tmp 172)⟩,
    ⟨(some 174), (some (173, true)), .mov (.tmp 14)⟩,
    ⟨(some 175), (some (173, true)), .mov (.tmp 5)⟩,
    ⟨(some 176), (some (173, true)), .bin .gtr (.tmp 174) (.tmp 175)⟩,
    ⟨(some 177), (some (173, true)), .mov (.tmp 176)⟩,
    ⟨(some 178), (some (177, false)), .mov (.tmp 14)⟩,
    ⟨(some 179), (some (177, false)), .mov (.tmp 5)⟩,
    ⟨(some 180), (some (177, false)), .bin .eql (.tmp 178) (.tmp 179)⟩,
    ⟨(some 181), (some (177, false)), .mov (.tmp 180)⟩,
    ⟨(some 182), (some (181, true)), .mov (.tmp 15)⟩,
    ⟨(some 183), (some (181, true)), .mov (.tmp 6)⟩,
    ⟨(some 184), (some (181, true)), .bin .geq (.tmp 182) (.tmp 183)⟩,
    ⟨(some 185), (some (177, false)), .pick (.tmp 181) (.tmp 184) (.lit (.bool false))⟩,
    ⟨(some 186), (some (173, true)), .pick (.tmp 177) (.lit (.bool true)) (.tmp 185)⟩,
    ⟨(some 187), (some (169, false)), .pick (.tmp 173) (.tmp 186) (.lit (.bool false))⟩,
    ⟨(some 188), none, .pick (.tmp 169) (.lit (.bool true)) (.tmp 187)⟩,
    ⟨(some 189), none, .mov (.tmp 188)⟩,
    ⟨(some 190), (some (189, true)), .call (.fn 14) []⟩,
    ⟨(some 191), none, .pick (.tmp 189) (.tmp 190) (.lit (.bool false))⟩,
    ⟨(some 4), none, .mov (.tmp 191)⟩])
 (.ret)))))))))))))
theorem k10 : FnC Try.prog 10 192 [] [] [.tmp 4] c10 2 := ⟨Try.f10, _, Try.func10, rfl, by decide, rfl, by decide, by kernel_rfl, by kernel_rfl⟩
/-- dipworks/dipworkslaw06.TowelMore -/
def c11 : AC :=
 .seq (.reg [⟨(some 3), none, .box (.tmp 0)⟩,
    ⟨(some 6), none, .mov (.lit (.bool false))⟩])
 (.seq (.seq (.reg [⟨(some 39), none, .load true 3 (.tmp 3)⟩,
     ⟨(some 40), none, .call (.fn 37) [(.tmp 39)]⟩,
     ⟨(some 41), none, .un .not (.tmp 40)⟩])
  (.cond (.tmp 41) (.seq (.reg [⟨(some 42), none, .call (.fn 14) []⟩,
      ⟨(some 6), none, .mov (.tmp 42)⟩])
   (.ret))
    (.skip)))
 (.seq (.reg [⟨(some 43), none, .load true 3 (.tmp 3)⟩,
    ⟨(some 7), none, .alloc [(.slice none 0 0), (.slice none 0 0), (.slice none 0 0)]⟩,
    ⟨none, none, .store 3 (.tmp 7) (.tmp 43)⟩])
 (.seq (.draw (.step ⟨(some 45), none, .faddr 1 (.tmp 3)⟩ (
    .step ⟨(some 46), none, .load false 1 (.tmp 45)⟩ (
    .step ⟨(some 49), none, .faddr 2 (.tmp 3)⟩ (
    .step ⟨(some 50), none, .load false 1 (.tmp 49)⟩ (
    .step ⟨(some 53), none, .faddr 0 (.tmp 3)⟩ (
    .step ⟨(some 54), none, .load false 1 (.tmp 53)⟩ (
    .ev ⟨(some 44), none, .bslice 2 (.agg #[(.int .i64 0), (.int .i64 0)]) 0 []⟩ [⟨(some 54), none, .load false 1 (.tmp 53)⟩, ⟨(some 53), none, .faddr 0 (.tmp 3)⟩, ⟨(some 50), none, .load false 1 (.tmp 49)⟩, ⟨(some 49), none, .faddr 2 (.tmp 3)⟩, ⟨(some 46), none, .load false 1 (.tmp 45)⟩, ⟨(some 45), none, .faddr 1 (.tmp 3)⟩] (
    .ev ⟨(some 47), none, .app 2 16 (.tmp 44) (.tmp 46)⟩ [⟨(some 54), none, .load false 1 (.tmp 53)⟩, ⟨(some 53), none, .faddr 0 (.tmp 3)⟩, ⟨(some 50), none, .load false 1 (.tmp 49)⟩, ⟨(some 49), none, .faddr 2 (.tmp 3)⟩, ⟨(some 45), none, .faddr 1 (.tmp 3)⟩] (
     .step ⟨(some 56), none, .faddr 1 (.tmp 7)⟩ (
      .ev ⟨(some 48), none, .bslice 2 (.agg #[(.int .i64 0), (.int .i64 0)]) 0 []⟩ [⟨(some 56), none, .faddr 1 (.tmp 7)⟩, ⟨(some 54), none, .load false 1 (.tmp 53)⟩, ⟨(some 53), none, .faddr 0 (.tmp 3)⟩, ⟨(some 50), none, .load false 1 (.tmp 49)⟩, ⟨(some 49), none, .faddr 2 (.tmp 3)⟩, ⟨(some 46), none, .load false 1 (.tmp 45)⟩, ⟨(some 45), none, .faddr 1 (.tmp 3)⟩] (
      .ev ⟨(some 51), none, .app 2 16 (.tmp 48) (.tmp 50)⟩ [⟨(some 56), none, .faddr 1 (.tmp 7)⟩, ⟨(some 54), none, .load false 1 (.tmp 53)⟩, ⟨(some 53), none, .faddr 0 (.tmp 3)⟩, ⟨(some 49), none, .faddr 2 (.tmp 3)⟩, ⟨(some 46), none, .load false 1 (.tmp 45)⟩, ⟨(some 45), none, .faddr 1 (.tmp 3)⟩] (
       .ev ⟨(some 52), none, .bslice 6 (.agg #[(.int .i64 0), (.int .i64 0), (.int .i64 0), (.int .i64 0), (.int .i64 0), (.int .i64 0)]) 0 []⟩ [⟨(some 56), none, .faddr 1 (.tmp 7)⟩, ⟨(some 54), none, .load false 1 (.tmp 53)⟩, ⟨(some 53), none, .faddr 0 (.tmp 3)⟩, ⟨(some 50), none, .load false 1 (.tmp 49)⟩, ⟨(some 49), none, .faddr 2 (.tmp 3)⟩, ⟨(some 46), none, .load false 1 (.tmp 45)⟩, ⟨(some 45), none, .faddr 1 (.tmp 3)⟩] (
        .ev ⟨(some 55), none, .app 6 48 (.tmp 52) (.tmp 54)⟩ [⟨(some 56), none, .faddr 1 (.tmp 7)⟩, ⟨(some 53), none, .faddr 0 (.tmp 3)⟩, ⟨(some 50), none, .load false 1 (.tmp 49)⟩, ⟨(some 49), none, .faddr 2 (.tmp 3)⟩, ⟨(some 46), none, .load false 1 (.tmp 45)⟩, ⟨(some 45), none, .faddr 1 (.tmp 3)⟩] (
         .ev ⟨none, none, .store 1 (.tmp 56) (.tmp 47)⟩ [⟨(some 54), none, .load false 1 (.tmp 53)⟩, ⟨(some 53), none, .faddr 0 (.tmp 3)⟩, ⟨(some 50), none, .load false 1 (.tmp 49)⟩, ⟨(some 49), none, .faddr 2 (.tmp 3)⟩] (
          .step ⟨(some 57), none, .faddr 2 (.tmp 7)⟩ (
           .ev ⟨none, none, .store 1 (.tmp 57) (.tmp 51)⟩ [⟨(some 54), none, .load false 1 (.tmp 53)⟩, ⟨(some 53), none, .faddr 0 (.tmp 3)⟩] (
           .step ⟨(some 58), none, .faddr 0 (.tmp 7)⟩ (
            .ev ⟨none, none, .store 1 (.tmp 58) (.tmp 55)⟩ [] (
            .done)
            (.stop)))
           (.stop)))
          (.stop))
         (.stop))
        (.stop))
       (.ev ⟨(some 52), none, .bslice 6 (.agg #[(.int .i64 0), (.int .i64 0), (.int .i64 0), (.int .i64 0), (.int .i64 0), (.int .i64 0)]) 0 []⟩ [⟨(some 56), none, .faddr 1 (.tmp 7)⟩, ⟨(some 54), none, .load false 1 (.tmp 53)⟩, ⟨(some 53), none, .faddr 0 (.tmp 3)⟩, ⟨(some 50), none, .load false 1 (.tmp 49)⟩, ⟨(some 49), none, .faddr 2 (.tmp 3)⟩, ⟨(some 46), none, .load false 1 (.tmp 45)⟩, ⟨(some 45), none, .faddr 1 (.tmp 3)⟩] (
       .ev ⟨(some 51), none, .app 2 16 (.tmp 48) (.tmp 50)⟩ [⟨(some 56), none, .faddr 1 (.tmp 7)⟩, ⟨(some 54), none, .load false 1 (.tmp 53)⟩, ⟨(some 53), none, .faddr 0 (.tmp 3)⟩, ⟨(some 49), none, .faddr 2 (.tmp 3)⟩, ⟨(some 46), none, .load false 1 (.tmp 45)⟩, ⟨(some 45), none, .faddr 1 (.tmp 3)⟩] (
        .ev ⟨(some 55), none, .app 6 48 (.tmp 52) (.tmp 54)⟩ [⟨(some 56), none, .faddr 1 (.tmp 7)⟩, ⟨(some 53), none, .faddr 0 (.tmp 3)⟩, ⟨(some 50), none, .load false 1 (.tmp 49)⟩, ⟨(some 49), none, .faddr 2 (.tmp 3)⟩, ⟨(some 46), none, .load false 1 (.tmp 45)⟩, ⟨(some 45), none, .faddr 1 (.tmp 3)⟩] (
         .ev ⟨none, none, .store 1 (.tmp 56) (.tmp 47)⟩ [⟨(some 54), none, .load false 1 (.tmp 53)⟩, ⟨(some 53), none, .faddr 0 (.tmp 3)⟩, ⟨(some 50), none, .load false 1 (.tmp 49)⟩, ⟨(some 49), none, .faddr 2 (.tmp 3)⟩] (
          .step ⟨(some 57), none, .faddr 2 (.tmp 7)⟩ (
           .ev ⟨none, none, .store 1 (.tmp 57) (.tmp 51)⟩ [⟨(some 54), none, .load false 1 (.tmp 53)⟩, ⟨(some 53), none, .faddr 0 (.tmp 3)⟩] (
           .step ⟨(some 58), none, .faddr 0 (.tmp 7)⟩ (
            .ev ⟨none, none, .store 1 (.tmp 58) (.tmp 55)⟩ [] (
            .done)
            (.stop)))
           (.stop)))
          (.stop))
         (.stop))
        (.stop))
       (.stop)))
      (.ev ⟨(some 52), none, .bslice 6 (.agg #[(.int .i64 0), (.int .i64 0), (.int .i64 0), (.int .i64 0), (.int .i64 0), (.int .i64 0)]) 0 []⟩ [⟨(some 56), none, .faddr 1 (.tmp 7)⟩, ⟨(some 54), none, .load false 1 (.tmp 53)⟩, ⟨(some 53), none, .faddr 0 (.tmp 3)⟩, ⟨(some 50), none, .load false 1 (.tmp 49)⟩, ⟨(some 49), none, .faddr 2 (.tmp 3)⟩, ⟨(some 46), none, .load false 1 (.tmp 45)⟩, ⟨(some 45), none, .faddr 1 (.tmp 3)⟩] (
      .ev ⟨(some 48), none, .bslice 2 (.agg #[(.int .i64 0), (.int .i64 0)]) 0 []⟩ [⟨(some 56), none, .faddr 1 (.tmp 7)⟩, ⟨(some 54), none, .load false 1 (.tmp 53)⟩, ⟨(some 53), none, .faddr 0 (.tmp 3)⟩, ⟨(some 50), none, .load false 1 (.tmp 49)⟩, ⟨(some 49), none, .faddr 2 (.tmp 3)⟩, ⟨(some 46), none, .load false 1 (.tmp 45)⟩, ⟨(some 45), none, .faddr 1 (.tmp 3)⟩] (
       .ev ⟨(some 51), none, .app 2 16 (.tmp 48) (.tmp 50)⟩ [⟨(some 56), none, .faddr 1 (.tmp 7)⟩, ⟨(some 54), none, .load false 1 (.tmp 53)⟩, ⟨(some 53), none, .faddr 0 (.tmp 3)⟩, ⟨(some 49), none, .faddr 2 (.tmp 3)⟩, ⟨(some 46), none, .load false 1 (.tmp 45)⟩, ⟨(some 45), none, .faddr 1 (.tmp 3)⟩] (
        .ev ⟨(some 55), none, .app 6 48 (.tmp 52) (.tmp 54)⟩ [⟨(some 56), none, .faddr 1 (.tmp 7)⟩, ⟨(some 53), none, .faddr 0 (.tmp 3)⟩, ⟨(some 50), none, .load false 1 (.tmp 49)⟩, ⟨(some 49), none, .faddr 2 (.tmp 3)⟩, ⟨(some 46), none, .load false 1 (.tmp 45)⟩, ⟨(some 45), none, .faddr 1 (.tmp 3)⟩] (
         .ev ⟨none, none, .store 1 (.tmp 56) (.tmp 47)⟩ [⟨(some 54), none, .load false 1 (.tmp 53)⟩, ⟨(some 53), none, .faddr 0 (.tmp 3)⟩, ⟨(some 50), none, .load false 1 (.tmp 49)⟩, ⟨(some 49), none, .faddr 2 (.tmp 3)⟩] (
          .step ⟨(some 57), none, .faddr 2 (.tmp 7)⟩ (
           .ev ⟨none, none, .store 1 (.tmp 57) (.tmp 51)⟩ [⟨(some 54), none, .load false 1 (.tmp 53)⟩, ⟨(some 53), none, .faddr 0 (.tmp 3)⟩] (
           .step ⟨(some 58), none, .faddr 0 (.tmp 7)⟩ (
            .ev ⟨none, none, .store 1 (.tmp 58) (.tmp 55)⟩ [] (
            .done)
            (.stop)))
           (.stop)))
          (.stop))
         (.stop))
        (.stop))
       (.stop))
      (.stop))))
     (.ev ⟨(some 48), none, .bslice 2 (.agg #[(.int .i64 0), (.int .i64 0)]) 0 []⟩ [⟨(some 54), none, .load false 1 (.tmp 53)⟩, ⟨(some 53), none, .faddr 0 (.tmp 3)⟩, ⟨(some 50), none, .load false 1 (.tmp 49)⟩, ⟨(some 49), none, .faddr 2 (.tmp 3)⟩, ⟨(some 46), none, .load false 1 (.tmp 45)⟩, ⟨(some 45), none, .faddr 1 (.tmp 3)⟩] (
     .ev ⟨(some 47), none, .app 2 16 (.tmp 44) (.tmp 46)⟩ [⟨(some 54), none, .load false 1 (.tmp 53)⟩, ⟨(some 53), none, .faddr 0 (.tmp 3)⟩, ⟨(some 50), none, .load false 1 (.tmp 49)⟩, ⟨(some 49), none, .faddr 2 (.tmp 3)⟩, ⟨(some 45), none, .faddr 1 (.tmp 3)⟩] (
      .step ⟨(some 56), none, .faddr 1 (.tmp 7)⟩ (
       .ev ⟨(some 51), none, .app 2 16 (.tmp 48) (.tmp 50)⟩ [⟨(some 56), none, .faddr 1 (.tmp 7)⟩, ⟨(some 54), none, .load false 1 (.tmp 53)⟩, ⟨(some 53), none, .faddr 0 (.tmp 3)⟩, ⟨(some 49), none, .faddr 2 (.tmp 3)⟩, ⟨(some 46), none, .load false 1 (.tmp 45)⟩, ⟨(some 45), none, .faddr 1 (.tmp 3)⟩] (
       .ev ⟨(some 52), none, .bslice 6 (.agg #[(.int .i64 0), (.int .i64 0), (.int .i64 0), (.int .i64 0), (.int .i64 0), (.int .i64 0)]) 0 []⟩ [⟨(some 56), none, .faddr 1 (.tmp 7)⟩, ⟨(some 54), none, .load false 1 (.tmp 53)⟩, ⟨(some 53), none, .faddr 0 (.tmp 3)⟩, ⟨(some 50), none, .load false 1 (.tmp 49)⟩, ⟨(some 49), none, .faddr 2 (.tmp 3)⟩, ⟨(some 46), none, .load false 1 (.tmp 45)⟩, ⟨(some 45), none, .faddr 1 (.tmp 3)⟩] (
        .ev ⟨(some 55), none, .app 6 48 (.tmp 52) (.tmp 54)⟩ [⟨(some 56), none, .faddr 1 (.tmp 7)⟩, ⟨(some 53), none, .faddr 0 (.tmp 3)⟩, ⟨(some 50), none, .load false 1 (.tmp 49)⟩, ⟨(some 49), none, .faddr 2 (.tmp 3)⟩, ⟨(some 46), none, .load false 1 (.tmp 45)⟩, ⟨(some 45), none, .faddr 1 (.tmp 3)⟩] (
         .ev ⟨none, none, .store 1 (.tmp 56) (.tmp 47)⟩ [⟨(some 54), none, .load false 1 (.tmp 53)⟩, ⟨(some 53), none, .faddr 0 (.tmp 3)⟩, ⟨(some 50), none, .load false 1 (.tmp 49)⟩, ⟨(some 49), none, .faddr 2 (.tmp 3)⟩] (
          .step ⟨(some 57), none, .faddr 2 (.tmp 7)⟩ (
           .ev ⟨none, none, .store 1 (.tmp 57) (.tmp 51)⟩ [⟨(some 54), none, .load false 1 (.tmp 53)⟩, ⟨(some 53), none, .faddr 0 (.tmp 3)⟩] (
           .step ⟨(some 58), none, .faddr 0 (.tmp 7)⟩ (
            .ev ⟨none, none, .store 1 (.tmp 58) (.tmp 55)⟩ [] (
            .done)
            (.stop)))
           (.stop)))
          (.stop))
         (.stop))
        (.stop))
       (.ev ⟨(some 52), none, .bslice 6 (.agg #[(.int .i64 0), (.int .i64 0), (.int .i64 0), (.int .i64 0), (.int .i64 0), (.int .i64 0)]) 0 []⟩ [⟨(some 56), none, .faddr 1 (.tmp 7)⟩, ⟨(some 54), none, .load false 1 (.tmp 53)⟩, ⟨(some 53), none, .faddr 0 (.tmp 3)⟩, ⟨(some 50), none, .load false 1 (.tmp 49)⟩, ⟨(some 49), none, .faddr 2 (.tmp 3)⟩, ⟨(some 46), none, .load false 1 (.tmp 45)⟩, ⟨(some 45), none, .faddr 1 (.tmp 3)⟩] (
       .ev ⟨(some 51), none, .app 2 16 (.tmp 48) (.tmp 50)⟩ [⟨(some 56), none, .faddr 1 (.tmp 7)⟩, ⟨(some 54), none, .load false 1 (.tmp 53)⟩, ⟨(some 53), none, .faddr 0 (.tmp 3)⟩, ⟨(some 49), none, .faddr 2 (.tmp 3)⟩, ⟨(some 46), none, .load false 1 (.tmp 45)⟩, ⟨(some 45), none, .faddr 1 (.tmp 3)⟩] (
        .ev ⟨(some 55), none, .app 6 48 (.tmp 52) (.tmp 54)⟩ [⟨(some 56), none, .faddr 1 (.tmp 7)⟩, ⟨(some 53), none, .faddr 0 (.tmp 3)⟩, ⟨(some 50), none, .load false 1 (.tmp 49)⟩, ⟨(some 49), none, .faddr 2 (.tmp 3)⟩, ⟨(some 46), none, .load false 1 (.tmp 45)⟩, ⟨(some 45), none, .faddr 1 (.tmp 3)⟩] (
         .ev ⟨none, none, .store 1 (.tmp 56) (.tmp 47)⟩ [⟨(some 54), none, .load false 1 (.tmp 53)⟩, ⟨(some 53), none, .faddr 0 (.tmp 3)⟩, ⟨(some 50), none, .load false 1 (.tmp 49)⟩, ⟨(some 49), none, .faddr 2 (.tmp 3)⟩] (
          .step ⟨(some 57), none, .faddr 2 (.tmp 7)⟩ (
           .ev ⟨none, none, .store 1 (.tmp 57) (.tmp 51)⟩ [⟨(some 54), none, .load false 1 (.tmp 53)⟩, ⟨(some 53), none, .faddr 0 (.tmp 3)⟩] (
           .step ⟨(some 58), none, .faddr 0 (.tmp 7)⟩ (
            .ev ⟨none, none, .store 1 (.tmp 58) (.tmp 55)⟩ [] (
            .done)
            (.stop)))
           (.stop)))
          (.stop))
         (.stop))
        (.stop))
       (.stop))))
      (.ev ⟨(some 52), none, .bslice 6 (.agg #[(.int .i64 0), (.int .i64 0), (.int .i64 0), (.int .i64 0), (.int .i64 0), (.int .i64 0)]) 0 []⟩ [⟨(some 54), none, .load false 1 (.tmp 53)⟩, ⟨(some 53), none, .faddr 0 (.tmp 3)⟩, ⟨(some 50), none, .load false 1 (.tmp 49)⟩, ⟨(some 49), none, .faddr 2 (.tmp 3)⟩, ⟨(some 46), none, .load false 1 (.tmp 45)⟩, ⟨(some 45), none, .faddr 1 (.tmp 3)⟩] (
      .ev ⟨(some 47), none, .app 2 16 (.tmp 44) (.tmp 46)⟩ [⟨(some 54), none, .load false 1 (.tmp 53)⟩, ⟨(some 53), none, .faddr 0 (.tmp 3)⟩, ⟨(some 50), none, .load false 1 (.tmp 49)⟩, ⟨(some 49), none, .faddr 2 (.tmp 3)⟩, ⟨(some 45), none, .faddr 1 (.tmp 3)⟩] (
       .step ⟨(some 56), none, .faddr 1 (.tmp 7)⟩ (
        .ev ⟨(some 51), none, .app 2 16 (.tmp 48) (.tmp 50)⟩ [⟨(some 56), none, .faddr 1 (.tmp 7)⟩, ⟨(some 54), none, .load false 1 (.tmp 53)⟩, ⟨(some 53), none, .faddr 0 (.tmp 3)⟩, ⟨(some 49), none, .faddr 2 (.tmp 3)⟩, ⟨(some 46), none, .load false 1 (.tmp 45)⟩, ⟨(some 45), none, .faddr 1 (.tmp 3)⟩] (
        .ev ⟨(some 55), none, .app 6 48 (.tmp 52) (.tmp 54)⟩ [⟨(some 56), none, .faddr 1 (.tmp 7)⟩, ⟨(some 53), none, .faddr 0 (.tmp 3)⟩, ⟨(some 50), none, .load false 1 (.tmp 49)⟩, ⟨(some 49), none, .faddr 2 (.tmp 3)⟩, ⟨(some 46), none, .load false 1 (.tmp 45)⟩, ⟨(some 45), none, .faddr 1 (.tmp 3)⟩] (
         .ev ⟨none, none, .store 1 (.tmp 56) (.tmp 47)⟩ [⟨(some 54), none, .load false 1 (.tmp 53)⟩, ⟨(some 53), none, .faddr 0 (.tmp 3)⟩, ⟨(some 50), none, .load false 1 (.tmp 49)⟩, ⟨(some 49), none, .faddr 2 (.tmp 3)⟩] (
          .step ⟨(some 57), none, .faddr 2 (.tmp 7)⟩ (
           .ev ⟨none, none, .store 1 (.tmp 57) (.tmp 51)⟩ [⟨(some 54), none, .load false 1 (.tmp 53)⟩, ⟨(some 53), none, .faddr 0 (.tmp 3)⟩] (
           .step ⟨(some 58), none, .faddr 0 (.tmp 7)⟩ (
            .ev ⟨none, none, .store 1 (.tmp 58) (.tmp 55)⟩ [] (
            .done)
            (.stop)))
           (.stop)))
          (.stop))
         (.stop))
        (.stop)))
       (.stop))
      (.stop)))
     (.ev ⟨(some 52), none, .bslice 6 (.agg #[(.int .i64 0), (.int .i64 0), (.int .i64 0), (.int .i64 0), (.int .i64 0), (.int .i64 0)]) 0 []⟩ [⟨(some 54), none, .load false 1 (.tmp 53)⟩, ⟨(some 53), none, .faddr 0 (.tmp 3)⟩, ⟨(some 50), none, .load false 1 (.tmp 49)⟩, ⟨(some 49), none, .faddr 2 (.tmp 3)⟩, ⟨(some 46), none, .load false 1 (.tmp 45)⟩, ⟨(some 45), none, .faddr 1 (.tmp 3)⟩] (
     .ev ⟨(some 47), none, .app 2 16 (.tmp 44) (.tmp 46)⟩ [⟨(some 54), none, .load false 1 (.tmp 53)⟩, ⟨(some 53), none, .faddr 0 (.tmp 3)⟩, ⟨(some 50), none, .load false 1 (.tmp 49)⟩, ⟨(some 49), none, .faddr 2 (.tmp 3)⟩, ⟨(some 45), none, .faddr 1 (.tmp 3)⟩] (
      .step ⟨(some 56), none, .faddr 1 (.tmp 7)⟩ (
       .ev ⟨(some 48), none, .bslice 2 (.agg #[(.int .i64 0), (.int .i64 0)]) 0 []⟩ [⟨(some 56), none, .faddr 1 (.tmp 7)⟩, ⟨(some 54), none, .load false 1 (.tmp 53)⟩, ⟨(some 53), none, .faddr 0 (.tmp 3)⟩, ⟨(some 50), none, .load false 1 (.tmp 49)⟩, ⟨(some 49), none, .faddr 2 (.tmp 3)⟩, ⟨(some 46), none, .load false 1 (.tmp 45)⟩, ⟨(some 45), none, .faddr 1 (.tmp 3)⟩] (
       .ev ⟨(some 51), none, .app 2 16 (.tmp 48) (.tmp 50)⟩ [⟨(some 56), none, .faddr 1 (.tmp 7)⟩, ⟨(some 54), none, .load false 1 (.tmp 53)⟩, ⟨(some 53), none, .faddr 0 (.tmp 3)⟩, ⟨(some 49), none, .faddr 2 (.tmp 3)⟩, ⟨(some 46), none, .load false 1 (.tmp 45)⟩, ⟨(some 45), none, .faddr 1 (.tmp 3)⟩] (
        .ev ⟨(some 55), none, .app 6 48 (.tmp 52) (.tmp 54)⟩ [⟨(some 56), none, .faddr 1 (.tmp 7)⟩, ⟨(some 53), none, .faddr 0 (.tmp 3)⟩, ⟨(some 50), none, .load false 1 (.tmp 49)⟩, ⟨(some 49), none, .faddr 2 (.tmp 3)⟩, ⟨(some 46), none, .load false 1 (.tmp 45)⟩, ⟨(some 45), none, .faddr 1 (.tmp 3)⟩] (
         .ev ⟨none, none, .store 1 (.tmp 56) (.tmp 47)⟩ [⟨(some 54), none, .load false 1 (.tmp 53)⟩, ⟨(some 53), none, .faddr 0 (.tmp 3)⟩, ⟨(some 50), none, .load false 1 (.tmp 49)⟩, ⟨(some 49), none, .faddr 2 (.tmp 3)⟩] (
          .step ⟨(some 57), none, .faddr 2 (.tmp 7)⟩ (
           .ev ⟨none, none, .store 1 (.tmp 57) (.tmp 51)⟩ [⟨(some 54), none, .load false 1 (.tmp 53)⟩, ⟨(some 53), none, .faddr 0 (.tmp 3)⟩] (
           .step ⟨(some 58), none, .faddr 0 (.tmp 7)⟩ (
            .ev ⟨none, none, .store 1 (.tmp 58) (.tmp 55)⟩ [] (
            .done)
            (.stop)))
           (.stop)))
          (.stop))
         (.stop))
        (.stop))
       (.stop)))
      (.ev ⟨(some 48), none, .bslice 2 (.agg #[(.int .i64 0), (.int .i64 0)]) 0 []⟩ [⟨(some 54), none, .load false 1 (.tmp 53)⟩, ⟨(some 53), none, .faddr 0 (.tmp 3)⟩, ⟨(some 50), none, .load false 1 (.tmp 49)⟩, ⟨(some 49), none, .faddr 2 (.tmp 3)⟩, ⟨(some 46), none, .load false 1 (.tmp 45)⟩, ⟨(some 45), none, .faddr 1 (.tmp 3)⟩] (
      .ev ⟨(some 47), none, .app 2 16 (.tmp 44) (.tmp 46)⟩ [⟨(some 54), none, .load false 1 (.tmp 53)⟩, ⟨(some 53), none, .faddr 0 (.tmp 3)⟩, ⟨(some 50), none, .load false 1 (.tmp 49)⟩, ⟨(some 49), none, .faddr 2 (.tmp 3)⟩, ⟨(some 45), none, .faddr 1 (.tmp 3)⟩] (
       .step ⟨(some 56), none, .faddr 1 (.tmp 7)⟩ (
        .ev ⟨(some 51), none, .app 2 16 (.tmp 48) (.tmp 50)⟩ [⟨(some 56), none, .faddr 1 (.tmp 7)⟩, ⟨(some 54), none, .load false 1 (.tmp 53)⟩, ⟨(some 53), none, .faddr 0 (.tmp 3)⟩, ⟨(some 49), none, .faddr 2 (.tmp 3)⟩, ⟨(some 46), none, .load false 1 (.tmp 45)⟩, ⟨(some 45), none, .faddr 1 (.tmp 3)⟩] (
        .ev ⟨(some 55), none, .app 6 48 (.tmp 52) (.tmp 54)⟩ [⟨(some 56), none, .faddr 1 (.tmp 7)⟩, ⟨(some 53), none, .faddr 0 (.tmp 3)⟩, ⟨(some 50), none, .load false 1 (.tmp 49)⟩, ⟨(some 49), none, .faddr 2 (.tmp 3)⟩, ⟨(some 46), none, .load false 1 (.tmp 45)⟩, ⟨(some 45), none, .faddr 1 (.tmp 3)⟩] (
         .ev ⟨none, none, .store 1 (.tmp 56) (.tmp 47)⟩ [⟨(some 54), none, .load false 1 (.tmp 53)⟩, ⟨(some 53), none, .faddr 0 (.tmp 3)⟩, ⟨(some 50), none, .load false 1 (.tmp 49)⟩, ⟨(some 49), none, .faddr 2 (.tmp 3)⟩] (
          .step ⟨(some 57), none, .faddr 2 (.tmp 7)⟩ (
           .ev ⟨none, none, .store 1 (.tmp 57) (.tmp 51)⟩ [⟨(some 54), none, .load false 1 (.tmp 53)⟩, ⟨(some 53), none, .faddr 0 (.tmp 3)⟩] (
           .step ⟨(some 58), none, .faddr 0 (.tmp 7)⟩ (
            .ev ⟨none, none, .store 1 (.tmp 58) (.tmp 55)⟩ [] (
            .done)
            (.stop)))
           (.stop)))
          (.stop))
         (.stop))
        (.stop)))
       (.stop))
      (.stop)))
     (.stop))))
    (.ev ⟨(some 48), none, .bslice 2 (.agg #[(.int .i64 0), (.int .i64 0)]) 0 []⟩ [⟨(some 54), none, .load false 1 (.tmp 53)⟩, ⟨(some 53), none, .faddr 0 (.tmp 3)⟩, ⟨(some 50), none, .load false 1 (.tmp 49)⟩, ⟨(some 49), none, .faddr 2 (.tmp 3)⟩, ⟨(some 46), none, .load false 1 (.tmp 45)⟩, ⟨(some 45), none, .faddr 1 (.tmp 3)⟩] (
    .ev ⟨(some 44), none, .bslice 2 (.agg #[(.int .i64 0), (.int .i64 0)]) 0 []⟩ [⟨(some 54), none, .load false 1 (.tmp 53)⟩, ⟨(some 53), none, .faddr 0 (.tmp 3)⟩, ⟨(some 50), none, .load false 1 (.tmp 49)⟩, ⟨(some 49), none, .faddr 2 (.tmp 3)⟩, ⟨(some 46), none, .load false 1 (.tmp 45)⟩, ⟨(some 45), none, .faddr 1 (.tmp 3)⟩] (
     .ev ⟨(some 47), none, .app 2 16 (.tmp 44) (.tmp 46)⟩ [⟨(some 54), none, .load false 1 (.tmp 53)⟩, ⟨(some 53), none, .faddr 0 (.tmp 3)⟩, ⟨(some 50), none, .load false 1 (.tmp 49)⟩, ⟨(some 49), none, .faddr 2 (.tmp 3)⟩, ⟨(some 45), none, .faddr 1 (.tmp 3)⟩] (
      .step ⟨(some 56), none, .faddr 1 (.tmp 7)⟩ (
       .ev ⟨(some 51), none, .app 2 16 (.tmp 48) (.tmp 50)⟩ [⟨(some 56), none, .faddr 1 (.tmp 7)⟩, ⟨(some 54), none, .load false 1 (.tmp 53)⟩, ⟨(some 53), none, .faddr 0 (.tmp 3)⟩, ⟨(some 49), none, .faddr 2 (.tmp 3)⟩, ⟨(some 46), none, .load false 1 (.tmp 45)⟩, ⟨(some 45), none, .faddr 1 (.tmp 3)⟩] (
       .ev ⟨(some 52), none, .bslice 6 (.agg #[(.int .i64 0), (.int .i64 0), (.int .i64 0), (.int .i64 0), (.int .i64 0), (.int .i64 0)]) 0 []⟩ [⟨(some 56), none, .faddr 1 (.tmp 7)⟩, ⟨(some 54), none, .load false 1 (.tmp 53)⟩, ⟨(some 53), none, .faddr 0 (.tmp 3)⟩, ⟨(some 50), none, .load false 1 (.tmp 49)⟩, ⟨(some 49), none, .faddr 2 (.tmp 3)⟩, ⟨(some 46), none, .load false 1 (.tmp 45)⟩, ⟨(some 45), none, .faddr 1 (.tmp 3)⟩] (
        .ev ⟨(some 55), none, .app 6 48 (.tmp 52) (.tmp 54)⟩ [⟨(some 56), none, .faddr 1 (.tmp 7)⟩, ⟨(some 53), none, .faddr 0 (.tmp 3)⟩, ⟨(some 50), none, .load false 1 (.tmp 49)⟩, ⟨(some 49), none, .faddr 2 (.tmp 3)⟩, ⟨(some 46), none, .load false 1 (.tmp 45)⟩, ⟨(some 45), none, .faddr 1 (.tmp 3)⟩] (
         .ev ⟨none, none, .store 1 (.tmp 56) (.tmp 47)⟩ [⟨(some 54), none, .load false 1 (.tmp 53)⟩, ⟨(some 53), none, .faddr 0 (.tmp 3)⟩, ⟨(some 50), none, .load false 1 (.tmp 49)⟩, ⟨(some 49), none, .faddr 2 (.tmp 3)⟩] (
          .step ⟨(some 57), none, .faddr 2 (.tmp 7)⟩ (
           .ev ⟨none, none, .store 1 (.tmp 57) (.tmp 51)⟩ [⟨(some 54), none, .load false 1 (.tmp 53)⟩, ⟨(some 53), none, .faddr 0 (.tmp 3)⟩] (
           .step ⟨(some 58), none, .faddr 0 (.tmp 7)⟩ (
            .ev ⟨none, none, .store 1 (.tmp 58) (.tmp 55)⟩ [] (
            .done)
            (.stop)))
           (.stop)))
          (.stop))
         (.stop))
        (.stop))
       (.ev ⟨(some 52), none, .bslice 6 (.agg #[(.int .i64 0), (.int .i64 0), (.int .i64 0), (.int .i64 0), (.int .i64 0), (.int .i64 0)]) 0 []⟩ [⟨(some 56), none, .faddr 1 (.tmp 7)⟩, ⟨(some 54), none, .load false 1 (.tmp 53)⟩, ⟨(some 53), none, .faddr 0 (.tmp 3)⟩, ⟨(some 50), none, .load false 1 (.tmp 49)⟩, ⟨(some 49), none, .faddr 2 (.tmp 3)⟩, ⟨(some 46), none, .load false 1 (.tmp 45)⟩, ⟨(some 45), none, .faddr 1 (.tmp 3)⟩] (
       .ev ⟨(some 51), none, .app 2 16 (.tmp 48) (.tmp 50)⟩ [⟨(some 56), none, .faddr 1 (.tmp 7)⟩, ⟨(some 54), none, .load false 1 (.tmp 53)⟩, ⟨(some 53), none, .faddr 0 (.tmp 3)⟩, ⟨(some 49), none, .faddr 2 (.tmp 3)⟩, ⟨(some 46), none, .load false 1 (.tmp 45)⟩, ⟨(some 45), none, .faddr 1 (.tmp 3)⟩] (
        .ev ⟨(some 55), none, .app 6 48 (.tmp 52) (.tmp 54)⟩ [⟨(some 56), none, .faddr 1 (.tmp 7)⟩, ⟨(some 53), none, .faddr 0 (.tmp 3)⟩, ⟨(some 50), none, .load false 1 (.tmp 49)⟩, ⟨(some 49), none, .faddr 2 (.tmp 3)⟩, ⟨(some 46), none, .load false 1 (.tmp 45)⟩, ⟨(some 45), none, .faddr 1 (.tmp 3)⟩] (
         .ev ⟨none, none, .store 1 (.tmp 56) (.tmp 47)⟩ [⟨(some 54), none, .load false 1 (.tmp 53)⟩, ⟨(some 53), none, .faddr 0 (.tmp 3)⟩, ⟨(some 50), none, .load false 1 (.tmp 49)⟩, ⟨(some 49), none, .faddr 2 (.tmp 3)⟩] (
          .step ⟨(some 57), none, .faddr 2 (.tmp 7)⟩ (
           .ev ⟨none, none, .store 1 (.tmp 57) (.tmp 51)⟩ [⟨(some 54), none, .load false 1 (.tmp 53)⟩, ⟨(some 53), none, .faddr 0 (.tmp 3)⟩] (
           .step ⟨(some 58), none, .faddr 0 (.tmp 7)⟩ (
            .ev ⟨none, none, .store 1 (.tmp 58) (.tmp 55)⟩ [] (
            .done)
            (.stop)))
           (.stop)))
          (.stop))
         (.stop))
        (.stop))
       (.stop))))
      (.ev ⟨(some 52), none, .bslice 6 (.agg #[(.int .i64 0), (.int .i64 0), (.int .i64 0), (.int .i64 0), (.int .i64 0), (.int .i64 0)]) 0 []⟩ [⟨(some 54), none, .load false 1 (.tmp 53)⟩, ⟨(some 53), none, .faddr 0 (.tmp 3)⟩, ⟨(some 50), none, .load false 1 (.tmp 49)⟩, ⟨(some 49), none, .faddr 2 (.tmp 3)⟩, ⟨(some 46), none, .load false 1 (.tmp 45)⟩, ⟨(some 45), none, .faddr 1 (.tmp 3)⟩] (
      .ev ⟨(some 47), none, .app 2 16 (.tmp 44) (.tmp 46)⟩ [⟨(some 54), none, .load false 1 (.tmp 53)⟩, ⟨(some 53), none, .faddr 0 (.tmp 3)⟩, ⟨(some 50), none, .load false 1 (.tmp 49)⟩, ⟨(some 49), none, .faddr 2 (.tmp 3)⟩, ⟨(some 45), none, .faddr 1 (.tmp 3)⟩] (
       .step ⟨(some 56), none, .faddr 1 (.tmp 7)⟩ (
        .ev ⟨(some 51), none, .app 2 16 (.tmp 48) (.tmp 50)⟩ [⟨(some 56), none, .faddr 1 (.tmp 7)⟩, ⟨(some 54), none, .load false 1 (.tmp 53)⟩, ⟨(some 53), none, .faddr 0 (.tmp 3)⟩, ⟨(some 49), none, .faddr 2 (.tmp 3)⟩, ⟨(some 46), none, .load false 1 (.tmp 45)⟩, ⟨(some 45), none, .faddr 1 (.tmp 3)⟩] (
        .ev ⟨(some 55), none, .app 6 48 (.tmp 52) (.tmp 54)⟩ [⟨(some 56), none, .faddr 1 (.tmp 7)⟩, ⟨(some 53), none, .faddr 0 (.tmp 3)⟩, ⟨(some 50), none, .load false 1 (.tmp 49)⟩, ⟨(some 49), none, .faddr 2 (.tmp 3)⟩, ⟨(some 46), none, .load false 1 (.tmp 45)⟩, ⟨(some 45), none, .faddr 1 (.tmp 3)⟩] (
         .ev ⟨none, none, .store 1 (.tmp 56) (.tmp 47)⟩ [⟨(some 54), none, .load false 1 (.tmp 53)⟩, ⟨(some 53), none, .faddr 0 (.tmp 3)⟩, ⟨(some 50), none, .load false 1 (.tmp 49)⟩, ⟨(some 49), none, .faddr 2 (.tmp 3)⟩] (
          .step ⟨(some 57), none, .faddr 2 (.tmp 7)⟩ (
           .ev ⟨none, none, .store 1 (.tmp 57) (.tmp 51)⟩ [⟨(some 54), none, .load false 1 (.tmp 53)⟩, ⟨(some 53), none, .faddr 0 (.tmp 3)⟩] (
           .step ⟨(some 58), none, .faddr 0 (.tmp 7)⟩ (
            .ev ⟨none, none, .store 1 (.tmp 58) (.tmp 55)⟩ [] (
            .done)
            (.stop)))
           (.stop)))
          (.stop))
         (.stop))
        (.stop)))
       (.stop))
      (.stop)))
     (.ev ⟨(some 52), none, .bslice 6 (.agg #[(.int .i64 0), (.int .i64 0), (.int .i64 0), (.int .i64 0), (.int .i64 0), (.int .i64 0)]) 0 []⟩ [⟨(some 54), none, .load false 1 (.tmp 53)⟩, ⟨(some 53), none, .faddr 0 (.tmp 3)⟩, ⟨(some 50), none, .load false 1 (.tmp 49)⟩, ⟨(some 49), none, .faddr 2 (.tmp 3)⟩, ⟨(some 46), none, .load false 1 (.tmp 45)⟩, ⟨(some 45), none, .faddr 1 (.tmp 3)⟩] (
     .ev ⟨(some 44), none, .bslice 2 (.agg #[(.int .i64 0), (.int .i64 0)]) 0 []⟩ [⟨(some 54), none, .load false 1 (.tmp 53)⟩, ⟨(some 53), none, .faddr 0 (.tmp 3)⟩, ⟨(some 50), none, .load false 1 (.tmp 49)⟩, ⟨(some 49), none, .faddr 2 (.tmp 3)⟩, ⟨(some 46), none, .load false 1 (.tmp 45)⟩, ⟨(some 45), none, .faddr 1 (.tmp 3)⟩] (
      .ev ⟨(some 47), none, .app 2 16 (.tmp 44) (.tmp 46)⟩ [⟨(some 54), none, .load false 1 (.tmp 53)⟩, ⟨(some 53), none, .faddr 0 (.tmp 3)⟩, ⟨(some 50), none, .load false 1 (.tmp 49)⟩, ⟨(some 49), none, .faddr 2 (.tmp 3)⟩, ⟨(some 45), none, .faddr 1 (.tmp 3)⟩] (
       .step ⟨(some 56), none, .faddr 1 (.tmp 7)⟩ (
        .ev ⟨(some 51), none, .app 2 16 (.tmp 48) (.tmp 50)⟩ [⟨(some 56), none, .faddr 1 (.tmp 7)⟩, ⟨(some 54), none, .load false 1 (.tmp 53)⟩, ⟨(some 53), none, .faddr 0 (.tmp 3)⟩, ⟨(some 49), none, .faddr 2 (.tmp 3)⟩, ⟨(some 46), none, .load false 1 (.tmp 45)⟩, ⟨(some 45), none, .faddr 1 (.tmp 3)⟩] (
        .ev ⟨(some 55), none, .app 6 48 (.tmp 52) (.tmp 54)⟩ [⟨(some 56), none, .faddr 1 (.tmp 7)⟩, ⟨(some 53), none, .faddr 0 (.tmp 3)⟩, ⟨(some 50), none, .load false 1 (.tmp 49)⟩, ⟨(some 49), none, .faddr 2 (.tmp 3)⟩, ⟨(some 46), none, .load false 1 (.tmp 45)⟩, ⟨(some 45), none, .faddr 1 (.tmp 3)⟩] (
         .ev ⟨none, none, .store 1 (.tmp 56) (.tmp 47)⟩ [⟨(some 54), none, .load false 1 (.tmp 53)⟩, ⟨(some 53), none, .faddr 0 (.tmp 3)⟩, ⟨(some 50), none, .load false 1 (.tmp 49)⟩, ⟨(some 49), none, .faddr 2 (.tmp 3)⟩] (
          .step ⟨(some 57), none, .faddr 2 (.tmp 7)⟩ (
           .ev ⟨none, none, .store 1 (.tmp 57) (.tmp 51)⟩ [⟨(some 54), none, .load false 1 (.tmp 53)⟩, ⟨(some 53), none, .faddr 0 (.tmp 3)⟩] (
           .step ⟨(some 58), none, .faddr 0 (.tmp 7)⟩ (
            .ev ⟨none, none, .store 1 (.tmp 58) (.tmp 55)⟩ [] (
            .done)
            (.stop)))
           (.stop)))
          (.stop))
         (.stop))
        (.stop)))
       (.stop))
      (.stop))
     (.stop)))
    (.ev ⟨(some 52), none, .bslice 6 (.agg #[(.int .i64 0), (.int .i64 0), (.int .i64 0), (.int .i64 0), (.int .i64 0), (.int .i64 0)]) 0 []⟩ [⟨(some 54), none, .load false 1 (.tmp 53)⟩, ⟨(some 53), none, .faddr 0 (.tmp 3)⟩, ⟨(some 50), none, .load false 1 (.tmp 49)⟩, ⟨(some 49), none, .faddr 2 (.tmp 3)⟩, ⟨(some 46), none, .load false 1 (.tmp 45)⟩, ⟨(some 45), none, .faddr 1 (.tmp 3)⟩] (
    .ev ⟨(some 44), none, .bslice 2 (.agg #[(.int .i64 0), (.int .i64 0)]) 0 []⟩ [⟨(some 54), none, .load false 1 (.tmp 53)⟩, ⟨(some 53), none, .faddr 0 (.tmp 3)⟩, ⟨(some 50), none, .load false 1 (.tmp 49)⟩, ⟨(some 49), none, .faddr 2 (.tmp 3)⟩, ⟨(some 46), none, .load false 1 (.tmp 45)⟩, ⟨(some 45), none, .faddr 1 (.tmp 3)⟩] (
     .ev ⟨(some 47), none, .app 2 16 (.tmp 44) (.tmp 46)⟩ [⟨(some 54), none, .load false 1 (.tmp 53)⟩, ⟨(some 53), none, .faddr 0 (.tmp 3)⟩, ⟨(some 50), none, .load false 1 (.tmp 49)⟩, ⟨(some 49), none, .faddr 2 (.tmp 3)⟩, ⟨(some 45), none, .faddr 1 (.tmp 3)⟩] (
      .step ⟨(some 56), none, .faddr 1 (.tmp 7)⟩ (
       .ev ⟨(some 48), none, .bslice 2 (.agg #[(.int .i64 0), (.int .i64 0)]) 0 []⟩ [⟨(some 56), none, .faddr 1 (.tmp 7)⟩, ⟨(some 54), none, .load false 1 (.tmp 53)⟩, ⟨(some 53), none, .faddr 0 (.tmp 3)⟩, ⟨(some 50), none, .load false 1 (.tmp 49)⟩, ⟨(some 49), none, .faddr 2 (.tmp 3)⟩, ⟨(some 46), none, .load false 1 (.tmp 45)⟩, ⟨(some 45), none, .faddr 1 (.tmp 3)⟩] (
       .ev ⟨(some 51), none, .app 2 16 (.tmp 48) (.tmp 50)⟩ [⟨(some 56), none, .faddr 1 (.tmp 7)⟩, ⟨(some 54), none, .load false 1 (.tmp 53)⟩, ⟨(some 53), none, .faddr 0 (.tmp 3)⟩, ⟨(some 49), none, .faddr 2 (.tmp 3)⟩, ⟨(some 46), none, .load false 1 (.tmp 45)⟩, ⟨(some 45), none, .faddr 1 (.tmp 3)⟩] (
        .ev ⟨(some 55), none, .app 6 48 (.tmp 52) (.tmp 54)⟩ [⟨(some 56), none, .faddr 1 (.tmp 7)⟩, ⟨(some 53), none, .faddr 0 (.tmp 3)⟩, ⟨(some 50), none, .load false 1 (.tmp 49)⟩, ⟨(some 49), none, .faddr 2 (.tmp 3)⟩, ⟨(some 46), none, .load false 1 (.tmp 45)⟩, ⟨(some 45), none, .faddr 1 (.tmp 3)⟩] (
         .ev ⟨none, none, .store 1 (.tmp 56) (.tmp 47)⟩ [⟨(some 54), none, .load false 1 (.tmp 53)⟩, ⟨(some 53), none, .faddr 0 (.tmp 3)⟩, ⟨(some 50), none, .load false 1 (.tmp 49)⟩, ⟨(some 49), none, .faddr 2 (.tmp 3)⟩] (
          .step ⟨(some 57), none, .faddr 2 (.tmp 7)⟩ (
           .ev ⟨none, none, .store 1 (.tmp 57) (.tmp 51)⟩ [⟨(some 54), none, .load false 1 (.tmp 53)⟩, ⟨(some 53), none, .faddr 0 (.tmp 3)⟩] (
           .step ⟨(some 58), none, .faddr 0 (.tmp 7)⟩ (
            .ev ⟨none, none, .store 1 (.tmp 58) (.tmp 55)⟩ [] (
            .done)
            (.stop)))
           (.stop)))
          (.stop))
         (.stop))
        (.stop))
       (.stop)))
      (.ev ⟨(some 48), none, .bslice 2 (.agg #[(.int .i64 0), (.int .i64 0)]) 0 []⟩ [⟨(some 54), none, .load false 1 (.tmp 53)⟩, ⟨(some 53), none, .faddr 0 (.tmp 3)⟩, ⟨(some 50), none, .load false 1 (.tmp 49)⟩, ⟨(some 49), none, .faddr 2 (.tmp 3)⟩, ⟨(some 46), none, .load false 1 (.tmp 45)⟩, ⟨(some 45), none, .faddr 1 (.tmp 3)⟩] (
      .ev ⟨(some 47), none, .app 2 16 (.tmp 44) (.tmp 46)⟩ [⟨(some 54), none, .load false 1 (.tmp 53)⟩, ⟨(some 53), none, .faddr 0 (.tmp 3)⟩, ⟨(some 50), none, .load false 1 (.tmp 49)⟩, ⟨(some 49), none, .faddr 2 (.tmp 3)⟩, ⟨(some 45), none, .faddr 1 (.tmp 3)⟩] (
       .step ⟨(some 56), none, .faddr 1 (.tmp 7)⟩ (
        .ev ⟨(some 51), none, .app 2 16 (.tmp 48) (.tmp 50)⟩ [⟨(some 56), none, .faddr 1 (.tmp 7)⟩, ⟨(some 54), none, .load false 1 (.tmp 53)⟩, ⟨(some 53), none, .faddr 0 (.tmp 3)⟩, ⟨(some 49), none, .faddr 2 (.tmp 3)⟩, ⟨(some 46), none, .load false 1 (.tmp 45)⟩, ⟨(some 45), none, .faddr 1 (.tmp 3)⟩] (
        .ev ⟨(some 55), none, .app 6 48 (.tmp 52) (.tmp 54)⟩ [⟨(some 56), none, .faddr 1 (.tmp 7)⟩, ⟨(some 53), none, .faddr 0 (.tmp 3)⟩, ⟨(some 50), none, .load false 1 (.tmp 49)⟩, ⟨(some 49), none, .faddr 2 (.tmp 3)⟩, ⟨(some 46), none, .load false 1 (.tmp 45)⟩, ⟨(some 45), none, .faddr 1 (.tmp 3)⟩] (
         .ev ⟨none, none, .store 1 (.tmp 56) (.tmp 47)⟩ [⟨(some 54), none, .load false 1 (.tmp 53)⟩, ⟨(some 53), none, .faddr 0 (.tmp 3)⟩, ⟨(some 50), none, .load false 1 (.tmp 49)⟩, ⟨(some 49), none, .faddr 2 (.tmp 3)⟩] (
          .step ⟨(some 57), none, .faddr 2 (.tmp 7)⟩ (
           .ev ⟨none, none, .store 1 (.tmp 57) (.tmp 51)⟩ [⟨(some 54), none, .load false 1 (.tmp 53)⟩, ⟨(some 53), none, .faddr 0 (.tmp 3)⟩] (
           .step ⟨(some 58), none, .faddr 0 (.tmp 7)⟩ (
            .ev ⟨none, none, .store 1 (.tmp 58) (.tmp 55)⟩ [] (
            .done)
            (.stop)))
           (.stop)))
          (.stop))
         (.stop))
        (.stop)))
       (.stop))
      (.stop)))
     (.ev ⟨(some 48), none, .bslice 2 (.agg #[(.int .i64 0), (.int .i64 0)]) 0 []⟩ [⟨(some 54), none, .load false 1 (.tmp 53)⟩, ⟨(some 53), none, .faddr 0 (.tmp 3)⟩, ⟨(some 50), none, .load false 1 (.tmp 49)⟩, ⟨(some 49), none, .faddr 2 (.tmp 3)⟩, ⟨(some 46), none, .load false 1 (.tmp 45)⟩, ⟨(some 45), none, .faddr 1 (.tmp 3)⟩] (
     .ev ⟨(some 44), none, .bslice 2 (.agg #[(.int .i64 0), (.int .i64 0)]) 0 []⟩ [⟨(some 54), none, .load false 1 (.tmp 53)⟩, ⟨(some 53), none, .faddr 0 (.tmp 3)⟩, ⟨(some 50), none, .load false 1 (.tmp 49)⟩, ⟨(some 49), none, .faddr 2 (.tmp 3)⟩, ⟨(some 46), none, .load false 1 (.tmp 45)⟩, ⟨(some 45), none, .faddr 1 (.tmp 3)⟩] (
      .ev ⟨(some 47), none, .app 2 16 (.tmp 44) (.tmp 46)⟩ [⟨(some 54), none, .load false 1 (.tmp 53)⟩, ⟨(some 53), none, .faddr 0 (.tmp 3)⟩, ⟨(some 50), none, .load false 1 (.tmp 49)⟩, ⟨(some 49), none, .faddr 2 (.tmp 3)⟩, ⟨(some 45), none, .faddr 1 (.tmp 3)⟩] (
       .step ⟨(some 56), none, .faddr 1 (.tmp 7)⟩ (
        .ev ⟨(some 51), none, .app 2 16 (.tmp 48) (.tmp 50)⟩ [⟨(some 56), none, .faddr 1 (.tmp 7)⟩, ⟨(some 54), none, .load false 1 (.tmp 53)⟩, ⟨(some 53), none, .faddr 0 (.tmp 3)⟩, ⟨(some 49), none, .faddr 2 (.tmp 3)⟩, ⟨(some 46), none, .load false 1 (.tmp 45)⟩, ⟨(some 45), none, .faddr 1 (.tmp 3)⟩] (
        .ev ⟨(some 55), none, .app 6 48 (.tmp 52) (.tmp 54)⟩ [⟨(some 56), none, .faddr 1 (.tmp 7)⟩, ⟨(some 53), none, .faddr 0 (.tmp 3)⟩, ⟨(some 50), none, .load false 1 (.tmp 49)⟩, ⟨(some 49), none, .faddr 2 (.tmp 3)⟩, ⟨(some 46), none, .load false 1 (.tmp 45)⟩, ⟨(some 45), none, .faddr 1 (.tmp 3)⟩] (
         .ev ⟨none, none, .store 1 (.tmp 56) (.tmp 47)⟩ [⟨(some 54), none, .load false 1 (.tmp 53)⟩, ⟨(some 53), none, .faddr 0 (.tmp 3)⟩, ⟨(some 50), none, .load false 1 (.tmp 49)⟩, ⟨(some 49), none, .faddr 2 (.tmp 3)⟩] (
          .step ⟨(some 57), none, .faddr 2 (.tmp 7)⟩ (
           .ev ⟨none, none, .store 1 (.tmp 57) (.tmp 51)⟩ [⟨(some 54), none, .load false 1 (.tmp 53)⟩, ⟨(some 53), none, .faddr 0 (.tmp 3)⟩] (
           .step ⟨(some 58), none, .faddr 0 (.tmp 7)⟩ (
            .ev ⟨none, none, .store 1 (.tmp 58) (.tmp 55)⟩ [] (
            .done)
            (.stop)))
           (.stop)))
          (.stop))
         (.stop))
        (.stop)))
       (.stop))
      (.stop))
     (.stop)))
    (.stop)))))))))))
 (.seq (.reg [⟨(some 8), none, .mov (.lit (.slice none 0 0))⟩])
 (.seq (.seq (.reg [⟨(some 59), none, .faddr 1 (.tmp 7)⟩,
     ⟨(some 60), none, .load false 1 (.tmp 59)⟩,
     ⟨(some 61), none, .len (.tmp 60)⟩,
     ⟨(some 62), none, .mov (.lit (.int .i64 0))⟩])
  (.block 0 (.loop (.seq (.reg [⟨(some 63), none, .bin .lss (.tmp 62) (.tmp 61)⟩])
   (.seq (.cond (.tmp 63) (.skip)
      (.exit 0))
   (.seq (.block 1 (.seq (.reg [⟨(some 64), none, .mov (.tmp 62)⟩,
       ⟨(some 9), none, .mov (.tmp 64)⟩])
    (.reg [⟨(some 65), none, .mov (.tmp 8)⟩,
      ⟨(some 66), none, .faddr 1 (.tmp 7)⟩,
      ⟨(some 67), none, .load false 1 (.tmp 66)⟩,
      ⟨(some 68), none, .mov (.tmp 9)⟩,
      ⟨(some 69), none, .iaddr 2 (.tmp 67) (.tmp 68)⟩,
      ⟨(some 70), none, .bslice 1 (.pointer none) 1 [(0, (.tmp 69))]⟩,
      ⟨(some 71), none, .app 1 8 (.tmp 65) (.tmp 70)⟩,
      ⟨(some 8), none, .mov (.tmp 71)⟩])))
   (.reg [⟨(some 72), none, .bin .add (.tmp 62) (.lit (.int .i64 1))⟩,
     ⟨(some 62), none, .mov (.tmp 72)⟩])))))))
 (.seq (.seq (.reg [⟨(some 73), none, .faddr 2 (.tmp 7)⟩,
     ⟨(some 74), none, .load false 1 (.tmp 73)⟩,
     ⟨(some 75), none, .len (.tmp 74)⟩,
     ⟨(some 76), none, .mov (.lit (.int .i64 0))⟩])
  (.block 2 (.loop (.seq (.reg [⟨(some 77), none, .bin .lss (.tmp 76) (.tmp 75)⟩])
   (.seq (.cond (.tmp 77) (.skip)
      (.exit 2))
   (.seq (.block 3 (.seq (.reg [⟨(some 78), none, .mov (.tmp 76)⟩,
       ⟨(some 10), none, .mov (.tmp 78)⟩])
    (.reg [⟨(some 79), none, .mov (.tmp 8)⟩,
      ⟨(some 80), none, .faddr 2 (.tmp 7)⟩,
      ⟨(some 81), none, .load false 1 (.tmp 80)⟩,
      ⟨(some 82), none, .mov (.tmp 10)⟩,
      ⟨(some 83), none, .iaddr 2 (.tmp 81) (.tmp 82)⟩,
      ⟨(some 84), none, .bslice 1 (.pointer none) 1 [(0, (.tmp 83))]⟩,
      ⟨(some 85), none, .app 1 8 (.tmp 79) (.tmp 84)⟩,
      ⟨(some 8), none, .mov (.tmp 85)⟩])))
   (.reg [⟨(some 86), none, .bin .add (.tmp 76) (.lit (.int .i64 1))⟩,
     ⟨(some 76), none, .mov (.tmp 86)⟩])))))))
 (.seq (.seq (.reg [⟨(some 87), none, .faddr 0 (.tmp 7)⟩,
     ⟨(some 88), none, .load false 1 (.tmp 87)⟩,
     ⟨(some 89), none, .len (.tmp 88)⟩,
     ⟨(some 90), none, .mov (.lit (.int .i64 0))⟩])
  (.block 4 (.loop (.seq (.reg [⟨(some 91), none, .bin .lss (.tmp 90) (.tmp 89)⟩])
   (.seq (.cond (.tmp 91) (.skip)
      (.exit 4))
   (.seq (.block 5 (.seq (.reg [⟨(some 92), none, .mov (.tmp 90)⟩,
       ⟨(some 11), none, .mov (.tmp 92)⟩])
    (.draw (.step ⟨(some 93), none, .mov (.tmp 8)⟩ (
      .step ⟨(some 94), none, .faddr 0 (.tmp 7)⟩ (
      .step ⟨(some 95), none, .load false 1 (.tmp 94)⟩ (
      .step ⟨(some 96), none, .mov (.tmp 11)⟩ (
      .step ⟨(some 97), none, .iaddr 6 (.tmp 95) (.tmp 96)⟩ (
      .step ⟨(some 98), none, .faddr 2 (.tmp 97)⟩ (
      .step ⟨(some 99), none, .faddr 0 (.tmp 7)⟩ (
      .step ⟨(some 100), none, .load false 1 (.tmp 99)⟩ (
      .step ⟨(some 101), none, .mov (.tmp 11)⟩ (
      .step ⟨(some 102), none, .iaddr 6 (.tmp 100) (.tmp 101)⟩ (
      .step ⟨(some 103), none, .faddr 4 (.tmp 102)⟩ (
      .ev ⟨(some 104), none, .bslice 1 (.pointer none) 2 [(0, (.tmp 98)), (1, (.tmp 103))]⟩ [⟨(some 102), none, .iaddr 6 (.tmp 100) (.tmp 101)⟩, ⟨(some 100), none, .load false 1 (.tmp 99)⟩, ⟨(some 99), none, .faddr 0 (.tmp 7)⟩, ⟨(some 97), none, .iaddr 6 (.tmp 95) (.tmp 96)⟩, ⟨(some 95), none, .load false 1 (.tmp 94)⟩, ⟨(some 94), none, .faddr 0 (.tmp 7)⟩] (
      .ev ⟨(some 105), none, .app 1 8 (.tmp 93) (.tmp 104)⟩ [⟨(some 103), none, .faddr 4 (.tmp 102)⟩, ⟨(some 102), none, .iaddr 6 (.tmp 100) (.tmp 101)⟩, ⟨(some 100), none, .load false 1 (.tmp 99)⟩, ⟨(some 99), none, .faddr 0 (.tmp 7)⟩, ⟨(some 98), none, .faddr 2 (.tmp 97)⟩, ⟨(some 97), none, .iaddr 6 (.tmp 95) (.tmp 96)⟩, ⟨(some 95), none, .load false 1 (.tmp 94)⟩, ⟨(some 94), none, .faddr 0 (.tmp 7)⟩] (
       .step ⟨(some 8), none, .mov (.tmp 105)⟩ (
        .done))
       (.stop))
      (.stop))))))))))))))))
   (.reg [⟨(some 106), none, .bin .add (.tmp 90) (.lit (.int .i64 1))⟩,
     ⟨(some 90), none, .mov (.tmp 106)⟩])))))))
 (.seq (.seq (.reg [⟨(some 107), none, .mov (.tmp 8)⟩,
     ⟨(some 108), none, .len (.tmp 107)⟩,
     ⟨(some 109), none, .bin .gtr (.tmp 108) (.lit (.int .i64 0))⟩])
  (.cond (.tmp 109) (.seq (.reg [⟨(some 110), none, .mov (.tmp 8)⟩,
      ⟨(some 111), none, .mov (.tmp 2)⟩,
      ⟨(some 112), none, .conv .i64 (.tmp 111)⟩,
      ⟨(some 113), none, .mov (.tmp 8)⟩,
      ⟨(some 114), none, .len (.tmp 113)⟩,
      ⟨(some 115), none, .bin .rem (.tmp 112) (.tmp 114)⟩,
      ⟨(some 116), none, .iaddr 1 (.tmp 110) (.tmp 115)⟩,
      ⟨(some 117), none, .load false 1 (.tmp 116)⟩,
      ⟨(some 12), none, .mov (.tmp 117)⟩])
   (.seq (.reg [⟨(some 118), none, .mov (.tmp 1)⟩,
      ⟨(some 119), none, .bin .rem (.tmp 118) (.lit (.int .u8 2))⟩,
      ⟨(some 120), none, .bin .eql (.tmp 119) (.lit (.int .u8 0))⟩])
   (.cond (.tmp 120) (.draw (.step ⟨(some 121), none, .mov (.tmp 12)⟩ (
      .step ⟨(some 122), none, .mov (.tmp 12)⟩ (
      .step ⟨(some 123), none, .nilck (.tmp 122)⟩ (
      .step ⟨(some 124), none, .faddr 1 (.tmp 123)⟩ (
      .step ⟨(some 125), none, .load false 1 (.tmp 124)⟩ (
      .step ⟨(some 126), none, .mov (.tmp 12)⟩ (
      .step ⟨(some 127), none, .nilck (.tmp 126)⟩ (
      .step ⟨(some 128), none, .faddr 0 (.tmp 127)⟩ (
      .step ⟨(some 129), none, .load false 1 (.tmp 128)⟩ (
      .step ⟨(some 130), none, .bin .add (.tmp 129) (.lit (.int .i64 1))⟩ (
      .step ⟨(some 131), none, .mxmn false (.tmp 125) [(.tmp 130)]⟩ (
      .step ⟨(some 132), none, .nilck (.tmp 121)⟩ (
      .step ⟨(some 133), none, .faddr 0 (.tmp 132)⟩ (
      .ev ⟨none, none, .store 1 (.tmp 133) (.tmp 131)⟩ [⟨(some 132), none, .nilck (.tmp 121)⟩] (
      .done)
      (.stop))))))))))))))))
     (.draw (.step ⟨(some 134), none, .mov (.tmp 12)⟩ (
      .step ⟨(some 135), none, .mov (.tmp 12)⟩ (
      .step ⟨(some 136), none, .nilck (.tmp 135)⟩ (
      .step ⟨(some 137), none, .faddr 0 (.tmp 136)⟩ (
      .step ⟨(some 138), none, .load false 1 (.tmp 137)⟩ (
      .step ⟨(some 139), none, .mov (.tmp 12)⟩ (
      .step ⟨(some 140), none, .nilck (.tmp 139)⟩ (
      .step ⟨(some 141), none, .faddr 1 (.tmp 140)⟩ (
      .step ⟨(some 142), none, .load false 1 (.tmp 141)⟩ (
      .step ⟨(some 143), none, .bin .sub (.tmp 142) (.lit (.int .i64 1))⟩ (
      .step ⟨(some 144), none, .mxmn true (.tmp 138) [(.tmp 143)]⟩ (
      .step ⟨(some 145), none, .nilck (.tmp 134)⟩ (
      .step ⟨(some 146), none, .faddr 1 (.tmp 145)⟩ (
      .ev ⟨none, none, .store 1 (.tmp 146) (.tmp 144)⟩ [⟨(some 145), none, .nilck (.tmp 134)⟩] (
      .done)
      (.stop)))))))))))))))))))
    (.skip)))
 (.seq (.seq (.reg [⟨(some 147), none, .load true 3 (.tmp 7)⟩,
     ⟨(some 148), none, .call (.fn 37) [(.tmp 147)]⟩,
     ⟨(some 149), none, .un .not (.tmp 148)⟩])
  (.cond (.tmp 149) (.seq (.reg [⟨(some 150), none, .call (.fn 14) []⟩,
      ⟨(some 6), none, .mov (.tmp 150)⟩])
   (.ret))
    (.skip)))
 (.seq (.reg [⟨(some 152), none, .load true 3 (.tmp 3)⟩,
    ⟨(some 153), none, .call (.fn 23) [(.tmp 152)]⟩,
    ⟨(some 151), none, .mov (.tmp 153)⟩,
    ⟨(some 154), none, .ext (.tmp 151) 0⟩,
    ⟨(some 155), none, .ext (.tmp 151) 1⟩,
    ⟨(some 13), none, .mov (.tmp 154)⟩,
    ⟨(some 14), none, .mov (.tmp 155)⟩])
 (.seq (.reg [⟨(some 157), none, .load true 3 (.tmp 7)⟩,
    ⟨(some 158), none, .call (.fn 23) [(.tmp 157)]⟩,
    ⟨(some 156), none, .mov (.tmp 158)⟩,
    ⟨(some 159), none, .ext (.tmp 156) 0⟩,
    ⟨(some 160), none, .ext (.tmp 156) 1⟩,
    ⟨(some 15), none, .mov (.tmp 159)⟩,
    ⟨(some 16), none, .mov (.tmp 160)⟩])
 (.seq (.seq (.reg [⟨(some 161), none, .mov (.tmp 14)⟩,
     ⟨(some 162), none, .bin .neq (.tmp 161) (.lit (.int .i64 0))⟩,
     ⟨(some 163), none, .mov (.tmp 162)⟩,
     ⟨(some 164), (some (163, false)), .mov (.tmp 16)⟩,
     ⟨(some 165), (some (163, false)), .bin .neq (.tmp 164) (.lit (.int .i64 0))⟩,
     ⟨(some 166), none, .pick (.tmp 163) (.lit (.bool true)) (.tmp 165)⟩,
     ⟨(some 167), none, .mov (.tmp 166)⟩,
     ⟨(some 168), (some (167, false)), .mov (.tmp 15)⟩,
     ⟨(some 169), (some (167, false)), .mov (.tmp 13)⟩,
     ⟨(some 170), (some (167, false)), .bin .gtr (.tmp 168) (.tmp 169)⟩,
     ⟨(some 171), none, .pick (.tmp 167) (.lit (.bool true)) (.tmp 170)⟩])
  (.cond (.tmp 171) (.seq (.reg [⟨(some 6), none, .mov (.lit (.bool false))⟩])
   (.ret))
    (.skip)))
 (.seq (.seq (.reg [⟨(some 172), none, .mov (.tmp 15)⟩,
     ⟨(some 173), none, .bin .eql (.tmp 172) (.lit (.int .i64 0))⟩])
  (.cond (.tmp 173) (.seq (.reg [⟨(some 174), none, .call (.fn 14) []⟩,
      ⟨(some 6), none, .mov (.tmp 174)⟩])
   (.ret))
    (.skip)))
 (.seq (.reg [⟨(some 17), none, .mov (.fn 43)⟩])
 (.seq (.reg [⟨(some 176), none, .load true 3 (.tmp 3)⟩,
    ⟨(some 177), none, .call (.fn 19) [(.tmp 176)]⟩,
    ⟨(some 175), none, .mov (.tmp 177)⟩,
    ⟨(some 178), none, .ext (.tmp 175) 0⟩,
    ⟨(some 179), none, .ext (.tmp 175) 1⟩,
    ⟨(some 180), none, .ext (.tmp 175) 2⟩,
    ⟨(some 18), none, .mov (.tmp 178)⟩,
    ⟨(some 19), none, .mov (.tmp 179)⟩,
    ⟨(some 20), none, .mov (.tmp 180)⟩])
 (.seq (.reg [⟨(some 182), none, .load true 3 (.tmp 7)⟩,
    ⟨(some 183), none, .call (.fn 19) [(.tmp 182)]⟩,
    ⟨(some 181), none, .mov (.tmp 183)⟩,
    ⟨(some 184), none, .ext (.tmp 181) 0⟩,
    ⟨(some 185), none, .ext (.tmp 181) 1⟩,
    ⟨(some 186), none, .ext (.tmp 181) 2⟩,
    ⟨(some 21), none, .mov (.tmp 184)⟩,
    ⟨(some 22), none, .mov (.tmp 185)⟩,
    ⟨(some 23), none, .mov (.tmp 186)⟩])
 (.seq (.reg [⟨(some 188), none, .load true 3 (.tmp 3)⟩,
    ⟨(some 189), none, .call (.fn 21) [(.tmp 188)]⟩,
    ⟨(some 187), none, .mov (.tmp 189)⟩,
    ⟨(some 190), none, .ext (.tmp 187) 0⟩,
    ⟨(some 191), none, .ext (.tmp 187) 1⟩,
    ⟨(some 24), none, .alloc [(.int .i64 0), (.int .i64 0)]⟩,
    ⟨none, none, .store 2 (.tmp 24) (.tmp 190)⟩,
    ⟨(some 25), none, .mov (.tmp 191)⟩])
 (.seq (.reg [⟨(some 193), none, .load true 3 (.tmp 7)⟩,
    ⟨(some 194), none, .call (.fn 21) [(.tmp 193)]⟩,
    ⟨(some 192), none, .mov (.tmp 194)⟩,
    ⟨(some 195), none, .ext (.tmp 192) 0⟩,
    ⟨(some 196), none, .ext (.tmp 192) 1⟩,
    ⟨(some 26), none, .alloc [(.int .i64 0), (.int .i64 0)]⟩,
    ⟨none, none, .store 2 (.tmp 26) (.tmp 195)⟩,
    ⟨(some 27), none, .mov (.tmp 196)⟩])
 (.seq (.reg [⟨(some 198), none, .load true 3 (.tmp 3)⟩,
    ⟨(some 199), none, .call (.fn 25) [(.tmp 198)]⟩,
    ⟨(some 197), none, .mov (.tmp 199)⟩,
    ⟨(some 200), none, .ext (.tmp 197) 0⟩,
    ⟨(some 201), none, .ext (.tmp 197) 1⟩,
    ⟨(some 202), none, .ext (.tmp 197) 2⟩,
    ⟨(some 28), none, .mov (.tmp 200)⟩,
    ⟨(some 29), none, .mov (.tmp 201)⟩,
    ⟨(some 30), none, .mov (.tmp 202)⟩])
 (.seq (.reg [⟨(some 204), none, .load true 3 (.tmp 7)⟩,
    ⟨(some 205), none, .call (.fn 25) [(.tmp 204)]⟩,
    ⟨(some 203), none, .mov (.tmp 205)⟩,
    ⟨(some 206), none, .ext (.tmp 203) 0⟩,
    ⟨(some 207), none, .ext (.tmp 203) 1⟩,
    ⟨(some 208), none, .ext (.tmp 203) 2⟩,
    ⟨(some 31), none, .mov (.tmp 206)⟩,
    ⟨(some 32), none, .mov (.tmp 207)⟩,
    ⟨(some 33), none, .mov (.tmp 208)⟩])
 (.seq (.seq (.reg [⟨(some 209), none, .mov (.tmp 20)⟩,
     ⟨(some 210), none, .bin .neq (.tmp 209) (.lit (.int .i64 0))⟩,
     ⟨(some 211), none, .mov (.tmp 210)⟩,
     ⟨(some 212), (some (211, false)), .mov (.tmp 23)⟩,
     ⟨(some 213), (some (211, false)), .bin .neq (.tmp 212) (.lit (.int .i64 0))⟩,
     ⟨(some 214), none, .pick (.tmp 211) (.lit (.bool true)) (.tmp 213)⟩,
     ⟨(some 215), none, .mov (.tmp 214)⟩,
     ⟨(some 216), (some (215, false)), .mov (.tmp 18)⟩,
     ⟨(some 217), (some (215, false)), .mov (.tmp 21)⟩,
     ⟨(some 218), (some (215, false)), .bin .andNot (.tmp 216) (.tmp 217)⟩,
     ⟨(some 219), (some (215, false)), .bin .neq (.tmp 218) (.lit (.int .i64 0))⟩,
     ⟨(some 220), none, .pick (.tmp 215) (.lit (.bool true)) (.tmp 219)⟩,
     ⟨(some 221), none, .mov (.tmp 220)⟩,
     ⟨(some 222), (some (221, false)), .mov (.tmp 22)⟩,
     ⟨(some 223), (some (221, false)), .mov (.tmp 19)⟩,
     ⟨(some 224), (some (221, false)), .bin .andNot (.tmp 222) (.tmp 223)⟩,
     ⟨(some 225), (some (221, false)), .bin .neq (.tmp 224) (.lit (.int .i64 0))⟩,
     ⟨(some 226), none, .pick (.tmp 221) (.lit (.bool true)) (.tmp 225)⟩,
     ⟨(some 227), none, .mov (.tmp 226)⟩,
     ⟨(some 228), (some (227, false)), .mov (.tmp 25)⟩,
     ⟨(some 229), (some (227, false)), .bin .neq (.tmp 228) (.lit (.int .i64 0))⟩,
     ⟨(some 230), none, .pick (.tmp 227) (.lit (.bool true)) (.tmp 229)⟩,
     ⟨(some 231), none, .mov (.tmp 230)⟩,
     ⟨(some 232), (some (231, false)), .mov (.tmp 27)⟩,
     ⟨(some 233), (some (231, false)), .bin .neq (.tmp 232) (.lit (.int .i64 0))⟩,
     ⟨(some 234), none, .pick (.tmp 231) (.lit (.bool true)) (.tmp 233)⟩,
     ⟨(some 235), none, .mov (.tmp 234)⟩,
     ⟨(some 236), (some (235, false)), .mov (.tmp 17)⟩,
     ⟨(some 237), (some (235, false)), .load true 2 (.tmp 26)⟩,
     ⟨(some 238), (some (235, false)), .load true 2 (.tmp 24)⟩,
     ⟨(some 239), (some (235, false)), .call (.tmp 236) [(.tmp 237), (.tmp 238)]⟩,
     ⟨(some 240), (some (235, false)), .un .not (.tmp 239)⟩,
     ⟨(some 241), none, .pick (.tmp 235) (.lit (.bool true)) (.tmp 240)⟩,
     ⟨(some 242), none, .mov (.tmp 241)⟩,
     ⟨(some 243), (some (242, false)), .mov (.tmp 30)⟩,
     ⟨(some 244), (some (242, false)), .bin .neq (.tmp 243) (.lit (.int .i64 0))⟩,
     ⟨(some 245), none, .pick (.tmp 242) (.lit (.bool true)) (.tmp 244)⟩,
     ⟨(some 246), none, .mov (.tmp 245)⟩,
     ⟨(some 247), (some (246, false)), .mov (.tmp 33)⟩,
     ⟨(some 248), (some (246, false)), .bin .neq (.tmp 247) (.lit (.int .i64 0))⟩,
     ⟨(some 249), none, .pick (.tmp 246) (.lit (.bool true)) (.tmp 248)⟩,
     ⟨(some 250), none, .mov (.tmp 249)⟩,
     ⟨(some 251), (some (250, false)), .mov (.tmp 31)⟩,
     ⟨(some 252), (some (250, false)), .mov (.tmp 28)⟩,
     ⟨(some 253), (some (250, false)), .bin .lss (.tmp 251) (.tmp 252)⟩,
     ⟨(some 254), none, .pick (.tmp 250) (.lit (.bool true)) (.tmp 253)⟩])
  (.cond (.tmp 254) (.seq (.reg [⟨(some 6), none, .mov (.lit (.bool false))⟩])
   (.ret))
    (.skip)))
 (.seq (.seq (.reg [⟨(some 255), none, .faddr 0 (.tmp 3)⟩,
     ⟨(some 256), none, .load false 1 (.tmp 255)⟩,
     ⟨(some 257), none, .len (.tmp 256)⟩,
     ⟨(some 258), none, .mov (.lit (.int .i64 0))⟩])
  (.block 6 (.loop (.seq (.reg [⟨(some 259), none, .bin .lss (.tmp 258) (.tmp 257)⟩])
   (.seq (.cond (.tmp 259) (.skip)
      (.exit 6))
   (.seq (.block 7 (.seq (.reg [⟨(some 260), none, .mov (.tmp 258)⟩,
       ⟨(some 34), none, .mov (.tmp 260)⟩])
    (.seq (.reg [⟨(some 262), none, .load true 3 (.tmp 3)⟩,
       ⟨(some 263), none, .mov (.tmp 34)⟩,
       ⟨(some 264), none, .call (.fn 17) [(.tmp 262), (.tmp 263)]⟩,
       ⟨(some 261), none, .mov (.tmp 264)⟩,
       ⟨(some 265), none, .ext (.tmp 261) 0⟩,
       ⟨(some 266), none, .ext (.tmp 261) 1⟩,
       ⟨(some 35), none, .alloc [(.int .i64 0), (.int .i64 0)]⟩,
       ⟨none, none, .store 2 (.tmp 35) (.tmp 265)⟩,
       ⟨(some 36), none, .mov (.tmp 266)⟩])
    (.seq (.reg [⟨(some 268), none, .load true 3 (.tmp 7)⟩,
       ⟨(some 269), none, .mov (.tmp 34)⟩,
       ⟨(some 270), none, .call (.fn 17) [(.tmp 268), (.tmp 269)]⟩,
       ⟨(some 267), none, .mov (.tmp 270)⟩,
       ⟨(some 271), none, .ext (.tmp 267) 0⟩,
       ⟨(some 272), none, .ext (.tmp 267) 1⟩,
       ⟨(some 37), none, .alloc [(.int .i64 0), (.int .i64 0)]⟩,
       ⟨none, none, .store 2 (.tmp 37) (.tmp 271)⟩,
       ⟨(some 38), none, .mov (.tmp 272)⟩])
    (.seq (.reg [⟨(some 273), none, .mov (.tmp 36)⟩,
       ⟨(some 274), none, .bin .neq (.tmp 273) (.lit (.int .i64 0))⟩,
       ⟨(some 275), none, .mov (.tmp 274)⟩,
       ⟨(some 276), (some (275, false)), .mov (.tmp 38)⟩,
       ⟨(some 277), (some (275, false)), .bin .neq (.tmp 276) (.lit (.int .i64 0))⟩,
       ⟨(some 278), none, .pick (.tmp 275) (.lit (.bool true)) (.tmp 277)⟩,
       ⟨(some 279), none, .mov (.tmp 278)⟩,
       ⟨(some 280), (some (279, false)), .mov (.tmp 17)⟩,
       ⟨(some 281), (some (279, false)), .load true 2 (.tmp 37)⟩,
       ⟨(some 282), (some (279, false)), .load true 2 (.tmp 35)⟩,
       ⟨(some 283), (some (279, false)), .call (.tmp 280) [(.tmp 281), (.tmp 282)]⟩,
       ⟨(some 284), (some (279, false)), .un .not (.tmp 283)⟩,
       ⟨(some 285), none, .pick (.tmp 279) (.lit (.bool true)) (.tmp 284)⟩])
    (.cond (.tmp 285) (.seq (.reg [⟨(some 6), none, .mov (.lit (.bool false))⟩])
     (.ret))
      (.skip)))))))
   (.reg [⟨(some 286), none, .bin .add (.tmp 258) (.lit (.int .i64 1))⟩,
     ⟨(some 258), none, .mov (.tmp 286)⟩])))))))
 (.seq (.reg [⟨(some 287), none, .call (.fn 14) []⟩,
    ⟨(some 6), none, .mov (.tmp 287)⟩])
 (.ret))))))))))))))))))))))))
theorem k11 : FnC Try.prog 11 288 [] [] [.tmp 6] c11 3 := ⟨Try.f11, _, Try.func11, rfl, by decide, rfl, by decide, by kernel_rfl, by kernel_rfl⟩
/-- dipworks/dipworkslaw06.TowelTurned -/
def c12 : AC :=
 .seq (.reg [⟨(some 1), none, .box (.tmp 0)⟩,
    ⟨(some 2), none, .mov (.lit (.bool false))⟩])
 (.seq (.seq (.reg [⟨(some 57), none, .load true 3 (.tmp 1)⟩,
     ⟨(some 58), none, .call (.fn 37) [(.tmp 57)]⟩,
     ⟨(some 59), none, .un .not (.tmp 58)⟩])
  (.cond (.tmp 59) (.seq (.reg [⟨(some 60), none, .call (.fn 14) []⟩,
      ⟨(some 2), none, .mov (.tmp 60)⟩])
   (.ret))
    (.skip)))
 (.seq (.draw (.step ⟨(some 61), none, .faddr 0 (.tmp 1)⟩ (
    .step ⟨(some 62), none, .load false 1 (.tmp 61)⟩ (
    .step ⟨(some 63), none, .len (.tmp 62)⟩ (
    .step ⟨(some 64), none, .faddr 1 (.tmp 1)⟩ (
    .step ⟨(some 65), none, .load false 1 (.tmp 64)⟩ (
    .step ⟨(some 66), none, .len (.tmp 65)⟩ (
    .step ⟨(some 67), none, .faddr 2 (.tmp 1)⟩ (
    .step ⟨(some 68), none, .load false 1 (.tmp 67)⟩ (
    .step ⟨(some 69), none, .len (.tmp 68)⟩ (
    .step ⟨(some 3), none, .mov (.tmp 63)⟩ (
    .step ⟨(some 4), none, .mov (.tmp 66)⟩ (
    .step ⟨(some 5), none, .mov (.tmp 69)⟩ (
    .done))))))))))))))
 (.seq (.reg [⟨(some 70), none, .faddr 2 (.tmp 1)⟩,
    ⟨(some 71), none, .load false 1 (.tmp 70)⟩,
    ⟨(some 72), none, .faddr 1 (.tmp 1)⟩,
    ⟨(some 73), none, .load false 1 (.tmp 72)⟩,
    ⟨(some 74), none, .build [(.slice none 0 0), (.slice none 0 0), (.slice none 0 0)] [(1, 1, (.tmp 71)), (2, 1, (.tmp 73))]⟩,
    ⟨(some 75), none, .build [(.slice none 0 0), (.slice none 0 0), (.slice none 0 0)] []⟩,
    ⟨(some 6), none, .alloc [(.slice none 0 0), (.slice none 0 0), (.slice none 0 0)]⟩,
    ⟨(some 7), none, .alloc [(.slice none 0 0), (.slice none 0 0), (.slice none 0 0)]⟩,
    ⟨none, none, .store 3 (.tmp 6) (.tmp 74)⟩,
    ⟨none, none, .store 3 (.tmp 7) (.tmp 75)⟩])
 (.seq (.seq (.reg [⟨(some 76), none, .faddr 0 (.tmp 1)⟩,
     ⟨(some 77), none, .load false 1 (.tmp 76)⟩,
     ⟨(some 78), none, .len (.tmp 77)⟩,
     ⟨(some 79), none, .mov (.lit (.int .i64 0))⟩])
  (.block 0 (.loop (.seq (.reg [⟨(some 80), none, .bin .lss (.tmp 79) (.tmp 78)⟩])
   (.seq (.cond (.tmp 80) (.skip)
      (.exit 0))
   (.seq (.block 1 (.seq (.reg [⟨(some 81), none, .mov (.tmp 79)⟩,
       ⟨(some 82), none, .iaddr 6 (.tmp 77) (.tmp 79)⟩,
       ⟨(some 83), none, .load true 6 (.tmp 82)⟩,
       ⟨(some 9), none, .alloc [(.int .i64 0), (.int .i64 0), (.int .i64 0), (.int .i64 0), (.int .i64 0), (.int .i64 0)]⟩,
       ⟨(some 8), none, .mov (.tmp 81)⟩,
       ⟨none, none, .store 6 (.tmp 9) (.tmp 83)⟩])
    (.seq (.draw (.step ⟨(some 84), none, .faddr 0 (.tmp 6)⟩ (
       .step ⟨(some 85), none, .load false 1 (.tmp 84)⟩ (
       .step ⟨(some 86), none, .faddr 1 (.tmp 9)⟩ (
       .step ⟨(some 87), none, .load false 1 (.tmp 86)⟩ (
       .step ⟨(some 88), none, .faddr 0 (.tmp 9)⟩ (
       .step ⟨(some 89), none, .load false 1 (.tmp 88)⟩ (
       .step ⟨(some 90), none, .faddr 2 (.tmp 9)⟩ (
       .step ⟨(some 91), none, .load true 2 (.tmp 90)⟩ (
       .step ⟨(some 92), none, .faddr 4 (.tmp 9)⟩ (
       .step ⟨(some 93), none, .load true 2 (.tmp 92)⟩ (
       .ev ⟨(some 94), none, .call (.fn 44) [(.tmp 87), (.tmp 89), (.tmp 91), (.tmp 93)]⟩ [⟨(some 92), none, .faddr 4 (.tmp 9)⟩, ⟨(some 90), none, .faddr 2 (.tmp 9)⟩, ⟨(some 88), none, .faddr 0 (.tmp 9)⟩, ⟨(some 86), none, .faddr 1 (.tmp 9)⟩, ⟨(some 85), none, .load false 1 (.tmp 84)⟩, ⟨(some 84), none, .faddr 0 (.tmp 6)⟩] (
       .ev ⟨(some 95), none, .bslice 6 (.agg #[(.int .i64 0), (.int .i64 0), (.int .i64 0), (.int .i64 0), (.int .i64 0), (.int .i64 0)]) 1 [(0, (.tmp 94))]⟩ [⟨(some 93), none, .load true 2 (.tmp 92)⟩, ⟨(some 92), none, .faddr 4 (.tmp 9)⟩, ⟨(some 91), none, .load true 2 (.tmp 90)⟩, ⟨(some 90), none, .faddr 2 (.tmp 9)⟩, ⟨(some 89), none, .load false 1 (.tmp 88)⟩, ⟨(some 88), none, .faddr 0 (.tmp 9)⟩, ⟨(some 87), none, .load false 1 (.tmp 86)⟩, ⟨(some 86), none, .faddr 1 (.tmp 9)⟩, ⟨(some 85), none, .load false 1 (.tmp 84)⟩, ⟨(some 84), none, .faddr 0 (.tmp 6)⟩] (
        .ev ⟨(some 96), none, .app 6 48 (.tmp 85) (.tmp 95)⟩ [⟨(some 93), none, .load true 2 (.tmp 92)⟩, ⟨(some 92), none, .faddr 4 (.tmp 9)⟩, ⟨(some 91), none, .load true 2 (.tmp 90)⟩, ⟨(some 90), none, .faddr 2 (.tmp 9)⟩, ⟨(some 89), none, .load false 1 (.tmp 88)⟩, ⟨(some 88), none, .faddr 0 (.tmp 9)⟩, ⟨(some 87), none, .load false 1 (.tmp 86)⟩, ⟨(some 86), none, .faddr 1 (.tmp 9)⟩, ⟨(some 84), none, .faddr 0 (.tmp 6)⟩] (
         .step ⟨(some 97), none, .faddr 0 (.tmp 6)⟩ (
          .ev ⟨none, none, .store 1 (.tmp 97) (.tmp 96)⟩ [] (
          .done)
          (.stop)))
         (.stop))
        (.stop))
       (.stop)))))))))))))
    (.seq (.reg [⟨(some 98), none, .faddr 0 (.tmp 1)⟩,
       ⟨(some 99), none, .load false 1 (.tmp 98)⟩,
       ⟨(some 100), none, .mov (.tmp 3)⟩,
       ⟨(some 101), none, .bin .sub (.tmp 100) (.lit (.int .i64 1))⟩,
       ⟨(some 102), none, .mov (.tmp 8)⟩,
       ⟨(some 103), none, .bin .sub (.tmp 101) (.tmp 102)⟩,
       ⟨(some 104), none, .iaddr 6 (.tmp 99) (.tmp 103)⟩,
       ⟨(some 105), none, .load true 6 (.tmp 104)⟩,
       ⟨(some 10), none, .alloc [(.int .i64 0), (.int .i64 0), (.int .i64 0), (.int .i64 0), (.int .i64 0), (.int .i64 0)]⟩,
       ⟨none, none, .store 6 (.tmp 10) (.tmp 105)⟩])
    (.draw (.step ⟨(some 106), none, .faddr 0 (.tmp 7)⟩ (
      .step ⟨(some 107), none, .load false 1 (.tmp 106)⟩ (
      .step ⟨(some 108), none, .mov (.tmp 4)⟩ (
      .step ⟨(some 109), none, .bin .sub (.tmp 108) (.lit (.int .i64 1))⟩ (
      .step ⟨(some 110), none, .faddr 0 (.tmp 10)⟩ (
      .step ⟨(some 111), none, .load false 1 (.tmp 110)⟩ (
      .step ⟨(some 112), none, .bin .sub (.tmp 109) (.tmp 111)⟩ (
      .step ⟨(some 113), none, .mov (.tmp 5)⟩ (
      .step ⟨(some 114), none, .bin .sub (.tmp 113) (.lit (.int .i64 1))⟩ (
      .step ⟨(some 115), none, .faddr 1 (.tmp 10)⟩ (
      .step ⟨(some 116), none, .load false 1 (.tmp 115)⟩ (
      .step ⟨(some 117), none, .bin .sub (.tmp 114) (.tmp 116)⟩ (
      .step ⟨(some 118), none, .faddr 2 (.tmp 10)⟩ (
      .step ⟨(some 119), none, .load true 2 (.tmp 118)⟩ (
      .step ⟨(some 120), none, .faddr 4 (.tmp 10)⟩ (
      .step ⟨(some 121), none, .load true 2 (.tmp 120)⟩ (
      .ev ⟨(some 122), none, .call (.fn 44) [(.tmp 112), (.tmp 117), (.tmp 119), (.tmp 121)]⟩ [⟨(some 120), none, .faddr 4 (.tmp 10)⟩, ⟨(some 118), none, .faddr 2 (.tmp 10)⟩, ⟨(some 116), none, .load false 1 (.tmp 115)⟩, ⟨(some 115), none, .faddr 1 (.tmp 10)⟩, ⟨(some 111), none, .load false 1 (.tmp 110)⟩, ⟨(some 110), none, .faddr 0 (.tmp 10)⟩, ⟨(some 107), none, .load false 1 (.tmp 106)⟩, ⟨(some 106), none, .faddr 0 (.tmp 7)⟩] (
      .ev ⟨(some 123), none, .bslice 6 (.agg #[(.int .i64 0), (.int .i64 0), (.int .i64 0), (.int .i64 0), (.int .i64 0), (.int .i64 0)]) 1 [(0, (.tmp 122))]⟩ [⟨(some 121), none, .load true 2 (.tmp 120)⟩, ⟨(some 120), none, .faddr 4 (.tmp 10)⟩, ⟨(some 119), none, .load true 2 (.tmp 118)⟩, ⟨(some 118), none, .faddr 2 (.tmp 10)⟩, ⟨(some 116), none, .load false 1 (.tmp 115)⟩, ⟨(some 115), none, .faddr 1 (.tmp 10)⟩, ⟨(some 111), none, .load false 1 (.tmp 110)⟩, ⟨(some 110), none, .faddr 0 (.tmp 10)⟩, ⟨(some 107), none, .load false 1 (.tmp 106)⟩, ⟨(some 106), none, .faddr 0 (.tmp 7)⟩] (
       .ev ⟨(some 124), none, .app 6 48 (.tmp 107) (.tmp 123)⟩ [⟨(some 121), none, .load true 2 (.tmp 120)⟩, ⟨(some 120), none, .faddr 4 (.tmp 10)⟩, ⟨(some 119), none, .load true 2 (.tmp 118)⟩, ⟨(some 118), none, .faddr 2 (.tmp 10)⟩, ⟨(some 116), none, .load false 1 (.tmp 115)⟩, ⟨(some 115), none, .faddr 1 (.tmp 10)⟩, ⟨(some 111), none, .load false 1 (.tmp 110)⟩, ⟨(some 110), none, .faddr 0 (.tmp 10)⟩, ⟨(some 106), none, .faddr 0 (.tmp 7)⟩] (
        .step ⟨(some 125), none, .faddr 0 (.tmp 7)⟩ (
         .ev ⟨none, none, .store 1 (.tmp 125) (.tmp 124)⟩ [] (
         .done)
         (.stop)))
        (.stop))
       (.stop))
      (.stop)))))))))))))))))))))))
   (.reg [⟨(some 126), none, .bin .add (.tmp 79) (.lit (.int .i64 1))⟩,
     ⟨(some 79), none, .mov (.tmp 126)⟩])))))))
 (.seq (.seq (.reg [⟨(some 127), none, .faddr 1 (.tmp 1)⟩,
     ⟨(some 128), none, .load false 1 (.tmp 127)⟩,
     ⟨(some 129), none, .len (.tmp 128)⟩,
     ⟨(some 130), none, .mov (.lit (.int .i64 0))⟩])
  (.block 2 (.loop (.seq (.reg [⟨(some 131), none, .bin .lss (.tmp 130) (.tmp 129)⟩])
   (.seq (.cond (.tmp 131) (.skip)
      (.exit 2))
   (.seq (.block 3 (.seq (.reg [⟨(some 132), none, .mov (.tmp 130)⟩,
       ⟨(some 11), none, .mov (.tmp 132)⟩])
    (.draw (.step ⟨(some 133), none, .faddr 1 (.tmp 7)⟩ (
      .step ⟨(some 134), none, .load false 1 (.tmp 133)⟩ (
      .step ⟨(some 135), none, .faddr 1 (.tmp 1)⟩ (
      .step ⟨(some 136), none, .load false 1 (.tmp 135)⟩ (
      .step ⟨(some 137), none, .mov (.tmp 4)⟩ (
      .step ⟨(some 138), none, .bin .sub (.tmp 137) (.lit (.int .i64 1))⟩ (
      .step ⟨(some 139), none, .mov (.tmp 11)⟩ (
      .step ⟨(some 140), none, .bin .sub (.tmp 138) (.tmp 139)⟩ (
      .step ⟨(some 141), none, .iaddr 2 (.tmp 136) (.tmp 140)⟩ (
      .step ⟨(some 142), none, .load true 2 (.tmp 141)⟩ (
      .ev ⟨(some 143), none, .bslice 2 (.agg #[(.int .i64 0), (.int .i64 0)]) 1 [(0, (.tmp 142))]⟩ [⟨(some 141), none, .iaddr 2 (.tmp 136) (.tmp 140)⟩, ⟨(some 136), none, .load false 1 (.tmp 135)⟩, ⟨(some 135), none, .faddr 1 (.tmp 1)⟩, ⟨(some 134), none, .load false 1 (.tmp 133)⟩, ⟨(some 133), none, .faddr 1 (.tmp 7)⟩] (
      .ev ⟨(some 144), none, .app 2 16 (.tmp 134) (.tmp 143)⟩ [⟨(some 142), none, .load true 2 (.tmp 141)⟩, ⟨(some 141), none, .iaddr 2 (.tmp 136) (.tmp 140)⟩, ⟨(some 136), none, .load false 1 (.tmp 135)⟩, ⟨(some 135), none, .faddr 1 (.tmp 1)⟩, ⟨(some 133), none, .faddr 1 (.tmp 7)⟩] (
       .step ⟨(some 145), none, .faddr 1 (.tmp 7)⟩ (
        .ev ⟨none, none, .store 1 (.tmp 145) (.tmp 144)⟩ [] (
        .done)
        (.stop)))
       (.stop))
      (.stop)))))))))))))))
   (.reg [⟨(some 146), none, .bin .add (.tmp 130) (.lit (.int .i64 1))⟩,
     ⟨(some 130), none, .mov (.tmp 146)⟩])))))))
 (.seq (.seq (.reg [⟨(some 147), none, .faddr 2 (.tmp 1)⟩,
     ⟨(some 148), none, .load false 1 (.tmp 147)⟩,
     ⟨(some 149), none, .len (.tmp 148)⟩,
     ⟨(some 150), none, .mov (.lit (.int .i64 0))⟩])
  (.block 4 (.loop (.seq (.reg [⟨(some 151), none, .bin .lss (.tmp 150) (.tmp 149)⟩])
   (.seq (.cond (.tmp 151) (.skip)
      (.exit 4))
   (.seq (.block 5 (.seq (.reg [⟨(some 152), none, .mov (.tmp 150)⟩,
       ⟨(some 12), none, .mov (.tmp 152)⟩])
    (.draw (.step ⟨(some 153), none, .faddr 2 (.tmp 7)⟩ (
      .step ⟨(some 154), none, .load false 1 (.tmp 153)⟩ (
      .step ⟨(some 155), none, .faddr 2 (.tmp 1)⟩ (
      .step ⟨(some 156), none, .load false 1 (.tmp 155)⟩ (
      .step ⟨(some 157), none, .mov (.tmp 5)⟩ (
      .step ⟨(some 158), none, .bin .sub (.tmp 157) (.lit (.int .i64 1))⟩ (
      .step ⟨(some 159), none, .mov (.tmp 12)⟩ (
      .step ⟨(some 160), none, .bin .sub (.tmp 158) (.tmp 159)⟩ (
      .step ⟨(some 161), none, .iaddr 2 (.tmp 156) (.tmp 160)⟩ (
      .step ⟨(some 162), none, .load true 2 (.tmp 161)⟩ (
      .ev ⟨(some 163), none, .bslice 2 (.agg #[(.int .i64 0), (.int .i64 0)]) 1 [(0, (.tmp 162))]⟩ [⟨(some 161), none, .iaddr 2 (.tmp 156) (.tmp 160)⟩, ⟨(some 156), none, .load false 1 (.tmp 155)⟩, ⟨(some 155), none, .faddr 2 (.tmp 1)⟩, ⟨(some 154), none, .load false 1 (.tmp 153)⟩, ⟨(some 153), none, .faddr 2 (.tmp 7)⟩] (
      .ev ⟨(some 164), none, .app 2 16 (.tmp 154) (.tmp 163)⟩ [⟨(some 162), none, .load true 2 (.tmp 161)⟩, ⟨(some 161), none, .iaddr 2 (.tmp 156) (.tmp 160)⟩, ⟨(some 156), none, .load false 1 (.tmp 155)⟩, ⟨(some 155), none, .faddr 2 (.tmp 1)⟩, ⟨(some 153), none, .faddr 2 (.tmp 7)⟩] (
       .step ⟨(some 165), none, .faddr 2 (.tmp 7)⟩ (
        .ev ⟨none, none, .store 1 (.tmp 165) (.tmp 164)⟩ [] (
        .done)
        (.stop)))
       (.stop))
      (.stop)))))))))))))))
   (.reg [⟨(some 166), none, .bin .add (.tmp 150) (.lit (.int .i64 1))⟩,
     ⟨(some 150), none, .mov (.tmp 166)⟩])))))))
 (.seq (.draw (.step ⟨(some 168), none, .faddr 0 (.tmp 1)⟩ (
    .step ⟨(some 169), none, .load false 1 (.tmp 168)⟩ (
    .step ⟨(some 172), none, .faddr 1 (.tmp 1)⟩ (
    .step ⟨(some 173), none, .load false 1 (.tmp 172)⟩ (
    .ev ⟨(some 167), none, .bslice 6 (.agg #[(.int .i64 0), (.int .i64 0), (.int .i64 0), (.int .i64 0), (.int .i64 0), (.int .i64 0)]) 0 []⟩ [⟨(some 173), none, .load false 1 (.tmp 172)⟩, ⟨(some 172), none, .faddr 1 (.tmp 1)⟩, ⟨(some 169), none, .load false 1 (.tmp 168)⟩, ⟨(some 168), none, .faddr 0 (.tmp 1)⟩] (
    .ev ⟨(some 170), none, .app 6 48 (.tmp 167) (.tmp 169)⟩ [⟨(some 173), none, .load false 1 (.tmp 172)⟩, ⟨(some 172), none, .faddr 1 (.tmp 1)⟩, ⟨(some 168), none, .faddr 0 (.tmp 1)⟩] (
     .ev ⟨(some 171), none, .bslice 2 (.agg #[(.int .i64 0), (.int .i64 0)]) 0 []⟩ [⟨(some 173), none, .load false 1 (.tmp 172)⟩, ⟨(some 172), none, .faddr 1 (.tmp 1)⟩, ⟨(some 169), none, .load false 1 (.tmp 168)⟩, ⟨(some 168), none, .faddr 0 (.tmp 1)⟩] (
      .ev ⟨(some 174), none, .app 2 16 (.tmp 171) (.tmp 173)⟩ [⟨(some 172), none, .faddr 1 (.tmp 1)⟩, ⟨(some 169), none, .load false 1 (.tmp 168)⟩, ⟨(some 168), none, .faddr 0 (.tmp 1)⟩] (
       .step ⟨(some 13), none, .mov (.tmp 170)⟩ (
        .step ⟨(some 14), none, .mov (.tmp 174)⟩ (
        .done)))
       (.stop))
      (.stop))
     (.ev ⟨(some 171), none, .bslice 2 (.agg #[(.int .i64 0), (.int .i64 0)]) 0 []⟩ [⟨(some 173), none, .load false 1 (.tmp 172)⟩, ⟨(some 172), none, .faddr 1 (.tmp 1)⟩, ⟨(some 169), none, .load false 1 (.tmp 168)⟩, ⟨(some 168), none, .faddr 0 (.tmp 1)⟩] (
     .ev ⟨(some 170), none, .app 6 48 (.tmp 167) (.tmp 169)⟩ [⟨(some 173), none, .load false 1 (.tmp 172)⟩, ⟨(some 172), none, .faddr 1 (.tmp 1)⟩, ⟨(some 168), none, .faddr 0 (.tmp 1)⟩] (
      .ev ⟨(some 174), none, .app 2 16 (.tmp 171) (.tmp 173)⟩ [⟨(some 172), none, .faddr 1 (.tmp 1)⟩, ⟨(some 169), none, .load false 1 (.tmp 168)⟩, ⟨(some 168), none, .faddr 0 (.tmp 1)⟩] (
       .step ⟨(some 13), none, .mov (.tmp 170)⟩ (
        .step ⟨(some 14), none, .mov (.tmp 174)⟩ (
        .done)))
       (.stop))
      (.stop))
     (.stop)))
    (.ev ⟨(some 171), none, .bslice 2 (.agg #[(.int .i64 0), (.int .i64 0)]) 0 []⟩ [⟨(some 173), none, .load false 1 (.tmp 172)⟩, ⟨(some 172), none, .faddr 1 (.tmp 1)⟩, ⟨(some 169), none, .load false 1 (.tmp 168)⟩, ⟨(some 168), none, .faddr 0 (.tmp 1)⟩] (
    .ev ⟨(some 167), none, .bslice 6 (.agg #[(.int .i64 0), (.int .i64 0), (.int .i64 0), (.int .i64 0), (.int .i64 0), (.int .i64 0)]) 0 []⟩ [⟨(some 173), none, .load false 1 (.tmp 172)⟩, ⟨(some 172), none, .faddr 1 (.tmp 1)⟩, ⟨(some 169), none, .load false 1 (.tmp 168)⟩, ⟨(some 168), none, .faddr 0 (.tmp 1)⟩] (
     .ev ⟨(some 170), none, .app 6 48 (.tmp 167) (.tmp 169)⟩ [⟨(some 173), none, .load false 1 (.tmp 172)⟩, ⟨(some 172), none, .faddr 1 (.tmp 1)⟩, ⟨(some 168), none, .faddr 0 (.tmp 1)⟩] (
      .ev ⟨(some 174), none, .app 2 16 (.tmp 171) (.tmp 173)⟩ [⟨(some 172), none, .faddr 1 (.tmp 1)⟩, ⟨(some 169), none, .load false 1 (.tmp 168)⟩, ⟨(some 168), none, .faddr 0 (.tmp 1)⟩] (
       .step ⟨(some 13), none, .mov (.tmp 170)⟩ (
        .step ⟨(some 14), none, .mov (.tmp 174)⟩ (
        .done)))
       (.stop))
      (.stop))
     (.stop))
    (.stop))))))))
 (.seq (.reg [⟨(some 176), none, .load true 3 (.tmp 1)⟩,
    ⟨(some 177), none, .call (.fn 23) [(.tmp 176)]⟩,
    ⟨(some 175), none, .mov (.tmp 177)⟩,
    ⟨(some 178), none, .ext (.tmp 175) 0⟩,
    ⟨(some 179), none, .ext (.tmp 175) 1⟩,
    ⟨(some 15), none, .mov (.tmp 178)⟩,
    ⟨(some 16), none, .mov (.tmp 179)⟩])
 (.seq (.reg [⟨(some 181), none, .load true 3 (.tmp 6)⟩,
    ⟨(some 182), none, .call (.fn 23) [(.tmp 181)]⟩,
    ⟨(some 180), none, .mov (.tmp 182)⟩,
    ⟨(some 183), none, .ext (.tmp 180) 0⟩,
    ⟨(some 184), none, .ext (.tmp 180) 1⟩,
    ⟨(some 17), none, .mov (.tmp 183)⟩,
    ⟨(some 18), none, .mov (.tmp 184)⟩])
 (.seq (.reg [⟨(some 186), none, .load true 3 (.tmp 7)⟩,
    ⟨(some 187), none, .call (.fn 23) [(.tmp 186)]⟩,
    ⟨(some 185), none, .mov (.tmp 187)⟩,
    ⟨(some 188), none, .ext (.tmp 185) 0⟩,
    ⟨(some 189), none, .ext (.tmp 185) 1⟩,
    ⟨(some 19), none, .mov (.tmp 188)⟩,
    ⟨(some 20), none, .mov (.tmp 189)⟩])
 (.seq (.reg [⟨(some 191), none, .load true 3 (.tmp 1)⟩,
    ⟨(some 192), none, .call (.fn 25) [(.tmp 191)]⟩,
    ⟨(some 190), none, .mov (.tmp 192)⟩,
    ⟨(some 193), none, .ext (.tmp 190) 0⟩,
    ⟨(some 194), none, .ext (.tmp 190) 1⟩,
    ⟨(some 195), none, .ext (.tmp 190) 2⟩,
    ⟨(some 21), none, .mov (.tmp 193)⟩,
    ⟨(some 22), none, .mov (.tmp 194)⟩,
    ⟨(some 23), none, .mov (.tmp 195)⟩])
 (.seq (.reg [⟨(some 197), none, .load true 3 (.tmp 6)⟩,
    ⟨(some 198), none, .call (.fn 25) [(.tmp 197)]⟩,
    ⟨(some 196), none, .mov (.tmp 198)⟩,
    ⟨(some 199), none, .ext (.tmp 196) 0⟩,
    ⟨(some 200), none, .ext (.tmp 196) 1⟩,
    ⟨(some 201), none, .ext (.tmp 196) 2⟩,
    ⟨(some 24), none, .mov (.tmp 199)⟩,
    ⟨(some 25), none, .mov (.tmp 200)⟩,
    ⟨(some 26), none, .mov (.tmp 201)⟩])
 (.seq (.reg [⟨(some 203), none, .load true 3 (.tmp 7)⟩,
    ⟨(some 204), none, .call (.fn 25) [(.tmp 203)]⟩,
    ⟨(some 202), none, .mov (.tmp 204)⟩,
    ⟨(some 205), none, .ext (.tmp 202) 0⟩,
    ⟨(some 206), none, .ext (.tmp 202) 1⟩,
    ⟨(some 207), none, .ext (.tmp 202) 2⟩,
    ⟨(some 27), none, .mov (.tmp 205)⟩,
    ⟨(some 28), none, .mov (.tmp 206)⟩,
    ⟨(some 29), none, .mov (.tmp 207)⟩])
 (.seq (.reg [⟨(some 209), none, .load true 3 (.tmp 1)⟩,
    ⟨(some 210), none, .call (.fn 27) [(.tmp 209)]⟩,
    ⟨(some 208), none, .mov (.tmp 210)⟩,
    ⟨(some 211), none, .ext (.tmp 208) 0⟩,
    ⟨(some 212), none, .ext (.tmp 208) 1⟩,
    ⟨(some 213), none, .ext (.tmp 208) 2⟩,
    ⟨(some 30), none, .mov (.tmp 211)⟩,
    ⟨(some 31), none, .mov (.tmp 212)⟩,
    ⟨(some 32), none, .mov (.tmp 213)⟩])
 (.seq (.reg [⟨(some 215), none, .load true 3 (.tmp 6)⟩,
    ⟨(some 216), none, .call (.fn 27) [(.tmp 215)]⟩,
    ⟨(some 214), none, .mov (.tmp 216)⟩,
    ⟨(some 217), none, .ext (.tmp 214) 0⟩,
    ⟨(some 218), none, .ext (.tmp 214) 1⟩,
    ⟨(some 219), none, .ext (.tmp 214) 2⟩,
    ⟨(some 33), none, .mov (.tmp 217)⟩,
    ⟨(some 34), none, .mov (.tmp 218)⟩,
    ⟨(some 35), none, .mov (.tmp 219)⟩])
 (.seq (.reg [⟨(some 221), none, .load true 3 (.tmp 7)⟩,
    ⟨(some 222), none, .call (.fn 27) [(.tmp 221)]⟩,
    ⟨(some 220), none, .mov (.tmp 222)⟩,
    ⟨(some 223), none, .ext (.tmp 220) 0⟩,
    ⟨(some 224), none, .ext (.tmp 220) 1⟩,
    ⟨(some 225), none, .ext (.tmp 220) 2⟩,
    ⟨(some 36), none, .mov (.tmp 223)⟩,
    ⟨(some 37), none, .mov (.tmp 224)⟩,
    ⟨(some 38), none, .mov (.tmp 225)⟩])
 (.seq (.reg [⟨(some 227), none, .load true 3 (.tmp 1)⟩,
    ⟨(some 228), none, .call (.fn 29) [(.tmp 227)]⟩,
    ⟨(some 226), none, .mov (.tmp 228)⟩,
    ⟨(some 229), none, .ext (.tmp 226) 0⟩,
    ⟨(some 230), none, .ext (.tmp 226) 1⟩,
    ⟨(some 231), none, .ext (.tmp 226) 2⟩,
    ⟨(some 39), none, .mov (.tmp 229)⟩,
    ⟨(some 40), none, .mov (.tmp 230)⟩,
    ⟨(some 41), none, .mov (.tmp 231)⟩])
 (.seq (.reg [⟨(some 233), none, .load true 3 (.tmp 6)⟩,
    ⟨(some 234), none, .call (.fn 29) [(.tmp 233)]⟩,
    ⟨(some 232), none, .mov (.tmp 234)⟩,
    ⟨(some 235), none, .ext (.tmp 232) 0⟩,
    ⟨(some 236), none, .ext (.tmp 232) 1⟩,
    ⟨(some 237), none, .ext (.tmp 232) 2⟩,
    ⟨(some 42), none, .mov (.tmp 235)⟩,
    ⟨(some 43), none, .mov (.tmp 236)⟩,
    ⟨(some 44), none, .mov (.tmp 237)⟩])
 (.seq (.reg [⟨(some 239), none, .load true 3 (.tmp 7)⟩,
    ⟨(some 240), none, .call (.fn 29) [(.tmp 239)]⟩,
    ⟨(some 238), none, .mov (.tmp 240)⟩,
    ⟨(some 241), none, .ext (.tmp 238) 0⟩,
    ⟨(some 242), none, .ext (.tmp 238) 1⟩,
    ⟨(some 243), none, .ext (.tmp 238) 2⟩,
    ⟨(some 45), none, .mov (.tmp 241)⟩,
    ⟨(some 46), none, .mov (.tmp 242)⟩,
    ⟨(some 47), none, .mov (.tmp 243)⟩])
 (.seq (.reg [⟨(some 48), none, .mov (.fn 32)⟩])
 (.seq (.seq (.reg [⟨(some 244), none, .mov (.tmp 16)⟩,
     ⟨(some 245), none, .bin .neq (.tmp 244) (.lit (.int .i64 0))⟩,
     ⟨(some 246), none, .mov (.tmp 245)⟩,
     ⟨(some 247), (some (246, false)), .mov (.tmp 18)⟩,
     ⟨(some 248), (some (246, false)), .bin .neq (.tmp 247) (.lit (.int .i64 0))⟩,
     ⟨(some 249), none, .pick (.tmp 246) (.lit (.bool true)) (.tmp 248)⟩,
     ⟨(some 250), none, .mov (.tmp 249)⟩,
     ⟨(some 251), (some (250, false)), .mov (.tmp 20)⟩,
     ⟨(some 252), (some (250, false)), .bin .neq (.tmp 251) (.lit (.int .i64 0))⟩,
     ⟨(some 253), none, .pick (.tmp 250) (.lit (.bool true)) (.tmp 252)⟩,
     ⟨(some 254), none, .mov (.tmp 253)⟩,
     ⟨(some 255), (some (254, false)), .mov (.tmp 15)⟩,
     ⟨(some 256), (some (254, false)), .mov (.tmp 17)⟩,
     ⟨(some 257), (some (254, false)), .bin .neq (.tmp 255) (.tmp 256)⟩,
     ⟨(some 258), none, .pick (.tmp 254) (.lit (.bool true)) (.tmp 257)⟩,
     ⟨(some 259), none, .mov (.tmp 258)⟩,
     ⟨(some 260), (some (259, false)), .mov (.tmp 15)⟩,
     ⟨(some 261), (some (259, false)), .mov (.tmp 19)⟩,
     ⟨(some 262), (some (259, false)), .bin .neq (.tmp 260) (.tmp 261)⟩,
     ⟨(some 263), none, .pick (.tmp 259) (.lit (.bool true)) (.tmp 262)⟩,
     ⟨(some 264), none, .mov (.tmp 263)⟩,
     ⟨(some 265), (some (264, false)), .mov (.tmp 21)⟩,
     ⟨(some 266), (some (264, false)), .mov (.tmp 24)⟩,
     ⟨(some 267), (some (264, false)), .bin .neq (.tmp 265) (.tmp 266)⟩,
     ⟨(some 268), none, .pick (.tmp 264) (.lit (.bool true)) (.tmp 267)⟩,
     ⟨(some 269), none, .mov (.tmp 268)⟩,
     ⟨(some 270), (some (269, false)), .mov (.tmp 22)⟩,
     ⟨(some 271), (some (269, false)), .mov (.tmp 25)⟩,
     ⟨(some 272), (some (269, false)), .bin .neq (.tmp 270) (.tmp 271)⟩,
     ⟨(some 273), none, .pick (.tmp 269) (.lit (.bool true)) (.tmp 272)⟩,
     ⟨(some 274), none, .mov (.tmp 273)⟩,
     ⟨(some 275), (some (274, false)), .mov (.tmp 23)⟩,
     ⟨(some 276), (some (274, false)), .mov (.tmp 26)⟩,
     ⟨(some 277), (some (274, false)), .bin .neq (.tmp 275) (.tmp 276)⟩,
     ⟨(some 278), none, .pick (.tmp 274) (.lit (.bool true)) (.tmp 277)⟩,
     ⟨(some 279), none, .mov (.tmp 278)⟩,
     ⟨(some 280), (some (279, false)), .mov (.tmp 21)⟩,
     ⟨(some 281), (some (279, false)), .mov (.tmp 27)⟩,
     ⟨(some 282), (some (279, false)), .bin .neq (.tmp 280) (.tmp 281)⟩,
     ⟨(some 283), none, .pick (.tmp 279) (.lit (.bool true)) (.tmp 282)⟩,
     ⟨(some 284), none, .mov (.tmp 283)⟩,
     ⟨(some 285), (some (284, false)), .mov (.tmp 23)⟩,
     ⟨(some 286), (some (284, false)), .mov (.tmp 29)⟩,
     ⟨(some 287), (some (284, false)), .bin .neq (.tmp 285) (.tmp 286)⟩,
     ⟨(some 288), none, .pick (.tmp 284) (.lit (.bool true)) (.tmp 287)⟩,
     ⟨(some 289), none, .mov (.tmp 288)⟩,
     ⟨(some 290), (some (289, false)), .mov (.tmp 30)⟩,
     ⟨(some 291), (some (289, false)), .mov (.tmp 33)⟩,
     ⟨(some 292), (some (289, false)), .bin .neq (.tmp 290) (.tmp 291)⟩,
     ⟨(some 293), none, .pick (.tmp 289) (.lit (.bool true)) (.tmp 292)⟩,
     ⟨(some 294), none, .mov (.tmp 293)⟩,
     ⟨(some 295), (some (294, false)), .mov (.tmp 31)⟩,
     ⟨(some 296), (some (294, false)), .mov (.tmp 34)⟩,
     ⟨(some 297), (some (294, false)), .bin .neq (.tmp 295) (.tmp 296)⟩,
     ⟨(some 298), none, .pick (.tmp 294) (.lit (.bool true)) (.tmp 297)⟩,
     ⟨(some 299), none, .mov (.tmp 298)⟩,
     ⟨(some 300), (some (299, false)), .mov (.tmp 32)⟩,
     ⟨(some 301), (some (299, false)), .mov (.tmp 35)⟩,
     ⟨(some 302), (some (299, false)), .bin .neq (.tmp 300) (.tmp 301)⟩,
     ⟨(some 303), none, .pick (.tmp 299) (.lit (.bool true)) (.tmp 302)⟩,
     ⟨(some 304), none, .mov (.tmp 303)⟩,
     ⟨(some 305), (some (304, false)), .mov (.tmp 31)⟩,
     ⟨(some 306), (some (304, false)), .mov (.tmp 37)⟩,
     ⟨(some 307), (some (304, false)), .bin .neq (.tmp 305) (.tmp 306)⟩,
     ⟨(some 308), none, .pick (.tmp 304) (.lit (.bool true)) (.tmp 307)⟩,
     ⟨(some 309), none, .mov (.tmp 308)⟩,
     ⟨(some 310), (some (309, false)), .mov (.tmp 32)⟩,
     ⟨(some 311), (some (309, false)), .mov (.tmp 38)⟩,
     ⟨(some 312), (some (309, false)), .bin .neq (.tmp 310) (.tmp 311)⟩,
     ⟨(some 313), none, .pick (.tmp 309) (.lit (.bool true)) (.tmp 312)⟩,
     ⟨(some 314), none, .mov (.tmp 313)⟩,
     ⟨(some 315), (some (314, false)), .mov (.tmp 41)⟩,
     ⟨(some 316), (some (314, false)), .mov (.tmp 44)⟩,
     ⟨(some 317), (some (314, false)), .bin .neq (.tmp 315) (.tmp 316)⟩,
     ⟨(some 318), none, .pick (.tmp 314) (.lit (.bool true)) (.tmp 317)⟩,
     ⟨(some 319), none, .mov (.tmp 318)⟩,
     ⟨(some 320), (some (319, false)), .mov (.tmp 41)⟩,
     ⟨(some 321), (some (319, false)), .mov (.tmp 47)⟩,
     ⟨(some 322), (some (319, false)), .bin .neq (.tmp 320) (.tmp 321)⟩,
     ⟨(some 323), none, .pick (.tmp 319) (.lit (.bool true)) (.tmp 322)⟩,
     ⟨(some 324), none, .mov (.tmp 323)⟩,
     ⟨(some 325), (some (324, false)), .mov (.tmp 39)⟩,
     ⟨(some 326), (some (324, false)), .mov (.tmp 40)⟩,
     ⟨(some 327), (some (324, false)), .mov (.tmp 42)⟩,
     ⟨(some 328), (some (324, false)), .mov (.tmp 43)⟩,
     ⟨(some 329), (some (324, false)), .mov (.tmp 45)⟩,
     ⟨(some 330), (some (324, false)), .mov (.tmp 46)⟩,
     ⟨(some 331), (some (324, false)), .mxmn false (.tmp 325) [(.tmp 326), (.tmp 327), (.tmp 328), (.tmp 329), (.tmp 330)]⟩,
     ⟨(some 332), (some (324, false)), .bin .lss (.tmp 331) (.lit (.int .i64 0))⟩,
     ⟨(some 333), none, .pick (.tmp 324) (.lit (.bool true)) (.tmp 332)⟩])
  (.cond (.tmp 333) (.seq (.reg [⟨(some 2), none, .mov (.lit (.bool false))⟩])
   (.ret))
    (.skip)))
 (.seq (.seq (.reg [⟨(some 334), none, .mov (.tmp 48)⟩,
     ⟨(some 335), none, .mov (.tmp 39)⟩,
     ⟨(some 336), none, .call (.tmp 334) [(.tmp 335)]⟩,
     ⟨(some 337), none, .mov (.tmp 48)⟩,
     ⟨(some 338), none, .mov (.tmp 40)⟩,
     ⟨(some 339), none, .call (.tmp 337) [(.tmp 338)]⟩,
     ⟨(some 340), none, .bin .add (.tmp 336) (.tmp 339)⟩,
     ⟨(some 341), none, .mov (.tmp 48)⟩,
     ⟨(some 342), none, .mov (.tmp 42)⟩,
     ⟨(some 343), none, .call (.tmp 341) [(.tmp 342)]⟩,
     ⟨(some 344), none, .mov (.tmp 48)⟩,
     ⟨(some 345), none, .mov (.tmp 43)⟩,
     ⟨(some 346), none, .call (.tmp 344) [(.tmp 345)]⟩,
     ⟨(some 347), none, .bin .add (.tmp 343) (.tmp 346)⟩,
     ⟨(some 348), none, .bin .neq (.tmp 340) (.tmp 347)⟩,
     ⟨(some 349), none, .mov (.tmp 348)⟩,
     ⟨(some 350), (some (349, false)), .mov (.tmp 48)⟩,
     ⟨(some 351), (some (349, false)), .mov (.tmp 39)⟩,
     ⟨(some 352), (some (349, false)), .call (.tmp 350) [(.tmp 351)]⟩,
     ⟨(some 353), (some (349, false)), .mov (.tmp 48)⟩,
     ⟨(some 354), (some (349, false)), .mov (.tmp 40)⟩,
     ⟨(some 355), (some (349, false)), .call (.tmp 353) [(.tmp 354)]⟩,
     ⟨(some 356), (some (349, false)), .bin .add (.tmp 352) (.tmp 355)⟩,
     ⟨(some 357), (some (349, false)), .mov (.tmp 48)⟩,
     ⟨(some 358), (some (349, false)), .mov (.tmp 45)⟩,
     ⟨(some 359), (some (349, false)), .call (.tmp 357) [(.tmp 358)]⟩,
     ⟨(some 360), (some (349, false)), .mov (.tmp 48)⟩,
     ⟨(some 361), (some (349, false)), .mov (.tmp 46)⟩,
     ⟨(some 362), (some (349, false)), .call (.tmp 360) [(.tmp 361)]⟩,
     ⟨(some 363), (some (349, false)), .bin .add (.tmp 359) (.tmp 362)⟩,
     ⟨(some 364), (some (349, false)), .bin .neq (.tmp 356) (.tmp 363)⟩,
     ⟨(some 365), none, .pick (.tmp 349) (.lit (.bool true)) (.tmp 364)⟩])
  (.cond (.tmp 365) (.seq (.reg [⟨(some 2), none, .mov (.lit (.bool false))⟩])
   (.ret))
    (.skip)))
 (.seq (.seq (.reg [⟨(some 366), none, .mov (.tmp 3)⟩,
     ⟨(some 367), none, .mov (.lit (.int .i64 0))⟩])
  (.block 6 (.loop (.seq (.reg [⟨(some 368), none, .bin .lss (.tmp 367) (.tmp 366)⟩])
   (.seq (.cond (.tmp 368) (.skip)
      (.exit 6))
   (.seq (.block 7 (.seq (.reg [⟨(some 369), none, .mov (.tmp 367)⟩,
       ⟨(some 49), none, .mov (.tmp 369)⟩])
    (.seq (.reg [⟨(some 371), none, .load true 3 (.tmp 1)⟩,
       ⟨(some 372), none, .mov (.tmp 49)⟩,
       ⟨(some 373), none, .call (.fn 17) [(.tmp 371), (.tmp 372)]⟩,
       ⟨(some 370), none, .mov (.tmp 373)⟩,
       ⟨(some 374), none, .ext (.tmp 370) 0⟩,
       ⟨(some 375), none, .ext (.tmp 370) 1⟩,
       ⟨(some 50), none, .alloc [(.int .i64 0), (.int .i64 0)]⟩,
       ⟨none, none, .store 2 (.tmp 50) (.tmp 374)⟩,
       ⟨(some 51), none, .mov (.tmp 375)⟩])
    (.seq (.reg [⟨(some 377), none, .load true 3 (.tmp 6)⟩,
       ⟨(some 378), none, .mov (.tmp 49)⟩,
       ⟨(some 379), none, .call (.fn 17) [(.tmp 377), (.tmp 378)]⟩,
       ⟨(some 376), none, .mov (.tmp 379)⟩,
       ⟨(some 380), none, .ext (.tmp 376) 0⟩,
       ⟨(some 381), none, .ext (.tmp 376) 1⟩,
       ⟨(some 52), none, .alloc [(.int .i64 0), (.int .i64 0)]⟩,
       ⟨none, none, .store 2 (.tmp 52) (.tmp 380)⟩,
       ⟨(some 53), none, .mov (.tmp 381)⟩])
    (.seq (.reg [⟨(some 383), none, .load true 3 (.tmp 7)⟩,
       ⟨(some 384), none, .mov (.tmp 3)⟩,
       ⟨(some 385), none, .bin .sub (.tmp 384) (.lit (.int .i64 1))⟩,
       ⟨(some 386), none, .mov (.tmp 49)⟩,
       ⟨(some 387), none, .bin .sub (.tmp 385) (.tmp 386)⟩,
       ⟨(some 388), none, .call (.fn 17) [(.tmp 383), (.tmp 387)]⟩,
       ⟨(some 382), none, .mov (.tmp 388)⟩,
       ⟨(some 389), none, .ext (.tmp 382) 0⟩,
       ⟨(some 390), none, .ext (.tmp 382) 1⟩,
       ⟨(some 54), none, .alloc [(.int .i64 0), (.int .i64 0)]⟩,
       ⟨none, none, .store 2 (.tmp 54) (.tmp 389)⟩,
       ⟨(some 55), none, .mov (.tmp 390)⟩])
    (.seq (.draw (.step ⟨(some 391), none, .load true 2 (.tmp 50)⟩ (
       .step ⟨(some 392), none, .load true 2 (.tmp 52)⟩ (
       .step ⟨(some 393), none, .eqs true [(some .i64), (some .i64)] (.tmp 391) (.tmp 392)⟩ (
       .step ⟨(some 394), none, .mov (.tmp 393)⟩ (
       .step ⟨(some 395), (some (394, false)), .mov (.tmp 51)⟩ (
       .step ⟨(some 396), (some (394, false)), .mov (.tmp 53)⟩ (
       .step ⟨(some 397), (some (394, false)), .bin .neq (.tmp 395) (.tmp 396)⟩ (
       .step ⟨(some 398), none, .pick (.tmp 394) (.lit (.bool true)) (.tmp 397)⟩ (
       .step ⟨(some 399), none, .mov (.tmp 398)⟩ (
       .step ⟨(some 400), (some (399, false)), .load true 2 (.tmp 50)⟩ (
       .step ⟨(some 401), (some (399, false)), .load true 2 (.tmp 54)⟩ (
       .step ⟨(some 402), (some (399, false)), .eqs true [(some .i64), (some .i64)] (.tmp 400) (.tmp 401)⟩ (
       .step ⟨(some 403), none, .pick (.tmp 399) (.lit (.bool true)) (.tmp 402)⟩ (
       .step ⟨(some 404), none, .mov (.tmp 403)⟩ (
       .step ⟨(some 405), (some (404, false)), .mov (.tmp 51)⟩ (
       .step ⟨(some 406), (some (404, false)), .mov (.tmp 55)⟩ (
       .step ⟨(some 407), (some (404, false)), .bin .neq (.tmp 405) (.tmp 406)⟩ (
       .step ⟨(some 408), none, .pick (.tmp 404) (.lit (.bool true)) (.tmp 407)⟩ (
       .step ⟨(some 409), none, .mov (.tmp 408)⟩ (
       .step ⟨(some 410), (some (409, false)), .mov (.tmp 13)⟩ (
       .step ⟨(some 411), (some (409, false)), .mov (.tmp 49)⟩ (
       .step ⟨(some 412), (some (409, false)), .iaddr 6 (.tmp 410) (.tmp 411)⟩ (
       .step ⟨(some 413), (some (409, false)), .load true 6 (.tmp 412)⟩ (
       .step ⟨(some 414), (some (409, false)), .faddr 0 (.tmp 1)⟩ (
       .step ⟨(some 415), (some (409, false)), .load false 1 (.tmp 414)⟩ (
       .step ⟨(some 416), (some (409, false)), .mov (.tmp 49)⟩ (
       .step ⟨(some 417), (some (409, false)), .iaddr 6 (.tmp 415) (.tmp 416)⟩ (
       .step ⟨(some 418), (some (409, false)), .load true 6 (.tmp 417)⟩ (
       .step ⟨(some 419), (some (409, false)), .eqs true [(some .i64), (some .i64), (some .i64), (some .i64), (some .i64), (some .i64)] (.tmp 413) (.tmp 418)⟩ (
       .step ⟨(some 420), none, .pick (.tmp 409) (.lit (.bool true)) (.tmp 419)⟩ (
       .done))))))))))))))))))))))))))))))))
    (.cond (.tmp 420) (.seq (.reg [⟨(some 2), none, .mov (.lit (.bool false))⟩])
     (.ret))
      (.skip))))))))
   (.reg [⟨(some 421), none, .bin .add (.tmp 367) (.lit (.int .i64 1))⟩,
     ⟨(some 367), none, .mov (.tmp 421)⟩])))))))
 (.seq (.seq (.reg [⟨(some 422), none, .mov (.tmp 14)⟩,
     ⟨(some 423), none, .len (.tmp 422)⟩,
     ⟨(some 424), none, .mov (.lit (.int .i64 0))⟩])
  (.block 8 (.loop (.seq (.reg [⟨(some 425), none, .bin .lss (.tmp 424) (.tmp 423)⟩])
   (.seq (.cond (.tmp 425) (.skip)
      (.exit 8))
   (.seq (.block 9 (.seq (.reg [⟨(some 426), none, .mov (.tmp 424)⟩,
       ⟨(some 56), none, .mov (.tmp 426)⟩])
    (.seq (.draw (.step ⟨(some 427), none, .mov (.tmp 14)⟩ (
       .step ⟨(some 428), none, .mov (.tmp 56)⟩ (
       .step ⟨(some 429), none, .iaddr 2 (.tmp 427) (.tmp 428)⟩ (
       .step ⟨(some 430), none, .load true 2 (.tmp 429)⟩ (
       .step ⟨(some 431), none, .faddr 1 (.tmp 1)⟩ (
       .step ⟨(some 432), none, .load false 1 (.tmp 431)⟩ (
       .step ⟨(some 433), none, .mov (.tmp 56)⟩ (
       .step ⟨(some 434), none, .iaddr 2 (.tmp 432) (.tmp 433)⟩ (
       .step ⟨(some 435), none, .load true 2 (.tmp 434)⟩ (
       .step ⟨(some 436), none, .eqs true [(some .i64), (some .i64)] (.tmp 430) (.tmp 435)⟩ (
       .done))))))))))))
    (.cond (.tmp 436) (.seq (.reg [⟨(some 2), none, .mov (.lit (.bool false))⟩])
     (.ret))
      (.skip)))))
   (.reg [⟨(some 437), none, .bin .add (.tmp 424) (.lit (.int .i64 1))⟩,
     ⟨(some 424), none, .mov (.tmp 437)⟩])))))))
 (.seq (.reg [⟨(some 438), none, .call (.fn 14) []⟩,
    ⟨(some 2), none, .mov (.tmp 438)⟩])
 (.ret))))))))))))))))))))))))))
theorem k12 : FnC Try.prog 12 439 [] [] [.tmp 2] c12 1 := ⟨Try.f12, _, Try.func12, rfl, by decide, rfl, by decide, by kernel_rfl, by kernel_rfl⟩
/-- dipworks/dipworkslaw06.made -/
def c31 : AC :=
 .seq (.reg [⟨(some 1), none, .box (.tmp 0)⟩,
    ⟨(some 2), none, .alloc [(.slice none 0 0), (.slice none 0 0), (.slice none 0 0)]⟩,
    ⟨(some 3), none, .mov (.lit (.slice none 0 0))⟩])
 (.seq (.reg [⟨(some 4), none, .alloc [(.int .i64 0)]⟩,
    ⟨none, none, .store 1 (.tmp 4) (.lit (.int .i64 0))⟩])
 (.seq (.reg [⟨(some 18), none, .mkfn (.func 76) [] [(.tmp 4), (.tmp 1)]⟩,
    ⟨(some 5), none, .mov (.tmp 18)⟩])
 (.seq (.reg [⟨(some 19), none, .mov (.tmp 5)⟩,
    ⟨(some 20), none, .call (.tmp 19) [(.lit (.int .i64 3))]⟩,
    ⟨(some 21), none, .bin .add (.lit (.int .i64 1)) (.tmp 20)⟩,
    ⟨(some 22), none, .mov (.tmp 5)⟩,
    ⟨(some 23), none, .call (.tmp 22) [(.lit (.int .i64 3))]⟩,
    ⟨(some 24), none, .bin .add (.lit (.int .i64 1)) (.tmp 23)⟩,
    ⟨(some 6), none, .mov (.tmp 21)⟩,
    ⟨(some 7), none, .mov (.tmp 24)⟩])
 (.seq (.draw (.step ⟨(some 25), none, .mov (.tmp 6)⟩ (
    .step ⟨(some 27), none, .mov (.tmp 7)⟩ (
    .ev ⟨(some 26), none, .mks 1 8 (.int .i64 0) (.tmp 25) (.tmp 25)⟩ [] (
    .step ⟨(some 8), none, .mov (.tmp 26)⟩ (
     .ev ⟨(some 28), none, .mks 1 8 (.int .i64 0) (.tmp 27) (.tmp 27)⟩ [] (
     .step ⟨(some 9), none, .mov (.tmp 28)⟩ (
      .done))
     (.stop)))
    (.ev ⟨(some 28), none, .mks 1 8 (.int .i64 0) (.tmp 27) (.tmp 27)⟩ [] (
    .ev ⟨(some 26), none, .mks 1 8 (.int .i64 0) (.tmp 25) (.tmp 25)⟩ [] (
     .step ⟨(some 8), none, .mov (.tmp 26)⟩ (
      .step ⟨(some 9), none, .mov (.tmp 28)⟩ (
      .done)))
     (.stop))
    (.stop))))))
 (.seq (.seq (.reg [⟨(some 29), none, .mov (.tmp 6)⟩,
     ⟨(some 30), none, .mov (.lit (.int .i64 0))⟩])
  (.block 0 (.loop (.seq (.reg [⟨(some 31), none, .bin .lss (.tmp 30) (.tmp 29)⟩])
   (.seq (.cond (.tmp 31) (.skip)
      (.exit 0))
   (.seq (.block 1 (.seq (.reg [⟨(some 32), none, .mov (.tmp 30)⟩,
       ⟨(some 10), none, .mov (.tmp 32)⟩])
    (.seq (.reg [⟨(some 33), none, .mov (.tmp 7)⟩,
       ⟨(some 34), none, .mov (.lit (.int .i64 0))⟩])
    (.block 2 (.loop (.seq (.reg [⟨(some 35), none, .bin .lss (.tmp 34) (.tmp 33)⟩])
     (.seq (.cond (.tmp 35) (.skip)
        (.exit 2))
     (.seq (.block 3 (.seq (.reg [⟨(some 36), none, .mov (.tmp 34)⟩,
         ⟨(some 11), none, .mov (.tmp 36)⟩])
      (.seq (.seq (.reg [⟨(some 37), none, .mov (.tmp 5)⟩,
          ⟨(some 38), none, .call (.tmp 37) [(.lit (.int .i64 4))]⟩,
          ⟨(some 39), none, .bin .eql (.tmp 38) (.lit (.int .i64 0))⟩,
          ⟨(some 40), none, .mov (.tmp 39)⟩,
          ⟨(some 41), (some (40, false)), .faddr 0 (.tmp 2)⟩,
          ⟨(some 42), (some (40, false)), .load false 1 (.tmp 41)⟩,
          ⟨(some 43), (some (40, false)), .len (.tmp 42)⟩,
          ⟨(some 44), (some (40, false)), .bin .geq (.tmp 43) (.lit (.int .i64 6))⟩,
          ⟨(some 45), none, .pick (.tmp 40) (.lit (.bool true)) (.tmp 44)⟩])
       (.cond (.tmp 45) (.exit 3)
         (.skip)))
      (.seq (.reg [⟨(some 46), none, .mov (.tmp 5)⟩,
         ⟨(some 47), none, .call (.tmp 46) [(.lit (.int .i64 5))]⟩,
         ⟨(some 12), none, .mov (.tmp 47)⟩])
      (.seq (.reg [⟨(some 48), none, .mov (.tmp 5)⟩,
         ⟨(some 49), none, .mov (.tmp 12)⟩,
         ⟨(some 50), none, .bin .add (.tmp 49) (.lit (.int .i64 1))⟩,
         ⟨(some 51), none, .call (.tmp 48) [(.tmp 50)]⟩,
         ⟨(some 13), none, .mov (.tmp 51)⟩])
      (.seq (.draw (.step ⟨(some 52), none, .faddr 0 (.tmp 2)⟩ (
         .step ⟨(some 53), none, .load false 1 (.tmp 52)⟩ (
         .step ⟨(some 54), none, .mov (.tmp 10)⟩ (
         .step ⟨(some 55), none, .mov (.tmp 11)⟩ (
         .step ⟨(some 56), none, .mov (.tmp 12)⟩ (
         .step ⟨(some 57), none, .mov (.tmp 5)⟩ (
         .step ⟨(some 61), none, .mov (.tmp 12)⟩ (
         .step ⟨(some 62), none, .mov (.tmp 5)⟩ (
         .step ⟨(some 67), none, .mov (.tmp 13)⟩ (
         .step ⟨(some 68), none, .mov (.tmp 5)⟩ (
         .step ⟨(some 72), none, .mov (.tmp 13)⟩ (
         .step ⟨(some 73), none, .mov (.tmp 5)⟩ (
         .ev ⟨(some 58), none, .call (.tmp 57) [(.lit (.int .i64 2))]⟩ [⟨(some 53), none, .load false 1 (.tmp 52)⟩, ⟨(some 52), none, .faddr 0 (.tmp 2)⟩] (
         .step ⟨(some 59), none, .bin .sub (.tmp 56) (.tmp 58)⟩ (
          .step ⟨(some 60), none, .mxmn true (.lit (.int .i64 0)) [(.tmp 59)]⟩ (
          .ev ⟨(some 63), none, .call (.tmp 62) [(.lit (.int .i64 2))]⟩ [⟨(some 53), none, .load false 1 (.tmp 52)⟩, ⟨(some 52), none, .faddr 0 (.tmp 2)⟩] (
          .step ⟨(some 64), none, .bin .add (.tmp 61) (.tmp 63)⟩ (
           .step ⟨(some 65), none, .mxmn false (.lit (.int .i64 4)) [(.tmp 64)]⟩ (
           .ev ⟨(some 66), none, .call (.fn 42) [(.tmp 60), (.tmp 65)]⟩ [⟨(some 53), none, .load false 1 (.tmp 52)⟩, ⟨(some 52), none, .faddr 0 (.tmp 2)⟩] (
           .ev ⟨(some 69), none, .call (.tmp 68) [(.lit (.int .i64 2))]⟩ [⟨(some 53), none, .load false 1 (.tmp 52)⟩, ⟨(some 52), none, .faddr 0 (.tmp 2)⟩] (
            .step ⟨(some 70), none, .bin .sub (.tmp 67) (.tmp 69)⟩ (
             .step ⟨(some 71), none, .mxmn true (.lit (.int .i64 0)) [(.tmp 70)]⟩ (
             .ev ⟨(some 74), none, .call (.tmp 73) [(.lit (.int .i64 2))]⟩ [⟨(some 53), none, .load false 1 (.tmp 52)⟩, ⟨(some 52), none, .faddr 0 (.tmp 2)⟩] (
             .step ⟨(some 75), none, .bin .add (.tmp 72) (.tmp 74)⟩ (
              .step ⟨(some 76), none, .mxmn false (.lit (.int .i64 4)) [(.tmp 75)]⟩ (
              .ev ⟨(some 77), none, .call (.fn 42) [(.tmp 71), (.tmp 76)]⟩ [⟨(some 53), none, .load false 1 (.tmp 52)⟩, ⟨(some 52), none, .faddr 0 (.tmp 2)⟩] (
              .ev ⟨(some 78), none, .call (.fn 44) [(.tmp 54), (.tmp 55), (.tmp 66), (.tmp 77)]⟩ [⟨(some 53), none, .load false 1 (.tmp 52)⟩, ⟨(some 52), none, .faddr 0 (.tmp 2)⟩] (
               .ev ⟨(some 79), none, .bslice 6 (.agg #[(.int .i64 0), (.int .i64 0), (.int .i64 0), (.int .i64 0), (.int .i64 0), (.int .i64 0)]) 1 [(0, (.tmp 78))]⟩ [⟨(some 53), none, .load false 1 (.tmp 52)⟩, ⟨(some 52), none, .faddr 0 (.tmp 2)⟩] (
                .ev ⟨(some 80), none, .app 6 48 (.tmp 53) (.tmp 79)⟩ [⟨(some 52), none, .faddr 0 (.tmp 2)⟩] (
                 .step ⟨(some 81), none, .faddr 0 (.tmp 2)⟩ (
                  .ev ⟨none, none, .store 1 (.tmp 81) (.tmp 80)⟩ [] (
                  .done)
                  (.stop)))
                 (.stop))
                (.stop))
               (.stop))
              (.stop))))
             (.stop))))
            (.stop))
           (.stop))))
          (.stop))))
         (.stop)))))))))))))))
      (.seq (.reg [⟨(some 82), none, .mov (.tmp 3)⟩,
         ⟨(some 83), none, .mov (.tmp 12)⟩,
         ⟨(some 84), none, .mov (.tmp 13)⟩,
         ⟨(some 85), none, .bin .sub (.tmp 83) (.tmp 84)⟩,
         ⟨(some 86), none, .bslice 1 (.int .i64 0) 1 [(0, (.tmp 85))]⟩,
         ⟨(some 87), none, .app 1 8 (.tmp 82) (.tmp 86)⟩,
         ⟨(some 3), none, .mov (.tmp 87)⟩])
      (.seq (.reg [⟨(some 88), none, .mov (.tmp 8)⟩,
         ⟨(some 89), none, .mov (.tmp 10)⟩,
         ⟨(some 90), none, .iaddr 1 (.tmp 88) (.tmp 89)⟩,
         ⟨(some 91), none, .load false 1 (.tmp 90)⟩,
         ⟨(some 92), none, .mov (.tmp 12)⟩,
         ⟨(some 93), none, .mov (.tmp 13)⟩,
         ⟨(some 94), none, .bin .sub (.tmp 92) (.tmp 93)⟩,
         ⟨(some 95), none, .bin .add (.tmp 91) (.tmp 94)⟩,
         ⟨(some 96), none, .iaddr 1 (.tmp 88) (.tmp 89)⟩,
         ⟨none, none, .store 1 (.tmp 96) (.tmp 95)⟩])
      (.reg [⟨(some 97), none, .mov (.tmp 9)⟩,
        ⟨(some 98), none, .mov (.tmp 11)⟩,
        ⟨(some 99), none, .iaddr 1 (.tmp 97) (.tmp 98)⟩,
        ⟨(some 100), none, .load false 1 (.tmp 99)⟩,
        ⟨(some 101), none, .mov (.tmp 12)⟩,
        ⟨(some 102), none, .mov (.tmp 13)⟩,
        ⟨(some 103), none, .bin .sub (.tmp 101) (.tmp 102)⟩,
        ⟨(some 104), none, .bin .add (.tmp 100) (.tmp 103)⟩,
        ⟨(some 105), none, .iaddr 1 (.tmp 97) (.tmp 98)⟩,
        ⟨none, none, .store 1 (.tmp 105) (.tmp 104)⟩])))))))))
     (.reg [⟨(some 106), none, .bin .add (.tmp 34) (.lit (.int .i64 1))⟩,
       ⟨(some 34), none, .mov (.tmp 106)⟩])))))))))
   (.reg [⟨(some 107), none, .bin .add (.tmp 30) (.lit (.int .i64 1))⟩,
     ⟨(some 30), none, .mov (.tmp 107)⟩])))))))
 (.seq (.seq (.reg [⟨(some 108), none, .mov (.tmp 8)⟩,
     ⟨(some 109), none, .len (.tmp 108)⟩,
     ⟨(some 110), none, .mov (.lit (.int .i64 0))⟩])
  (.block 4 (.loop (.seq (.reg [⟨(some 111), none, .bin .lss (.tmp 110) (.tmp 109)⟩])
   (.seq (.cond (.tmp 111) (.skip)
      (.exit 4))
   (.seq (.block 5 (.seq (.reg [⟨(some 112), none, .iaddr 1 (.tmp 108) (.tmp 110)⟩,
       ⟨(some 113), none, .load false 1 (.tmp 112)⟩,
       ⟨(some 15), none, .mov (.tmp 113)⟩])
    (.draw (.step ⟨(some 114), none, .faddr 1 (.tmp 2)⟩ (
      .step ⟨(some 115), none, .load false 1 (.tmp 114)⟩ (
      .step ⟨(some 116), none, .mov (.tmp 15)⟩ (
      .step ⟨(some 117), none, .mov (.tmp 5)⟩ (
      .step ⟨(some 121), none, .mov (.tmp 15)⟩ (
      .step ⟨(some 122), none, .mov (.tmp 5)⟩ (
      .ev ⟨(some 118), none, .call (.tmp 117) [(.lit (.int .i64 2))]⟩ [⟨(some 115), none, .load false 1 (.tmp 114)⟩, ⟨(some 114), none, .faddr 1 (.tmp 2)⟩] (
      .step ⟨(some 119), none, .bin .sub (.tmp 116) (.tmp 118)⟩ (
       .step ⟨(some 120), none, .mxmn true (.lit (.int .i64 0)) [(.tmp 119)]⟩ (
       .ev ⟨(some 123), none, .call (.tmp 122) [(.lit (.int .i64 2))]⟩ [⟨(some 115), none, .load false 1 (.tmp 114)⟩, ⟨(some 114), none, .faddr 1 (.tmp 2)⟩] (
       .step ⟨(some 124), none, .bin .add (.tmp 121) (.tmp 123)⟩ (
        .step ⟨(some 125), none, .mxmn false (.lit (.int .i64 24)) [(.tmp 124)]⟩ (
        .ev ⟨(some 126), none, .call (.fn 42) [(.tmp 120), (.tmp 125)]⟩ [⟨(some 115), none, .load false 1 (.tmp 114)⟩, ⟨(some 114), none, .faddr 1 (.tmp 2)⟩] (
        .ev ⟨(some 127), none, .bslice 2 (.agg #[(.int .i64 0), (.int .i64 0)]) 1 [(0, (.tmp 126))]⟩ [⟨(some 115), none, .load false 1 (.tmp 114)⟩, ⟨(some 114), none, .faddr 1 (.tmp 2)⟩] (
         .ev ⟨(some 128), none, .app 2 16 (.tmp 115) (.tmp 127)⟩ [⟨(some 114), none, .faddr 1 (.tmp 2)⟩] (
          .step ⟨(some 129), none, .faddr 1 (.tmp 2)⟩ (
           .ev ⟨none, none, .store 1 (.tmp 129) (.tmp 128)⟩ [] (
           .done)
           (.stop)))
          (.stop))
         (.stop))
        (.stop))))
       (.stop))))
      (.stop)))))))))))
   (.reg [⟨(some 130), none, .bin .add (.tmp 110) (.lit (.int .i64 1))⟩,
     ⟨(some 110), none, .mov (.tmp 130)⟩])))))))
 (.seq (.seq (.reg [⟨(some 131), none, .mov (.tmp 9)⟩,
     ⟨(some 132), none, .len (.tmp 131)⟩,
     ⟨(some 133), none, .mov (.lit (.int .i64 0))⟩])
  (.block 6 (.loop (.seq (.reg [⟨(some 134), none, .bin .lss (.tmp 133) (.tmp 132)⟩])
   (.seq (.cond (.tmp 134) (.skip)
      (.exit 6))
   (.seq (.block 7 (.seq (.reg [⟨(some 135), none, .iaddr 1 (.tmp 131) (.tmp 133)⟩,
       ⟨(some 136), none, .load false 1 (.tmp 135)⟩,
       ⟨(some 17), none, .mov (.tmp 136)⟩])
    (.draw (.step ⟨(some 137), none, .faddr 2 (.tmp 2)⟩ (
      .step ⟨(some 138), none, .load false 1 (.tmp 137)⟩ (
      .step ⟨(some 139), none, .mov (.tmp 17)⟩ (
      .step ⟨(some 140), none, .mov (.tmp 5)⟩ (
      .step ⟨(some 144), none, .mov (.tmp 17)⟩ (
      .step ⟨(some 145), none, .mov (.tmp 5)⟩ (
      .ev ⟨(some 141), none, .call (.tmp 140) [(.lit (.int .i64 2))]⟩ [⟨(some 138), none, .load false 1 (.tmp 137)⟩, ⟨(some 137), none, .faddr 2 (.tmp 2)⟩] (
      .step ⟨(some 142), none, .bin .sub (.tmp 139) (.tmp 141)⟩ (
       .step ⟨(some 143), none, .mxmn true (.lit (.int .i64 0)) [(.tmp 142)]⟩ (
       .ev ⟨(some 146), none, .call (.tmp 145) [(.lit (.int .i64 2))]⟩ [⟨(some 138), none, .load false 1 (.tmp 137)⟩, ⟨(some 137), none, .faddr 2 (.tmp 2)⟩] (
       .step ⟨(some 147), none, .bin .add (.tmp 144) (.tmp 146)⟩ (
        .step ⟨(some 148), none, .mxmn false (.lit (.int .i64 24)) [(.tmp 147)]⟩ (
        .ev ⟨(some 149), none, .call (.fn 42) [(.tmp 143), (.tmp 148)]⟩ [⟨(some 138), none, .load false 1 (.tmp 137)⟩, ⟨(some 137), none, .faddr 2 (.tmp 2)⟩] (
        .ev ⟨(some 150), none, .bslice 2 (.agg #[(.int .i64 0), (.int .i64 0)]) 1 [(0, (.tmp 149))]⟩ [⟨(some 138), none, .load false 1 (.tmp 137)⟩, ⟨(some 137), none, .faddr 2 (.tmp 2)⟩] (
         .ev ⟨(some 151), none, .app 2 16 (.tmp 138) (.tmp 150)⟩ [⟨(some 137), none, .faddr 2 (.tmp 2)⟩] (
          .step ⟨(some 152), none, .faddr 2 (.tmp 2)⟩ (
           .ev ⟨none, none, .store 1 (.tmp 152) (.tmp 151)⟩ [] (
           .done)
           (.stop)))
          (.stop))
         (.stop))
        (.stop))))
       (.stop))))
      (.stop)))))))))))
   (.reg [⟨(some 153), none, .bin .add (.tmp 133) (.lit (.int .i64 1))⟩,
     ⟨(some 133), none, .mov (.tmp 153)⟩])))))))
 (.seq (.reg [⟨(some 154), none, .load true 3 (.tmp 2)⟩,
    ⟨(some 155), none, .mov (.tmp 3)⟩,
    ⟨none, none, .store 3 (.tmp 2) (.tmp 154)⟩,
    ⟨(some 3), none, .mov (.tmp 155)⟩])
 (.ret)))))))))
theorem k31 : FnC Try.prog 31 156 [2] [] [.cell 2 true 3, .tmp 3] c31 1 := ⟨Try.f31, _, Try.func31, rfl, by decide, rfl, by decide, by kernel_rfl, by kernel_rfl⟩
/-- dipworks/dipworkslaw06.inside -/
def c33 : AC :=
 .seq (.reg [⟨(some 3), none, .box (.tmp 1)⟩,
    ⟨(some 4), none, .mov (.lit (.bool false))⟩])
 (.seq (.reg [⟨(some 5), none, .faddr 0 (.tmp 3)⟩,
    ⟨(some 6), none, .load false 1 (.tmp 5)⟩,
    ⟨(some 7), none, .mov (.tmp 0)⟩,
    ⟨(some 8), none, .bin .leq (.tmp 6) (.tmp 7)⟩,
    ⟨(some 9), none, .mov (.tmp 8)⟩,
    ⟨(some 10), (some (9, true)), .mov (.tmp 0)⟩,
    ⟨(some 11), (some (9, true)), .faddr 1 (.tmp 3)⟩,
    ⟨(some 12), (some (9, true)), .load false 1 (.tmp 11)⟩,
    ⟨(some 13), (some (9, true)), .bin .leq (.tmp 10) (.tmp 12)⟩,
    ⟨(some 14), none, .pick (.tmp 9) (.tmp 13) (.lit (.bool false))⟩,
    ⟨(some 4), none, .mov (.tmp 14)⟩])
 (.ret))
theorem k33 : FnC Try.prog 33 15 [] [] [.tmp 4] c33 2 := ⟨Try.f33, _, Try.func33, rfl, by decide, rfl, by decide, by kernel_rfl, by kernel_rfl⟩
/-- dipworks/dipworkslaw06.keeps -/
def c36 : AC :=
 .seq (.reg [⟨(some 3), none, .box (.tmp 0)⟩,
    ⟨(some 6), none, .alloc [(.slice none 0 0), (.slice none 0 0), (.slice none 0 0)]⟩])
 (.seq (.reg [⟨(some 8), none, .load true 3 (.tmp 3)⟩,
    ⟨(some 7), none, .alloc [(.slice none 0 0), (.slice none 0 0), (.slice none 0 0)]⟩,
    ⟨none, none, .store 3 (.tmp 7) (.tmp 8)⟩])
 (.seq (.reg [⟨(some 9), none, .bslice 6 (.agg #[(.int .i64 0), (.int .i64 0), (.int .i64 0), (.int .i64 0), (.int .i64 0), (.int .i64 0)]) 0 []⟩,
    ⟨(some 10), none, .faddr 0 (.tmp 3)⟩,
    ⟨(some 11), none, .load false 1 (.tmp 10)⟩,
    ⟨(some 12), none, .app 6 48 (.tmp 9) (.tmp 11)⟩,
    ⟨(some 13), none, .faddr 0 (.tmp 7)⟩,
    ⟨none, none, .store 1 (.tmp 13) (.tmp 12)⟩])
 (.seq (.draw (.step ⟨(some 14), none, .faddr 0 (.tmp 7)⟩ (
    .step ⟨(some 15), none, .load false 1 (.tmp 14)⟩ (
    .step ⟨(some 16), none, .mov (.tmp 1)⟩ (
    .step ⟨(some 17), none, .faddr 0 (.tmp 7)⟩ (
    .step ⟨(some 18), none, .load false 1 (.tmp 17)⟩ (
    .step ⟨(some 19), none, .mov (.tmp 1)⟩ (
    .step ⟨(some 20), none, .mov (.tmp 2)⟩ (
    .step ⟨(some 21), none, .mov (.tmp 2)⟩ (
    .ev ⟨(some 22), none, .call (.fn 42) [(.tmp 20), (.tmp 21)]⟩ [⟨(some 18), none, .load false 1 (.tmp 17)⟩, ⟨(some 17), none, .faddr 0 (.tmp 7)⟩, ⟨(some 15), none, .load false 1 (.tmp 14)⟩, ⟨(some 14), none, .faddr 0 (.tmp 7)⟩] (
    .ev ⟨(some 23), none, .call (.fn 42) [(.lit (.int .i64 0)), (.lit (.int .i64 0))]⟩ [⟨(some 18), none, .load false 1 (.tmp 17)⟩, ⟨(some 17), none, .faddr 0 (.tmp 7)⟩, ⟨(some 15), none, .load false 1 (.tmp 14)⟩, ⟨(some 14), none, .faddr 0 (.tmp 7)⟩] (
     .step ⟨(some 24), none, .iaddr 6 (.tmp 15) (.tmp 16)⟩ (
      .step ⟨(some 25), none, .faddr 2 (.tmp 24)⟩ (
      .ev ⟨none, none, .store 2 (.tmp 25) (.tmp 22)⟩ [⟨(some 24), none, .iaddr 6 (.tmp 15) (.tmp 16)⟩, ⟨(some 18), none, .load false 1 (.tmp 17)⟩, ⟨(some 17), none, .faddr 0 (.tmp 7)⟩] (
      .step ⟨(some 26), none, .iaddr 6 (.tmp 18) (.tmp 19)⟩ (
       .step ⟨(some 27), none, .faddr 4 (.tmp 26)⟩ (
       .ev ⟨none, none, .store 2 (.tmp 27) (.tmp 23)⟩ [⟨(some 26), none, .iaddr 6 (.tmp 18) (.tmp 19)⟩] (
       .done)
       (.stop))))
      (.stop))))
     (.stop))
    (.stop)))))))))))
 (.seq (.reg [⟨(some 28), none, .load true 3 (.tmp 7)⟩,
    ⟨none, none, .store 3 (.tmp 6) (.tmp 28)⟩])
 (.ret)))))
theorem k36 : FnC Try.prog 36 29 [6] [] [.cell 6 true 3] c36 3 := ⟨Try.f36, _, Try.func36, rfl, by decide, rfl, by decide, by kernel_rfl, by kernel_rfl⟩
/-- dipworks/dipworkslaw06.fine -/
def c37 : AC :=
 .seq (.reg [⟨(some 1), none, .box (.tmp 0)⟩,
    ⟨(some 2), none, .mov (.lit (.bool false))⟩])
 (.seq (.reg [⟨(some 3), none, .load true 3 (.tmp 1)⟩,
    ⟨(some 4), none, .call (.fn 34) [(.tmp 3)]⟩,
    ⟨(some 5), none, .un .not (.tmp 4)⟩,
    ⟨(some 6), none, .mov (.tmp 5)⟩,
    ⟨(some 7), (some (6, true)), .load true 3 (.tmp 1)⟩,
    ⟨(some 8), (some (6, true)), .call (.fn 35) [(.tmp 7)]⟩,
    ⟨(some 9), none, .pick (.tmp 6) (.tmp 8) (.lit (.bool false))⟩,
    ⟨(some 2), none, .mov (.tmp 9)⟩])
 (.ret))
theorem k37 : FnC Try.prog 37 10 [] [] [.tmp 2] c37 1 := ⟨Try.f37, _, Try.func37, rfl, by decide, rfl, by decide, by kernel_rfl, by kernel_rfl⟩
/-- dipworks/dipworkslaw06.TowelFewest$1 -/
def c38 : AC :=
 .seq (.reg [⟨(some 3), none, .mov (.lit (.bool false))⟩])
 (.seq (.reg [⟨(some 9), none, .load true 3 (.tmp 1)⟩,
    ⟨(some 10), none, .mov (.tmp 0)⟩,
    ⟨(some 11), none, .call (.fn 39) [(.tmp 9), (.tmp 10)]⟩,
    ⟨(some 8), none, .mov (.tmp 11)⟩,
    ⟨(some 12), none, .ext (.tmp 8) 0⟩,
    ⟨(some 13), none, .ext (.tmp 8) 1⟩,
    ⟨(some 4), none, .alloc [(.slice none 0 0), (.slice none 0 0), (.slice none 0 0)]⟩,
    ⟨none, none, .store 3 (.tmp 4) (.tmp 12)⟩,
    ⟨(some 5), none, .mov (.tmp 13)⟩])
 (.seq (.reg [⟨(some 15), none, .load true 3 (.tmp 4)⟩,
    ⟨(some 16), none, .call (.fn 23) [(.tmp 15)]⟩,
    ⟨(some 14), none, .mov (.tmp 16)⟩,
    ⟨(some 17), none, .ext (.tmp 14) 0⟩,
    ⟨(some 18), none, .ext (.tmp 14) 1⟩,
    ⟨(some 6), none, .mov (.tmp 17)⟩,
    ⟨(some 7), none, .mov (.tmp 18)⟩])
 (.seq (.reg [⟨(some 19), none, .mov (.tmp 5)⟩,
    ⟨(some 20), none, .mov (.tmp 19)⟩,
    ⟨(some 21), (some (20, true)), .mov (.tmp 7)⟩,
    ⟨(some 22), (some (20, true)), .bin .eql (.tmp 21) (.lit (.int .i64 0))⟩,
    ⟨(some 23), none, .pick (.tmp 20) (.tmp 22) (.lit (.bool false))⟩,
    ⟨(some 24), none, .mov (.tmp 23)⟩,
    ⟨(some 25), (some (24, true)), .mov (.tmp 6)⟩,
    ⟨(some 26), (some (24, true)), .bin .gtr (.tmp 25) (.lit (.int .i64 0))⟩,
    ⟨(some 27), none, .pick (.tmp 24) (.tmp 26) (.lit (.bool false))⟩,
    ⟨(some 3), none, .mov (.tmp 27)⟩])
 (.ret))))
theorem k38 : FnC Try.prog 38 28 [] [] [.tmp 3] c38 2 := ⟨Try.f38, _, Try.func38, rfl, by decide, rfl, by decide, by kernel_rfl, by kernel_rfl⟩
/-- dipworks/dipworkslaw06.none -/
def c39 : AC :=
 .seq (.reg [⟨(some 2), none, .box (.tmp 0)⟩,
    ⟨(some 4), none, .alloc [(.slice none 0 0), (.slice none 0 0), (.slice none 0 0)]⟩,
    ⟨(some 5), none, .mov (.lit (.bool false))⟩])
 (.seq (.reg [⟨(some 10), none, .load true 3 (.tmp 2)⟩,
    ⟨(some 6), none, .alloc [(.slice none 0 0), (.slice none 0 0), (.slice none 0 0)]⟩,
    ⟨none, none, .store 3 (.tmp 6) (.tmp 10)⟩,
    ⟨(some 7), none, .mov (.lit (.bool true))⟩])
 (.seq (.reg [⟨(some 11), none, .bslice 6 (.agg #[(.int .i64 0), (.int .i64 0), (.int .i64 0), (.int .i64 0), (.int .i64 0), (.int .i64 0)]) 0 []⟩,
    ⟨(some 12), none, .faddr 0 (.tmp 2)⟩,
    ⟨(some 13), none, .load false 1 (.tmp 12)⟩,
    ⟨(some 14), none, .app 6 48 (.tmp 11) (.tmp 13)⟩,
    ⟨(some 15), none, .faddr 0 (.tmp 6)⟩,
    ⟨none, none, .store 1 (.tmp 15) (.tmp 14)⟩])
 (.seq (.seq (.reg [⟨(some 16), none, .faddr 0 (.tmp 6)⟩,
     ⟨(some 17), none, .load false 1 (.tmp 16)⟩,
     ⟨(some 18), none, .len (.tmp 17)⟩,
     ⟨(some 19), none, .mov (.lit (.int .i64 0))⟩])
  (.block 0 (.loop (.seq (.reg [⟨(some 20), none, .bin .lss (.tmp 19) (.tmp 18)⟩])
   (.seq (.cond (.tmp 20) (.skip)
      (.exit 0))
   (.seq (.block 1 (.seq (.reg [⟨(some 21), none, .mov (.tmp 19)⟩,
       ⟨(some 22), none, .iaddr 6 (.tmp 17) (.tmp 19)⟩,
       ⟨(some 23), none, .load true 6 (.tmp 22)⟩,
       ⟨(some 9), none, .alloc [(.int .i64 0), (.int .i64 0), (.int .i64 0), (.int .i64 0), (.int .i64 0), (.int .i64 0)]⟩,
       ⟨(some 8), none, .mov (.tmp 21)⟩,
       ⟨none, none, .store 6 (.tmp 9) (.tmp 23)⟩])
    (.seq (.reg [⟨(some 24), none, .mov (.tmp 1)⟩,
       ⟨(some 25), none, .mov (.tmp 8)⟩,
       ⟨(some 26), none, .bin .shr (.tmp 24) (.tmp 25)⟩,
       ⟨(some 27), none, .bin .and (.tmp 26) (.lit (.int .i64 1))⟩,
       ⟨(some 28), none, .bin .eql (.tmp 27) (.lit (.int .i64 0))⟩])
    (.cond (.tmp 28) (.seq (.reg [⟨(some 29), none, .mov (.tmp 7)⟩,
        ⟨(some 30), none, .mov (.tmp 29)⟩,
        ⟨(some 31), (some (30, true)), .faddr 2 (.tmp 9)⟩,
        ⟨(some 32), (some (30, true)), .faddr 0 (.tmp 31)⟩,
        ⟨(some 33), (some (30, true)), .load false 1 (.tmp 32)⟩,
        ⟨(some 34), (some (30, true)), .faddr 4 (.tmp 9)⟩,
        ⟨(some 35), (some (30, true)), .faddr 1 (.tmp 34)⟩,
        ⟨(some 36), (some (30, true)), .load false 1 (.tmp 35)⟩,
        ⟨(some 37), (some (30, true)), .bin .leq (.tmp 33) (.tmp 36)⟩,
        ⟨(some 38), none, .pick (.tmp 30) (.tmp 37) (.lit (.bool false))⟩,
        ⟨(some 7), none, .mov (.tmp 38)⟩])
     (.draw (.step ⟨(some 39), none, .faddr 0 (.tmp 6)⟩ (
       .step ⟨(some 40), none, .load false 1 (.tmp 39)⟩ (
       .step ⟨(some 41), none, .mov (.tmp 8)⟩ (
       .step ⟨(some 42), none, .faddr 0 (.tmp 6)⟩ (
       .step ⟨(some 43), none, .load false 1 (.tmp 42)⟩ (
       .step ⟨(some 44), none, .mov (.tmp 8)⟩ (
       .ev ⟨(some 45), none, .call (.fn 42) [(.lit (.int .i64 0)), (.lit (.int .i64 0))]⟩ [⟨(some 43), none, .load false 1 (.tmp 42)⟩, ⟨(some 42), none, .faddr 0 (.tmp 6)⟩, ⟨(some 40), none, .load false 1 (.tmp 39)⟩, ⟨(some 39), none, .faddr 0 (.tmp 6)⟩] (
       .ev ⟨(some 46), none, .call (.fn 42) [(.lit (.int .i64 0)), (.lit (.int .i64 0))]⟩ [⟨(some 43), none, .load false 1 (.tmp 42)⟩, ⟨(some 42), none, .faddr 0 (.tmp 6)⟩, ⟨(some 40), none, .load false 1 (.tmp 39)⟩, ⟨(some 39), none, .faddr 0 (.tmp 6)⟩] (
        .step ⟨(some 47), none, .iaddr 6 (.tmp 40) (.tmp 41)⟩ (
         .step ⟨(some 48), none, .faddr 2 (.tmp 47)⟩ (
         .ev ⟨none, none, .store 2 (.tmp 48) (.tmp 45)⟩ [⟨(some 47), none, .iaddr 6 (.tmp 40) (.tmp 41)⟩, ⟨(some 43), none, .load false 1 (.tmp 42)⟩, ⟨(some 42), none, .faddr 0 (.tmp 6)⟩] (
         .step ⟨(some 49), none, .iaddr 6 (.tmp 43) (.tmp 44)⟩ (
          .step ⟨(some 50), none, .faddr 4 (.tmp 49)⟩ (
          .ev ⟨none, none, .store 2 (.tmp 50) (.tmp 46)⟩ [⟨(some 49), none, .iaddr 6 (.tmp 43) (.tmp 44)⟩] (
          .done)
          (.stop))))
         (.stop))))
        (.stop))
       (.stop))))))))))
      (.skip)))))
   (.reg [⟨(some 51), none, .bin .add (.tmp 19) (.lit (.int .i64 1))⟩,
     ⟨(some 19), none, .mov (.tmp 51)⟩])))))))
 (.seq (.reg [⟨(some 52), none, .load true 3 (.tmp 6)⟩,
    ⟨(some 53), none, .mov (.tmp 7)⟩,
    ⟨none, none, .store 3 (.tmp 4) (.tmp 52)⟩,
    ⟨(some 5), none, .mov (.tmp 53)⟩])
 (.ret)))))
theorem k39 : FnC Try.prog 39 54 [4] [] [.cell 4 true 3, .tmp 5] c39 2 := ⟨Try.f39, _, Try.func39, rfl, by decide, rfl, by decide, by kernel_rfl, by kernel_rfl⟩
/-- dipworks/dipworkslaw06.most -/
def c40 : AC :=
 .seq (.reg [⟨(some 2), none, .box (.tmp 0)⟩,
    ⟨(some 4), none, .mov (.lit (.int .i64 0))⟩])
 (.seq (.reg [⟨(some 12), none, .load true 3 (.tmp 2)⟩,
    ⟨(some 13), none, .mov (.tmp 1)⟩,
    ⟨(some 14), none, .call (.fn 15) [(.tmp 12), (.tmp 13)]⟩,
    ⟨(some 11), none, .mov (.tmp 14)⟩,
    ⟨(some 15), none, .ext (.tmp 11) 0⟩,
    ⟨(some 16), none, .ext (.tmp 11) 1⟩,
    ⟨(some 5), none, .alloc [(.int .i64 0), (.int .i64 0)]⟩,
    ⟨none, none, .store 2 (.tmp 5) (.tmp 15)⟩,
    ⟨(some 6), none, .mov (.tmp 16)⟩])
 (.seq (.reg [⟨(some 7), none, .mov (.lit (.int .i64 (-1)))⟩])
 (.seq (.seq (.reg [⟨(some 17), none, .faddr 0 (.tmp 5)⟩,
     ⟨(some 18), none, .load false 1 (.tmp 17)⟩,
     ⟨(some 8), none, .mov (.tmp 18)⟩])
  (.block 0 (.loop (.seq (.seq (.reg [⟨(some 19), none, .mov (.tmp 8)⟩,
       ⟨(some 20), none, .faddr 1 (.tmp 5)⟩,
       ⟨(some 21), none, .load false 1 (.tmp 20)⟩,
       ⟨(some 22), none, .bin .leq (.tmp 19) (.tmp 21)⟩,
       ⟨(some 23), none, .mov (.tmp 22)⟩,
       ⟨(some 24), (some (23, true)), .mov (.tmp 6)⟩,
       ⟨(some 25), (some (23, true)), .bin .eql (.tmp 24) (.lit (.int .i64 0))⟩,
       ⟨(some 26), none, .pick (.tmp 23) (.tmp 25) (.lit (.bool false))⟩])
    (.cond (.tmp 26) (.skip)
      (.exit 0)))
   (.seq (.block 1 (.seq (.reg [⟨(some 30), none, .load true 3 (.tmp 2)⟩,
       ⟨(some 31), none, .mov (.tmp 1)⟩,
       ⟨(some 32), none, .mov (.tmp 8)⟩,
       ⟨(some 33), none, .call (.fn 36) [(.tmp 30), (.tmp 31), (.tmp 32)]⟩,
       ⟨(some 34), none, .call (.fn 23) [(.tmp 33)]⟩,
       ⟨(some 29), none, .mov (.tmp 34)⟩,
       ⟨(some 35), none, .ext (.tmp 29) 0⟩,
       ⟨(some 36), none, .ext (.tmp 29) 1⟩,
       ⟨(some 9), none, .mov (.tmp 35)⟩,
       ⟨(some 10), none, .mov (.tmp 36)⟩])
    (.seq (.seq (.reg [⟨(some 37), none, .mov (.tmp 10)⟩,
        ⟨(some 38), none, .bin .neq (.tmp 37) (.lit (.int .i64 0))⟩])
     (.cond (.tmp 38) (.seq (.reg [⟨(some 4), none, .mov (.lit (.int .i64 (-1)))⟩])
      (.ret))
       (.skip)))
    (.reg [⟨(some 39), none, .mov (.tmp 7)⟩,
      ⟨(some 40), none, .mov (.tmp 9)⟩,
      ⟨(some 41), none, .mxmn true (.tmp 39) [(.tmp 40)]⟩,
      ⟨(some 7), none, .mov (.tmp 41)⟩]))))
   (.reg [⟨(some 27), none, .mov (.tmp 8)⟩,
     ⟨(some 28), none, .bin .add (.tmp 27) (.lit (.int .i64 1))⟩,
     ⟨(some 8), none, .mov (.tmp 28)⟩]))))))
 (.seq (.reg [⟨(some 42), none, .mov (.tmp 7)⟩,
    ⟨(some 4), none, .mov (.tmp 42)⟩])
 (.ret)))))
theorem k40 : FnC Try.prog 40 43 [] [] [.tmp 4] c40 2 := ⟨Try.f40, _, Try.func40, rfl, by decide, rfl, by decide, by kernel_rfl, by kernel_rfl⟩
/-- dipworks/dipworkslaw06.TowelClash$1 -/
def c41 : AC :=
 .seq (.reg [⟨(some 5), none, .mov (.lit (.bool false))⟩])
 (.seq (.reg [⟨(some 11), none, .load true 3 (.tmp 2)⟩,
    ⟨(some 6), none, .alloc [(.slice none 0 0), (.slice none 0 0), (.slice none 0 0)]⟩,
    ⟨none, none, .store 3 (.tmp 6) (.tmp 11)⟩])
 (.seq (.draw (.step ⟨(some 13), none, .faddr 1 (.tmp 2)⟩ (
    .step ⟨(some 14), none, .load false 1 (.tmp 13)⟩ (
    .step ⟨(some 17), none, .faddr 2 (.tmp 2)⟩ (
    .step ⟨(some 18), none, .load false 1 (.tmp 17)⟩ (
    .ev ⟨(some 12), none, .bslice 2 (.agg #[(.int .i64 0), (.int .i64 0)]) 0 []⟩ [⟨(some 18), none, .load false 1 (.tmp 17)⟩, ⟨(some 17), none, .faddr 2 (.tmp 2)⟩, ⟨(some 14), none, .load false 1 (.tmp 13)⟩, ⟨(some 13), none, .faddr 1 (.tmp 2)⟩] (
    .ev ⟨(some 15), none, .app 2 16 (.tmp 12) (.tmp 14)⟩ [⟨(some 18), none, .load false 1 (.tmp 17)⟩, ⟨(some 17), none, .faddr 2 (.tmp 2)⟩, ⟨(some 13), none, .faddr 1 (.tmp 2)⟩] (
     .step ⟨(some 20), none, .faddr 1 (.tmp 6)⟩ (
      .ev ⟨(some 16), none, .bslice 2 (.agg #[(.int .i64 0), (.int .i64 0)]) 0 []⟩ [⟨(some 20), none, .faddr 1 (.tmp 6)⟩, ⟨(some 18), none, .load false 1 (.tmp 17)⟩, ⟨(some 17), none, .faddr 2 (.tmp 2)⟩, ⟨(some 14), none, .load false 1 (.tmp 13)⟩, ⟨(some 13), none, .faddr 1 (.tmp 2)⟩] (
      .ev ⟨(some 19), none, .app 2 16 (.tmp 16) (.tmp 18)⟩ [⟨(some 20), none, .faddr 1 (.tmp 6)⟩, ⟨(some 17), none, .faddr 2 (.tmp 2)⟩, ⟨(some 14), none, .load false 1 (.tmp 13)⟩, ⟨(some 13), none, .faddr 1 (.tmp 2)⟩] (
       .ev ⟨none, none, .store 1 (.tmp 20) (.tmp 15)⟩ [⟨(some 18), none, .load false 1 (.tmp 17)⟩, ⟨(some 17), none, .faddr 2 (.tmp 2)⟩] (
        .step ⟨(some 21), none, .faddr 2 (.tmp 6)⟩ (
         .ev ⟨none, none, .store 1 (.tmp 21) (.tmp 19)⟩ [] (
         .done)
         (.stop)))
        (.stop))
       (.stop))
      (.stop)))
     (.ev ⟨(some 16), none, .bslice 2 (.agg #[(.int .i64 0), (.int .i64 0)]) 0 []⟩ [⟨(some 18), none, .load false 1 (.tmp 17)⟩, ⟨(some 17), none, .faddr 2 (.tmp 2)⟩, ⟨(some 14), none, .load false 1 (.tmp 13)⟩, ⟨(some 13), none, .faddr 1 (.tmp 2)⟩] (
     .ev ⟨(some 15), none, .app 2 16 (.tmp 12) (.tmp 14)⟩ [⟨(some 18), none, .load false 1 (.tmp 17)⟩, ⟨(some 17), none, .faddr 2 (.tmp 2)⟩, ⟨(some 13), none, .faddr 1 (.tmp 2)⟩] (
      .step ⟨(some 20), none, .faddr 1 (.tmp 6)⟩ (
       .ev ⟨(some 19), none, .app 2 16 (.tmp 16) (.tmp 18)⟩ [⟨(some 20), none, .faddr 1 (.tmp 6)⟩, ⟨(some 17), none, .faddr 2 (.tmp 2)⟩, ⟨(some 14), none, .load false 1 (.tmp 13)⟩, ⟨(some 13), none, .faddr 1 (.tmp 2)⟩] (
       .ev ⟨none, none, .store 1 (.tmp 20) (.tmp 15)⟩ [⟨(some 18), none, .load false 1 (.tmp 17)⟩, ⟨(some 17), none, .faddr 2 (.tmp 2)⟩] (
        .step ⟨(some 21), none, .faddr 2 (.tmp 6)⟩ (
         .ev ⟨none, none, .store 1 (.tmp 21) (.tmp 19)⟩ [] (
         .done)
         (.stop)))
        (.stop))
       (.stop)))
      (.stop))
     (.stop)))
    (.ev ⟨(some 16), none, .bslice 2 (.agg #[(.int .i64 0), (.int .i64 0)]) 0 []⟩ [⟨(some 18), none, .load false 1 (.tmp 17)⟩, ⟨(some 17), none, .faddr 2 (.tmp 2)⟩, ⟨(some 14), none, .load false 1 (.tmp 13)⟩, ⟨(some 13), none, .faddr 1 (.tmp 2)⟩] (
    .ev ⟨(some 12), none, .bslice 2 (.agg #[(.int .i64 0), (.int .i64 0)]) 0 []⟩ [⟨(some 18), none, .load false 1 (.tmp 17)⟩, ⟨(some 17), none, .faddr 2 (.tmp 2)⟩, ⟨(some 14), none, .load false 1 (.tmp 13)⟩, ⟨(some 13), none, .faddr 1 (.tmp 2)⟩] (
     .ev ⟨(some 15), none, .app 2 16 (.tmp 12) (.tmp 14)⟩ [⟨(some 18), none, .load false 1 (.tmp 17)⟩, ⟨(some 17), none, .faddr 2 (.tmp 2)⟩, ⟨(some 13), none, .faddr 1 (.tmp 2)⟩] (
      .step ⟨(some 20), none, .faddr 1 (.tmp 6)⟩ (
       .ev ⟨(some 19), none, .app 2 16 (.tmp 16) (.tmp 18)⟩ [⟨(some 20), none, .faddr 1 (.tmp 6)⟩, ⟨(some 17), none, .faddr 2 (.tmp 2)⟩, ⟨(some 14), none, .load false 1 (.tmp 13)⟩, ⟨(some 13), none, .faddr 1 (.tmp 2)⟩] (
       .ev ⟨none, none, .store 1 (.tmp 20) (.tmp 15)⟩ [⟨(some 18), none, .load false 1 (.tmp 17)⟩, ⟨(some 17), none, .faddr 2 (.tmp 2)⟩] (
        .step ⟨(some 21), none, .faddr 2 (.tmp 6)⟩ (
         .ev ⟨none, none, .store 1 (.tmp 21) (.tmp 19)⟩ [] (
         .done)
         (.stop)))
        (.stop))
       (.stop)))
      (.stop))
     (.stop))
    (.stop))))))))
 (.seq (.seq (.reg [⟨(some 22), none, .faddr 1 (.tmp 6)⟩,
     ⟨(some 23), none, .load false 1 (.tmp 22)⟩,
     ⟨(some 24), none, .len (.tmp 23)⟩,
     ⟨(some 25), none, .mov (.lit (.int .i64 0))⟩])
  (.block 0 (.loop (.seq (.reg [⟨(some 26), none, .bin .lss (.tmp 25) (.tmp 24)⟩])
   (.seq (.cond (.tmp 26) (.skip)
      (.exit 0))
   (.seq (.block 1 (.seq (.reg [⟨(some 27), none, .mov (.tmp 25)⟩,
       ⟨(some 7), none, .mov (.tmp 27)⟩])
    (.seq (.reg [⟨(some 28), none, .mov (.tmp 0)⟩,
       ⟨(some 29), none, .mov (.tmp 7)⟩,
       ⟨(some 30), none, .bin .shr (.tmp 28) (.tmp 29)⟩,
       ⟨(some 31), none, .bin .and (.tmp 30) (.lit (.int .i64 1))⟩,
       ⟨(some 32), none, .bin .eql (.tmp 31) (.lit (.int .i64 0))⟩])
    (.cond (.tmp 32) (.draw (.step ⟨(some 33), none, .faddr 1 (.tmp 6)⟩ (
       .step ⟨(some 34), none, .load false 1 (.tmp 33)⟩ (
       .step ⟨(some 35), none, .mov (.tmp 7)⟩ (
       .ev ⟨(some 36), none, .call (.fn 42) [(.lit (.int .i64 0)), (.lit (.int .i64 24))]⟩ [⟨(some 34), none, .load false 1 (.tmp 33)⟩, ⟨(some 33), none, .faddr 1 (.tmp 6)⟩] (
       .step ⟨(some 37), none, .iaddr 2 (.tmp 34) (.tmp 35)⟩ (
        .ev ⟨none, none, .store 2 (.tmp 37) (.tmp 36)⟩ [] (
        .done)
        (.stop)))
       (.stop))))))
      (.skip)))))
   (.reg [⟨(some 38), none, .bin .add (.tmp 25) (.lit (.int .i64 1))⟩,
     ⟨(some 25), none, .mov (.tmp 38)⟩])))))))
 (.seq (.seq (.reg [⟨(some 39), none, .faddr 2 (.tmp 6)⟩,
     ⟨(some 40), none, .load false 1 (.tmp 39)⟩,
     ⟨(some 41), none, .len (.tmp 40)⟩,
     ⟨(some 42), none, .mov (.lit (.int .i64 0))⟩])
  (.block 2 (.loop (.seq (.reg [⟨(some 43), none, .bin .lss (.tmp 42) (.tmp 41)⟩])
   (.seq (.cond (.tmp 43) (.skip)
      (.exit 2))
   (.seq (.block 3 (.seq (.reg [⟨(some 44), none, .mov (.tmp 42)⟩,
       ⟨(some 8), none, .mov (.tmp 44)⟩])
    (.seq (.reg [⟨(some 45), none, .mov (.tmp 1)⟩,
       ⟨(some 46), none, .mov (.tmp 8)⟩,
       ⟨(some 47), none, .bin .shr (.tmp 45) (.tmp 46)⟩,
       ⟨(some 48), none, .bin .and (.tmp 47) (.lit (.int .i64 1))⟩,
       ⟨(some 49), none, .bin .eql (.tmp 48) (.lit (.int .i64 0))⟩])
    (.cond (.tmp 49) (.draw (.step ⟨(some 50), none, .faddr 2 (.tmp 6)⟩ (
       .step ⟨(some 51), none, .load false 1 (.tmp 50)⟩ (
       .step ⟨(some 52), none, .mov (.tmp 8)⟩ (
       .ev ⟨(some 53), none, .call (.fn 42) [(.lit (.int .i64 0)), (.lit (.int .i64 24))]⟩ [⟨(some 51), none, .load false 1 (.tmp 50)⟩, ⟨(some 50), none, .faddr 2 (.tmp 6)⟩] (
       .step ⟨(some 54), none, .iaddr 2 (.tmp 51) (.tmp 52)⟩ (
        .ev ⟨none, none, .store 2 (.tmp 54) (.tmp 53)⟩ [] (
        .done)
        (.stop)))
       (.stop))))))
      (.skip)))))
   (.reg [⟨(some 55), none, .bin .add (.tmp 42) (.lit (.int .i64 1))⟩,
     ⟨(some 42), none, .mov (.tmp 55)⟩])))))))
 (.seq (.reg [⟨(some 57), none, .load true 3 (.tmp 6)⟩,
    ⟨(some 58), none, .call (.fn 23) [(.tmp 57)]⟩,
    ⟨(some 56), none, .mov (.tmp 58)⟩,
    ⟨(some 59), none, .ext (.tmp 56) 0⟩,
    ⟨(some 60), none, .ext (.tmp 56) 1⟩,
    ⟨(some 9), none, .mov (.tmp 59)⟩,
    ⟨(some 10), none, .mov (.tmp 60)⟩])
 (.seq (.reg [⟨(some 61), none, .mov (.tmp 10)⟩,
    ⟨(some 62), none, .bin .eql (.tmp 61) (.lit (.int .i64 0))⟩,
    ⟨(some 63), none, .mov (.tmp 62)⟩,
    ⟨(some 64), (some (63, true)), .mov (.tmp 9)⟩,
    ⟨(some 65), (some (63, true)), .bin .eql (.tmp 64) (.lit (.int .i64 0))⟩,
    ⟨(some 66), none, .pick (.tmp 63) (.tmp 65) (.lit (.bool false))⟩,
    ⟨(some 5), none, .mov (.tmp 66)⟩])
 (.ret)))))))
theorem k41 : FnC Try.prog 41 67 [] [] [.tmp 5] c41 3 := ⟨Try.f41, _, Try.func41, rfl, by decide, rfl, by decide, by kernel_rfl, by kernel_rfl⟩
/-- dipworks/dipworkslaw06.TowelMore$1 -/
def c43 : AC :=
 .seq (.reg [⟨(some 2), none, .box (.tmp 0)⟩,
    ⟨(some 3), none, .box (.tmp 1)⟩,
    ⟨(some 4), none, .mov (.lit (.bool false))⟩])
 (.seq (.reg [⟨(some 5), none, .faddr 0 (.tmp 2)⟩,
    ⟨(some 6), none, .load false 1 (.tmp 5)⟩,
    ⟨(some 7), none, .faddr 0 (.tmp 3)⟩,
    ⟨(some 8), none, .load false 1 (.tmp 7)⟩,
    ⟨(some 9), none, .bin .geq (.tmp 6) (.tmp 8)⟩,
    ⟨(some 10), none, .mov (.tmp 9)⟩,
    ⟨(some 11), (some (10, true)), .faddr 1 (.tmp 2)⟩,
    ⟨(some 12), (some (10, true)), .load false 1 (.tmp 11)⟩,
    ⟨(some 13), (some (10, true)), .faddr 1 (.tmp 3)⟩,
    ⟨(some 14), (some (10, true)), .load false 1 (.tmp 13)⟩,
    ⟨(some 15), (some (10, true)), .bin .leq (.tmp 12) (.tmp 14)⟩,
    ⟨(some 16), none, .pick (.tmp 10) (.tmp 15) (.lit (.bool false))⟩,
    ⟨(some 4), none, .mov (.tmp 16)⟩])
 (.ret))
theorem k43 : FnC Try.prog 43 17 [] [] [.tmp 4] c43 2 := ⟨Try.f43, _, Try.func43, rfl, by decide, rfl, by decide, by kernel_rfl, by kernel_rfl⟩
/-- dipworks/dipworkslaw06.made$1 -/
def c76 : AC :=
 .seq (.reg [⟨(some 4), none, .mov (.lit (.int .i64 0))⟩])
 (.seq (.reg [⟨(some 5), none, .load false 1 (.tmp 1)⟩,
    ⟨(some 6), none, .bin .add (.tmp 5) (.lit (.int .i64 1))⟩,
    ⟨none, none, .store 1 (.tmp 1) (.tmp 6)⟩])
 (.seq (.seq (.reg [⟨(some 7), none, .load false 1 (.tmp 2)⟩,
     ⟨(some 8), none, .len (.tmp 7)⟩,
     ⟨(some 9), none, .bin .eql (.tmp 8) (.lit (.int .i64 0))⟩])
  (.cond (.tmp 9) (.seq (.reg [⟨(some 10), none, .load false 1 (.tmp 1)⟩,
      ⟨(some 11), none, .mov (.tmp 0)⟩,
      ⟨(some 12), none, .bin .rem (.tmp 10) (.tmp 11)⟩,
      ⟨(some 4), none, .mov (.tmp 12)⟩])
   (.ret))
    (.skip)))
 (.seq (.draw (.step ⟨(some 13), none, .load false 1 (.tmp 2)⟩ (
    .step ⟨(some 14), none, .load false 1 (.tmp 1)⟩ (
    .step ⟨(some 15), none, .load false 1 (.tmp 2)⟩ (
    .step ⟨(some 16), none, .len (.tmp 15)⟩ (
    .step ⟨(some 17), none, .bin .rem (.tmp 14) (.tmp 16)⟩ (
    .step ⟨(some 18), none, .iaddr 1 (.tmp 13) (.tmp 17)⟩ (
    .step ⟨(some 19), none, .load false 1 (.tmp 18)⟩ (
    .step ⟨(some 20), none, .conv .i64 (.tmp 19)⟩ (
    .step ⟨(some 21), none, .load false 1 (.tmp 1)⟩ (
    .step ⟨(some 22), none, .bin .mul (.lit (.int .i64 53)) (.tmp 21)⟩ (
    .step ⟨(some 23), none, .bin .add (.tmp 20) (.tmp 22)⟩ (
    .step ⟨(some 24), none, .mov (.tmp 0)⟩ (
    .step ⟨(some 25), none, .bin .rem (.tmp 23) (.tmp 24)⟩ (
    .step ⟨(some 4), none, .mov (.tmp 25)⟩ (
    .done))))))))))))))))
 (.ret))))
theorem k76 : FnC Try.prog 76 26 [] [] [.tmp 4] c76 3 := ⟨Try.f76, _, Try.func76, rfl, by decide, rfl, by decide, by kernel_rfl, by kernel_rfl⟩
end Go.Proofs.Yticdacdflemoiaa
