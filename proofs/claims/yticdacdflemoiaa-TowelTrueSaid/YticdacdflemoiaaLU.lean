/- Proved here: laws that the statements need (TwC56, TwXB, TwXC, TwXD). No conditions but those that each law states. -/
import Derived.Test.YticdacdflemoiaaLF
import Derived.Test.YticdacdflemoiaaFL
import Derived.Test.YticdacdflemoiaaLO

set_option linter.unusedSimpArgs false
set_option linter.unusedVariables false

/- Compiled code of functions, printed by program; each is checked to be the program's. No conditions. -/
namespace Go.Proofs.Yticdacdflemoiaa
open Go Go.Ab
def c6 : AC :=
 .seq (.reg [⟨(some 2), none, .mov (.lit (.bool false))⟩])
 (.seq (.reg [⟨(some 27), none, .mov (.tmp 0)⟩,
    ⟨(some 28), none, .call (.fn 31) [(.tmp 27)]⟩,
    ⟨(some 26), none, .mov (.tmp 28)⟩,
    ⟨(some 29), none, .ext (.tmp 26) 0⟩,
    ⟨(some 30), none, .ext (.tmp 26) 1⟩,
    ⟨(some 3), none, .alloc [(.slice none 0 0), (.slice none 0 0), (.slice none 0 0)]⟩,
    ⟨none, none, .store 3 (.tmp 3) (.tmp 29)⟩,
    ⟨(some 4), none, .mov (.tmp 30)⟩])
 (.seq (.reg [⟨(some 32), none, .load true 3 (.tmp 3)⟩,
    ⟨(some 33), none, .call (.fn 19) [(.tmp 32)]⟩,
    ⟨(some 31), none, .mov (.tmp 33)⟩,
    ⟨(some 34), none, .ext (.tmp 31) 0⟩,
    ⟨(some 35), none, .ext (.tmp 31) 1⟩,
    ⟨(some 36), none, .ext (.tmp 31) 2⟩,
    ⟨(some 5), none, .mov (.tmp 34)⟩,
    ⟨(some 6), none, .mov (.tmp 35)⟩,
    ⟨(some 7), none, .mov (.tmp 36)⟩])
 (.seq (.reg [⟨(some 38), none, .load true 3 (.tmp 3)⟩,
    ⟨(some 39), none, .call (.fn 21) [(.tmp 38)]⟩,
    ⟨(some 37), none, .mov (.tmp 39)⟩,
    ⟨(some 40), none, .ext (.tmp 37) 0⟩,
    ⟨(some 41), none, .ext (.tmp 37) 1⟩,
    ⟨(some 8), none, .alloc [(.int .i64 0), (.int .i64 0)]⟩,
    ⟨none, none, .store 2 (.tmp 8) (.tmp 40)⟩,
    ⟨(some 9), none, .mov (.tmp 41)⟩])
 (.seq (.reg [⟨(some 43), none, .load true 3 (.tmp 3)⟩,
    ⟨(some 44), none, .call (.fn 23) [(.tmp 43)]⟩,
    ⟨(some 42), none, .mov (.tmp 44)⟩,
    ⟨(some 45), none, .ext (.tmp 42) 0⟩,
    ⟨(some 46), none, .ext (.tmp 42) 1⟩,
    ⟨(some 10), none, .mov (.tmp 45)⟩,
    ⟨(some 11), none, .mov (.tmp 46)⟩])
 (.seq (.reg [⟨(some 48), none, .load true 3 (.tmp 3)⟩,
    ⟨(some 49), none, .call (.fn 25) [(.tmp 48)]⟩,
    ⟨(some 47), none, .mov (.tmp 49)⟩,
    ⟨(some 50), none, .ext (.tmp 47) 0⟩,
    ⟨(some 51), none, .ext (.tmp 47) 1⟩,
    ⟨(some 52), none, .ext (.tmp 47) 2⟩,
    ⟨(some 12), none, .mov (.tmp 50)⟩,
    ⟨(some 13), none, .mov (.tmp 51)⟩,
    ⟨(some 14), none, .mov (.tmp 52)⟩])
 (.seq (.reg [⟨(some 54), none, .load true 3 (.tmp 3)⟩,
    ⟨(some 55), none, .call (.fn 29) [(.tmp 54)]⟩,
    ⟨(some 53), none, .mov (.tmp 55)⟩,
    ⟨(some 56), none, .ext (.tmp 53) 0⟩,
    ⟨(some 57), none, .ext (.tmp 53) 1⟩,
    ⟨(some 58), none, .ext (.tmp 53) 2⟩,
    ⟨(some 15), none, .mov (.tmp 56)⟩,
    ⟨(some 16), none, .mov (.tmp 57)⟩,
    ⟨(some 17), none, .mov (.tmp 58)⟩])
 (.seq (.seq (.reg [⟨(some 59), none, .mov (.tmp 7)⟩,
     ⟨(some 60), none, .bin .neq (.tmp 59) (.lit (.int .i64 0))⟩,
     ⟨(some 61), none, .mov (.tmp 60)⟩,
     ⟨(some 62), (some (61, false)), .mov (.tmp 9)⟩,
     ⟨(some 63), (some (61, false)), .bin .neq (.tmp 62) (.lit (.int .i64 0))⟩,
     ⟨(some 64), none, .pick (.tmp 61) (.lit (.bool true)) (.tmp 63)⟩,
     ⟨(some 65), none, .mov (.tmp 64)⟩,
     ⟨(some 66), (some (65, false)), .mov (.tmp 11)⟩,
     ⟨(some 67), (some (65, false)), .bin .neq (.tmp 66) (.lit (.int .i64 0))⟩,
     ⟨(some 68), none, .pick (.tmp 65) (.lit (.bool true)) (.tmp 67)⟩,
     ⟨(some 69), none, .mov (.tmp 68)⟩,
     ⟨(some 70), (some (69, false)), .mov (.tmp 10)⟩,
     ⟨(some 71), (some (69, false)), .bin .lss (.tmp 70) (.lit (.int .i64 1))⟩,
     ⟨(some 72), none, .pick (.tmp 69) (.lit (.bool true)) (.tmp 71)⟩,
     ⟨(some 73), none, .mov (.tmp 72)⟩,
     ⟨(some 74), (some (73, false)), .mov (.tmp 14)⟩,
     ⟨(some 75), (some (73, false)), .bin .neq (.tmp 74) (.lit (.int .i64 0))⟩,
     ⟨(some 76), none, .pick (.tmp 73) (.lit (.bool true)) (.tmp 75)⟩,
     ⟨(some 77), none, .mov (.tmp 76)⟩,
     ⟨(some 78), (some (77, false)), .mov (.tmp 17)⟩,
     ⟨(some 79), (some (77, false)), .bin .neq (.tmp 78) (.lit (.int .i64 4))⟩,
     ⟨(some 80), none, .pick (.tmp 77) (.lit (.bool true)) (.tmp 79)⟩,
     ⟨(some 81), none, .mov (.tmp 80)⟩,
     ⟨(some 82), (some (81, false)), .mov (.tmp 13)⟩,
     ⟨(some 83), (some (81, false)), .bin .lss (.tmp 82) (.lit (.int .i64 0))⟩,
     ⟨(some 84), none, .pick (.tmp 81) (.lit (.bool true)) (.tmp 83)⟩,
     ⟨(some 85), none, .mov (.tmp 84)⟩,
     ⟨(some 86), (some (85, false)), .mov (.tmp 13)⟩,
     ⟨(some 87), (some (85, false)), .call (.fn 32) [(.tmp 86)]⟩,
     ⟨(some 88), (some (85, false)), .mov (.tmp 12)⟩,
     ⟨(some 89), (some (85, false)), .bin .neq (.tmp 87) (.tmp 88)⟩,
     ⟨(some 90), none, .pick (.tmp 85) (.lit (.bool true)) (.tmp 89)⟩,
     ⟨(some 91), none, .mov (.tmp 90)⟩,
     ⟨(some 92), (some (91, false)), .mov (.tmp 13)⟩,
     ⟨(some 93), (some (91, false)), .mov (.tmp 6)⟩,
     ⟨(some 94), (some (91, false)), .bin .andNot (.tmp 92) (.tmp 93)⟩,
     ⟨(some 95), (some (91, false)), .bin .neq (.tmp 94) (.lit (.int .i64 0))⟩,
     ⟨(some 96), none, .pick (.tmp 91) (.lit (.bool true)) (.tmp 95)⟩,
     ⟨(some 97), none, .mov (.tmp 96)⟩,
     ⟨(some 98), (some (97, false)), .mov (.tmp 5)⟩,
     ⟨(some 99), (some (97, false)), .mov (.tmp 13)⟩,
     ⟨(some 100), (some (97, false)), .bin .andNot (.tmp 98) (.tmp 99)⟩,
     ⟨(some 101), (some (97, false)), .bin .neq (.tmp 100) (.lit (.int .i64 0))⟩,
     ⟨(some 102), none, .pick (.tmp 97) (.lit (.bool true)) (.tmp 101)⟩,
     ⟨(some 103), none, .mov (.tmp 102)⟩,
     ⟨(some 104), (some (103, false)), .mov (.tmp 6)⟩,
     ⟨(some 105), (some (103, false)), .mov (.tmp 4)⟩,
     ⟨(some 106), (some (103, false)), .len (.tmp 105)⟩,
     ⟨(some 107), (some (103, false)), .bin .shr (.tmp 104) (.tmp 106)⟩,
     ⟨(some 108), (some (103, false)), .bin .neq (.tmp 107) (.lit (.int .i64 0))⟩,
     ⟨(some 109), none, .pick (.tmp 103) (.lit (.bool true)) (.tmp 108)⟩])
  (.cond (.tmp 109) (.seq (.reg [⟨(some 2), none, .mov (.lit (.bool false))⟩])
   (.ret))
    (.skip)))
 (.seq (.reg [⟨(some 18), none, .mov (.lit (.int .i64 0))⟩,
    ⟨(some 19), none, .mov (.lit (.int .i64 0))⟩])
 (.seq (.seq (.reg [⟨(some 110), none, .mov (.tmp 4)⟩,
     ⟨(some 111), none, .len (.tmp 110)⟩,
     ⟨(some 112), none, .mov (.lit (.int .i64 0))⟩])
  (.block 0 (.loop (.seq (.reg [⟨(some 113), none, .bin .lss (.tmp 112) (.tmp 111)⟩])
   (.seq (.cond (.tmp 113) (.skip)
      (.exit 0))
   (.seq (.block 1 (.seq (.reg [⟨(some 114), none, .mov (.tmp 112)⟩,
       ⟨(some 115), none, .iaddr 1 (.tmp 110) (.tmp 112)⟩,
       ⟨(some 116), none, .load false 1 (.tmp 115)⟩,
       ⟨(some 20), none, .mov (.tmp 114)⟩,
       ⟨(some 21), none, .mov (.tmp 116)⟩])
    (.seq (.reg [⟨(some 118), none, .load true 3 (.tmp 3)⟩,
       ⟨(some 119), none, .mov (.tmp 20)⟩,
       ⟨(some 120), none, .call (.fn 15) [(.tmp 118), (.tmp 119)]⟩,
       ⟨(some 117), none, .mov (.tmp 120)⟩,
       ⟨(some 121), none, .ext (.tmp 117) 0⟩,
       ⟨(some 122), none, .ext (.tmp 117) 1⟩,
       ⟨(some 22), none, .alloc [(.int .i64 0), (.int .i64 0)]⟩,
       ⟨none, none, .store 2 (.tmp 22) (.tmp 121)⟩,
       ⟨(some 23), none, .mov (.tmp 122)⟩])
    (.seq (.reg [⟨(some 124), none, .load true 3 (.tmp 3)⟩,
       ⟨(some 125), none, .mov (.tmp 20)⟩,
       ⟨(some 126), none, .call (.fn 17) [(.tmp 124), (.tmp 125)]⟩,
       ⟨(some 123), none, .mov (.tmp 126)⟩,
       ⟨(some 127), none, .ext (.tmp 123) 0⟩,
       ⟨(some 128), none, .ext (.tmp 123) 1⟩,
       ⟨(some 24), none, .alloc [(.int .i64 0), (.int .i64 0)]⟩,
       ⟨none, none, .store 2 (.tmp 24) (.tmp 127)⟩,
       ⟨(some 25), none, .mov (.tmp 128)⟩])
    (.seq (.seq (.reg [⟨(some 129), none, .mov (.tmp 23)⟩,
        ⟨(some 130), none, .bin .neq (.tmp 129) (.lit (.int .i64 0))⟩,
        ⟨(some 131), none, .mov (.tmp 130)⟩,
        ⟨(some 132), (some (131, false)), .mov (.tmp 25)⟩,
        ⟨(some 133), (some (131, false)), .bin .neq (.tmp 132) (.lit (.int .i64 0))⟩,
        ⟨(some 134), none, .pick (.tmp 131) (.lit (.bool true)) (.tmp 133)⟩,
        ⟨(some 135), none, .mov (.tmp 134)⟩,
        ⟨(some 136), (some (135, false)), .mov (.tmp 21)⟩,
        ⟨(some 137), (some (135, false)), .load true 2 (.tmp 22)⟩,
        ⟨(some 138), (some (135, false)), .call (.fn 33) [(.tmp 136), (.tmp 137)]⟩,
        ⟨(some 139), (some (135, false)), .un .not (.tmp 138)⟩,
        ⟨(some 140), none, .pick (.tmp 135) (.lit (.bool true)) (.tmp 139)⟩,
        ⟨(some 141), none, .mov (.tmp 140)⟩,
        ⟨(some 142), (some (141, false)), .mov (.tmp 21)⟩,
        ⟨(some 143), (some (141, false)), .load true 2 (.tmp 24)⟩,
        ⟨(some 144), (some (141, false)), .call (.fn 33) [(.tmp 142), (.tmp 143)]⟩,
        ⟨(some 145), (some (141, false)), .un .not (.tmp 144)⟩,
        ⟨(some 146), none, .pick (.tmp 141) (.lit (.bool true)) (.tmp 145)⟩,
        ⟨(some 147), none, .mov (.tmp 146)⟩,
        ⟨(some 148), (some (147, false)), .faddr 0 (.tmp 24)⟩,
        ⟨(some 149), (some (147, false)), .load false 1 (.tmp 148)⟩,
        ⟨(some 150), (some (147, false)), .faddr 0 (.tmp 22)⟩,
        ⟨(some 151), (some (147, false)), .load false 1 (.tmp 150)⟩,
        ⟨(some 152), (some (147, false)), .bin .lss (.tmp 149) (.tmp 151)⟩,
        ⟨(some 153), none, .pick (.tmp 147) (.lit (.bool true)) (.tmp 152)⟩,
        ⟨(some 154), none, .mov (.tmp 153)⟩,
        ⟨(some 155), (some (154, false)), .faddr 1 (.tmp 24)⟩,
        ⟨(some 156), (some (154, false)), .load false 1 (.tmp 155)⟩,
        ⟨(some 157), (some (154, false)), .faddr 1 (.tmp 22)⟩,
        ⟨(some 158), (some (154, false)), .load false 1 (.tmp 157)⟩,
        ⟨(some 159), (some (154, false)), .bin .gtr (.tmp 156) (.tmp 158)⟩,
        ⟨(some 160), none, .pick (.tmp 154) (.lit (.bool true)) (.tmp 159)⟩])
     (.cond (.tmp 160) (.seq (.reg [⟨(some 2), none, .mov (.lit (.bool false))⟩])
      (.ret))
       (.skip)))
    (.seq (.seq (.draw (.step ⟨(some 161), none, .faddr 0 (.tmp 24)⟩ (
        .step ⟨(some 162), none, .load false 1 (.tmp 161)⟩ (
        .step ⟨(some 163), none, .bin .gtr (.tmp 162) (.lit (.int .i64 0))⟩ (
        .step ⟨(some 164), none, .mov (.tmp 5)⟩ (
        .step ⟨(some 165), none, .mov (.tmp 20)⟩ (
        .step ⟨(some 166), none, .bin .shr (.tmp 164) (.tmp 165)⟩ (
        .step ⟨(some 167), none, .bin .and (.tmp 166) (.lit (.int .i64 1))⟩ (
        .step ⟨(some 168), none, .bin .eql (.tmp 167) (.lit (.int .i64 1))⟩ (
        .step ⟨(some 169), none, .eqb true (.tmp 163) (.tmp 168)⟩ (
        .step ⟨(some 170), none, .mov (.tmp 169)⟩ (
        .step ⟨(some 171), (some (170, false)), .faddr 1 (.tmp 24)⟩ (
        .step ⟨(some 172), (some (170, false)), .load false 1 (.tmp 171)⟩ (
        .step ⟨(some 173), (some (170, false)), .bin .gtr (.tmp 172) (.lit (.int .i64 0))⟩ (
        .step ⟨(some 174), (some (170, false)), .mov (.tmp 6)⟩ (
        .step ⟨(some 175), (some (170, false)), .mov (.tmp 20)⟩ (
        .step ⟨(some 176), (some (170, false)), .bin .shr (.tmp 174) (.tmp 175)⟩ (
        .step ⟨(some 177), (some (170, false)), .bin .and (.tmp 176) (.lit (.int .i64 1))⟩ (
        .step ⟨(some 178), (some (170, false)), .bin .eql (.tmp 177) (.lit (.int .i64 1))⟩ (
        .step ⟨(some 179), (some (170, false)), .eqb true (.tmp 173) (.tmp 178)⟩ (
        .step ⟨(some 180), none, .pick (.tmp 170) (.lit (.bool true)) (.tmp 179)⟩ (
        .done))))))))))))))))))))))
     (.cond (.tmp 180) (.seq (.reg [⟨(some 2), none, .mov (.lit (.bool false))⟩])
      (.ret))
       (.skip)))
    (.seq (.reg [⟨(some 181), none, .mov (.tmp 18)⟩,
       ⟨(some 182), none, .mov (.tmp 21)⟩,
       ⟨(some 183), none, .bin .add (.tmp 181) (.tmp 182)⟩,
       ⟨(some 18), none, .mov (.tmp 183)⟩])
    (.seq (.reg [⟨(some 184), none, .mov (.tmp 21)⟩,
       ⟨(some 185), none, .bin .gtr (.tmp 184) (.lit (.int .i64 0))⟩])
    (.cond (.tmp 185) (.reg [⟨(some 186), none, .mov (.tmp 19)⟩,
       ⟨(some 187), none, .bin .add (.tmp 186) (.lit (.int .i64 1))⟩,
       ⟨(some 19), none, .mov (.tmp 187)⟩])
      (.skip))))))))))
   (.reg [⟨(some 188), none, .bin .add (.tmp 112) (.lit (.int .i64 1))⟩,
     ⟨(some 112), none, .mov (.tmp 188)⟩])))))))
 (.seq (.reg [⟨(some 189), none, .mov (.tmp 18)⟩,
    ⟨(some 190), none, .load true 2 (.tmp 8)⟩,
    ⟨(some 191), none, .call (.fn 33) [(.tmp 189), (.tmp 190)]⟩,
    ⟨(some 192), none, .mov (.tmp 191)⟩,
    ⟨(some 193), (some (192, true)), .mov (.tmp 19)⟩,
    ⟨(some 194), (some (192, true)), .mov (.tmp 12)⟩,
    ⟨(some 195), (some (192, true)), .bin .geq (.tmp 193) (.tmp 194)⟩,
    ⟨(some 196), none, .pick (.tmp 192) (.tmp 195) (.lit (.bool false))⟩,
    ⟨(some 197), none, .mov (.tmp 196)⟩,
    ⟨(some 198), (some (197, true)), .call (.fn 14) []⟩,
    ⟨(some 199), none, .pick (.tmp 197) (.tmp 198) (.lit (.bool false))⟩,
    ⟨(some 2), none, .mov (.tmp 199)⟩])
 (.ret)))))))))))
theorem k6 : FnC Try.prog 6 200 [] [] [.tmp 2] c6 1 := ⟨Try.f6, _, Try.func6, rfl, by decide, rfl, by decide, by kernel_rfl, by kernel_rfl⟩
def c31 : AC :=
 .seq (.reg [⟨(some 1), none, .box (.tmp 0)⟩,
    ⟨(some 2), none, .alloc [(.slice none 0 0), (.slice none 0 0), (.slice none 0 0)]⟩,
    ⟨(some 3), none, .mov (.lit (.slice none 0 0))⟩])
 (.seq (.reg [⟨(some 4), none, .alloc [(.int .i64 0)]⟩,
    ⟨none, none, .store 1 (.tmp 4) (.lit (.int .i64 0))⟩])
 (.seq (.reg [⟨(some 18), none, .mkfn (.func 76) [] [(.tmp 4), (.tmp 1)]⟩,
    ⟨(some 5), none, .mov (.tmp 18)⟩])
 (.seq (.reg [⟨(some 19), none, .mov (.tmp 5)⟩,
    ⟨(some 20), none, .call (.tmp 19) [(.lit (.int .i64 3))]⟩,
    ⟨(some 21), none, .bin .add (.lit (.int .i64 1)) (.tmp 20)⟩,
    ⟨(some 22), none, .mov (.tmp 5)⟩,
    ⟨(some 23), none, .call (.tmp 22) [(.lit (.int .i64 3))]⟩,
    ⟨(some 24), none, .bin .add (.lit (.int .i64 1)) (.tmp 23)⟩,
    ⟨(some 6), none, .mov (.tmp 21)⟩,
    ⟨(some 7), none, .mov (.tmp 24)⟩])
 (.seq (.draw (.step ⟨(some 25), none, .mov (.tmp 6)⟩ (
    .step ⟨(some 27), none, .mov (.tmp 7)⟩ (
    .ev ⟨(some 26), none, .mks 1 8 (.int .i64 0) (.tmp 25) (.tmp 25)⟩ [] (
    .step ⟨(some 8), none, .mov (.tmp 26)⟩ (
     .ev ⟨(some 28), none, .mks 1 8 (.int .i64 0) (.tmp 27) (.tmp 27)⟩ [] (
     .step ⟨(some 9), none, .mov (.tmp 28)⟩ (
      .done))
     (.stop)))
    (.ev ⟨(some 28), none, .mks 1 8 (.int .i64 0) (.tmp 27) (.tmp 27)⟩ [] (
    .ev ⟨(some 26), none, .mks 1 8 (.int .i64 0) (.tmp 25) (.tmp 25)⟩ [] (
     .step ⟨(some 8), none, .mov (.tmp 26)⟩ (
      .step ⟨(some 9), none, .mov (.tmp 28)⟩ (
      .done)))
     (.stop))
    (.stop))))))
 (.seq (.seq (.reg [⟨(some 29), none, .mov (.tmp 6)⟩,
     ⟨(some 30), none, .mov (.lit (.int .i64 0))⟩])
  (.block 0 (.loop (.seq (.reg [⟨(some 31), none, .bin .lss (.tmp 30) (.tmp 29)⟩])
   (.seq (.cond (.tmp 31) (.skip)
      (.exit 0))
   (.seq (.block 1 (.seq (.reg [⟨(some 32), none, .mov (.tmp 30)⟩,
       ⟨(some 10), none, .mov (.tmp 32)⟩])
    (.seq (.reg [⟨(some 33), none, .mov (.tmp 7)⟩,
       ⟨(some 34), none, .mov (.lit (.int .i64 0))⟩])
    (.block 2 (.loop (.seq (.reg [⟨(some 35), none, .bin .lss (.tmp 34) (.tmp 33)⟩])
     (.seq (.cond (.tmp 35) (.skip)
        (.exit 2))
     (.seq (.block 3 (.seq (.reg [⟨(some 36), none, .mov (.tmp 34)⟩,
         ⟨(some 11), none, .mov (.tmp 36)⟩])
      (.seq (.seq (.reg [⟨(some 37), none, .mov (.tmp 5)⟩,
          ⟨(some 38), none, .call (.tmp 37) [(.lit (.int .i64 4))]⟩,
          ⟨(some 39), none, .bin .eql (.tmp 38) (.lit (.int .i64 0))⟩,
          ⟨(some 40), none, .mov (.tmp 39)⟩,
          ⟨(some 41), (some (40, false)), .faddr 0 (.tmp 2)⟩,
          ⟨(some 42), (some (40, false)), .load false 1 (.tmp 41)⟩,
          ⟨(some 43), (some (40, false)), .len (.tmp 42)⟩,
          ⟨(some 44), (some (40, false)), .bin .geq (.tmp 43) (.lit (.int .i64 6))⟩,
          ⟨(some 45), none, .pick (.tmp 40) (.lit (.bool true)) (.tmp 44)⟩])
       (.cond (.tmp 45) (.exit 3)
         (.skip)))
      (.seq (.reg [⟨(some 46), none, .mov (.tmp 5)⟩,
         ⟨(some 47), none, .call (.tmp 46) [(.lit (.int .i64 5))]⟩,
         ⟨(some 12), none, .mov (.tmp 47)⟩])
      (.seq (.reg [⟨(some 48), none, .mov (.tmp 5)⟩,
         ⟨(some 49), none, .mov (.tmp 12)⟩,
         ⟨(some 50), none, .bin .add (.tmp 49) (.lit (.int .i64 1))⟩,
         ⟨(some 51), none, .call (.tmp 48) [(.tmp 50)]⟩,
         ⟨(some 13), none, .mov (.tmp 51)⟩])
      (.seq (.draw (.step ⟨(some 52), none, .faddr 0 (.tmp 2)⟩ (
         .step ⟨(some 53), none, .load false 1 (.tmp 52)⟩ (
         .step ⟨(some 54), none, .mov (.tmp 10)⟩ (
         .step ⟨(some 55), none, .mov (.tmp 11)⟩ (
         .step ⟨(some 56), none, .mov (.tmp 12)⟩ (
         .step ⟨(some 57), none, .mov (.tmp 5)⟩ (
         .step ⟨(some 61), none, .mov (.tmp 12)⟩ (
         .step ⟨(some 62), none, .mov (.tmp 5)⟩ (
         .step ⟨(some 67), none, .mov (.tmp 13)⟩ (
         .step ⟨(some 68), none, .mov (.tmp 5)⟩ (
         .step ⟨(some 72), none, .mov (.tmp 13)⟩ (
         .step ⟨(some 73), none, .mov (.tmp 5)⟩ (
         .ev ⟨(some 58), none, .call (.tmp 57) [(.lit (.int .i64 2))]⟩ [⟨(some 53), none, .load false 1 (.tmp 52)⟩, ⟨(some 52), none, .faddr 0 (.tmp 2)⟩] (
         .step ⟨(some 59), none, .bin .sub (.tmp 56) (.tmp 58)⟩ (
          .step ⟨(some 60), none, .mxmn true (.lit (.int .i64 0)) [(.tmp 59)]⟩ (
          .ev ⟨(some 63), none, .call (.tmp 62) [(.lit (.int .i64 2))]⟩ [⟨(some 53), none, .load false 1 (.tmp 52)⟩, ⟨(some 52), none, .faddr 0 (.tmp 2)⟩] (
          .step ⟨(some 64), none, .bin .add (.tmp 61) (.tmp 63)⟩ (
           .step ⟨(some 65), none, .mxmn false (.lit (.int .i64 4)) [(.tmp 64)]⟩ (
           .ev ⟨(some 66), none, .call (.fn 42) [(.tmp 60), (.tmp 65)]⟩ [⟨(some 53), none, .load false 1 (.tmp 52)⟩, ⟨(some 52), none, .faddr 0 (.tmp 2)⟩] (
           .ev ⟨(some 69), none, .call (.tmp 68) [(.lit (.int .i64 2))]⟩ [⟨(some 53), none, .load false 1 (.tmp 52)⟩, ⟨(some 52), none, .faddr 0 (.tmp 2)⟩] (
            .step ⟨(some 70), none, .bin .sub (.tmp 67) (.tmp 69)⟩ (
             .step ⟨(some 71), none, .mxmn true (.lit (.int .i64 0)) [(.tmp 70)]⟩ (
             .ev ⟨(some 74), none, .call (.tmp 73) [(.lit (.int .i64 2))]⟩ [⟨(some 53), none, .load false 1 (.tmp 52)⟩, ⟨(some 52), none, .faddr 0 (.tmp 2)⟩] (
             .step ⟨(some 75), none, .bin .add (.tmp 72) (.tmp 74)⟩ (
              .step ⟨(some 76), none, .mxmn false (.lit (.int .i64 4)) [(.tmp 75)]⟩ (
              .ev ⟨(some 77), none, .call (.fn 42) [(.tmp 71), (.tmp 76)]⟩ [⟨(some 53), none, .load false 1 (.tmp 52)⟩, ⟨(some 52), none, .faddr 0 (.tmp 2)⟩] (
              .ev ⟨(some 78), none, .call (.fn 44) [(.tmp 54), (.tmp 55), (.tmp 66), (.tmp 77)]⟩ [⟨(some 53), none, .load false 1 (.tmp 52)⟩, ⟨(some 52), none, .faddr 0 (.tmp 2)⟩] (
               .ev ⟨(some 79), none, .bslice 6 (.agg #[(.int .i64 0), (.int .i64 0), (.int .i64 0), (.int .i64 0), (.int .i64 0), (.int .i64 0)]) 1 [(0, (.tmp 78))]⟩ [⟨(some 53), none, .load false 1 (.tmp 52)⟩, ⟨(some 52), none, .faddr 0 (.tmp 2)⟩] (
                .ev ⟨(some 80), none, .app 6 48 (.tmp 53) (.tmp 79)⟩ [⟨(some 52), none, .faddr 0 (.tmp 2)⟩] (
                 .step ⟨(some 81), none, .faddr 0 (.tmp 2)⟩ (
                  .ev ⟨none, none, .store 1 (.tmp 81) (.tmp 80)⟩ [] (
                  .done)
                  (.stop)))
                 (.stop))
                (.stop))
               (.stop))
              (.stop))))
             (.stop))))
            (.stop))
           (.stop))))
          (.stop))))
         (.stop)))))))))))))))
      (.seq (.reg [⟨(some 82), none, .mov (.tmp 3)⟩,
         ⟨(some 83), none, .mov (.tmp 12)⟩,
         ⟨(some 84), none, .mov (.tmp 13)⟩,
         ⟨(some 85), none, .bin .sub (.tmp 83) (.tmp 84)⟩,
         ⟨(some 86), none, .bslice 1 (.int .i64 0) 1 [(0, (.tmp 85))]⟩,
         ⟨(some 87), none, .app 1 8 (.tmp 82) (.tmp 86)⟩,
         ⟨(some 3), none, .mov (.tmp 87)⟩])
      (.seq (.reg [⟨(some 88), none, .mov (.tmp 8)⟩,
         ⟨(some 89), none, .mov (.tmp 10)⟩,
         ⟨(some 90), none, .iaddr 1 (.tmp 88) (.tmp 89)⟩,
         ⟨(some 91), none, .load false 1 (.tmp 90)⟩,
         ⟨(some 92), none, .mov (.tmp 12)⟩,
         ⟨(some 93), none, .mov (.tmp 13)⟩,
         ⟨(some 94), none, .bin .sub (.tmp 92) (.tmp 93)⟩,
         ⟨(some 95), none, .bin .add (.tmp 91) (.tmp 94)⟩,
         ⟨(some 96), none, .iaddr 1 (.tmp 88) (.tmp 89)⟩,
         ⟨none, none, .store 1 (.tmp 96) (.tmp 95)⟩])
      (.reg [⟨(some 97), none, .mov (.tmp 9)⟩,
        ⟨(some 98), none, .mov (.tmp 11)⟩,
        ⟨(some 99), none, .iaddr 1 (.tmp 97) (.tmp 98)⟩,
        ⟨(some 100), none, .load false 1 (.tmp 99)⟩,
        ⟨(some 101), none, .mov (.tmp 12)⟩,
        ⟨(some 102), none, .mov (.tmp 13)⟩,
        ⟨(some 103), none, .bin .sub (.tmp 101) (.tmp 102)⟩,
        ⟨(some 104), none, .bin .add (.tmp 100) (.tmp 103)⟩,
        ⟨(some 105), none, .iaddr 1 (.tmp 97) (.tmp 98)⟩,
        ⟨none, none, .store 1 (.tmp 105) (.tmp 104)⟩])))))))))
     (.reg [⟨(some 106), none, .bin .add (.tmp 34) (.lit (.int .i64 1))⟩,
       ⟨(some 34), none, .mov (.tmp 106)⟩])))))))))
   (.reg [⟨(some 107), none, .bin .add (.tmp 30) (.lit (.int .i64 1))⟩,
     ⟨(some 30), none, .mov (.tmp 107)⟩])))))))
 (.seq (.seq (.reg [⟨(some 108), none, .mov (.tmp 8)⟩,
     ⟨(some 109), none, .len (.tmp 108)⟩,
     ⟨(some 110), none, .mov (.lit (.int .i64 0))⟩])
  (.block 4 (.loop (.seq (.reg [⟨(some 111), none, .bin .lss (.tmp 110) (.tmp 109)⟩])
   (.seq (.cond (.tmp 111) (.skip)
      (.exit 4))
   (.seq (.block 5 (.seq (.reg [⟨(some 112), none, .iaddr 1 (.tmp 108) (.tmp 110)⟩,
       ⟨(some 113), none, .load false 1 (.tmp 112)⟩,
       ⟨(some 15), none, .mov (.tmp 113)⟩])
    (.draw (.step ⟨(some 114), none, .faddr 1 (.tmp 2)⟩ (
      .step ⟨(some 115), none, .load false 1 (.tmp 114)⟩ (
      .step ⟨(some 116), none, .mov (.tmp 15)⟩ (
      .step ⟨(some 117), none, .mov (.tmp 5)⟩ (
      .step ⟨(some 121), none, .mov (.tmp 15)⟩ (
      .step ⟨(some 122), none, .mov (.tmp 5)⟩ (
      .ev ⟨(some 118), none, .call (.tmp 117) [(.lit (.int .i64 2))]⟩ [⟨(some 115), none, .load false 1 (.tmp 114)⟩, ⟨(some 114), none, .faddr 1 (.tmp 2)⟩] (
      .step ⟨(some 119), none, .bin .sub (.tmp 116) (.tmp 118)⟩ (
       .step ⟨(some 120), none, .mxmn true (.lit (.int .i64 0)) [(.tmp 119)]⟩ (
       .ev ⟨(some 123), none, .call (.tmp 122) [(.lit (.int .i64 2))]⟩ [⟨(some 115), none, .load false 1 (.tmp 114)⟩, ⟨(some 114), none, .faddr 1 (.tmp 2)⟩] (
       .step ⟨(some 124), none, .bin .add (.tmp 121) (.tmp 123)⟩ (
        .step ⟨(some 125), none, .mxmn false (.lit (.int .i64 24)) [(.tmp 124)]⟩ (
        .ev ⟨(some 126), none, .call (.fn 42) [(.tmp 120), (.tmp 125)]⟩ [⟨(some 115), none, .load false 1 (.tmp 114)⟩, ⟨(some 114), none, .faddr 1 (.tmp 2)⟩] (
        .ev ⟨(some 127), none, .bslice 2 (.agg #[(.int .i64 0), (.int .i64 0)]) 1 [(0, (.tmp 126))]⟩ [⟨(some 115), none, .load false 1 (.tmp 114)⟩, ⟨(some 114), none, .faddr 1 (.tmp 2)⟩] (
         .ev ⟨(some 128), none, .app 2 16 (.tmp 115) (.tmp 127)⟩ [⟨(some 114), none, .faddr 1 (.tmp 2)⟩] (
          .step ⟨(some 129), none, .faddr 1 (.tmp 2)⟩ (
           .ev ⟨none, none, .store 1 (.tmp 129) (.tmp 128)⟩ [] (
           .done)
           (.stop)))
          (.stop))
         (.stop))
        (.stop))))
       (.stop))))
      (.stop)))))))))))
   (.reg [⟨(some 130), none, .bin .add (.tmp 110) (.lit (.int .i64 1))⟩,
     ⟨(some 110), none, .mov (.tmp 130)⟩])))))))
 (.seq (.seq (.reg [⟨(some 131), none, .mov (.tmp 9)⟩,
     ⟨(some 132), none, .len (.tmp 131)⟩,
     ⟨(some 133), none, .mov (.lit (.int .i64 0))⟩])
  (.block 6 (.loop (.seq (.reg [⟨(some 134), none, .bin .lss (.tmp 133) (.tmp 132)⟩])
   (.seq (.cond (.tmp 134) (.skip)
      (.exit 6))
   (.seq (.block 7 (.seq (.reg [⟨(some 135), none, .iaddr 1 (.tmp 131) (.tmp 133)⟩,
       ⟨(some 136), none, .load false 1 (.tmp 135)⟩,
       ⟨(some 17), none, .mov (.tmp 136)⟩])
    (.draw (.step ⟨(some 137), none, .faddr 2 (.tmp 2)⟩ (
      .step ⟨(some 138), none, .load false 1 (.tmp 137)⟩ (
      .step ⟨(some 139), none, .mov (.tmp 17)⟩ (
      .step ⟨(some 140), none, .mov (.tmp 5)⟩ (
      .step ⟨(some 144), none, .mov (.tmp 17)⟩ (
      .step ⟨(some 145), none, .mov (.tmp 5)⟩ (
      .ev ⟨(some 141), none, .call (.tmp 140) [(.lit (.int .i64 2))]⟩ [⟨(some 138), none, .load false 1 (.tmp 137)⟩, ⟨(some 137), none, .faddr 2 (.tmp 2)⟩] (
      .step ⟨(some 142), none, .bin .sub (.tmp 139) (.tmp 141)⟩ (
       .step ⟨(some 143), none, .mxmn true (.lit (.int .i64 0)) [(.tmp 142)]⟩ (
       .ev ⟨(some 146), none, .call (.tmp 145) [(.lit (.int .i64 2))]⟩ [⟨(some 138), none, .load false 1 (.tmp 137)⟩, ⟨(some 137), none, .faddr 2 (.tmp 2)⟩] (
       .step ⟨(some 147), none, .bin .add (.tmp 144) (.tmp 146)⟩ (
        .step ⟨(some 148), none, .mxmn false (.lit (.int .i64 24)) [(.tmp 147)]⟩ (
        .ev ⟨(some 149), none, .call (.fn 42) [(.tmp 143), (.tmp 148)]⟩ [⟨(some 138), none, .load false 1 (.tmp 137)⟩, ⟨(some 137), none, .faddr 2 (.tmp 2)⟩] (
        .ev ⟨(some 150), none, .bslice 2 (.agg #[(.int .i64 0), (.int .i64 0)]) 1 [(0, (.tmp 149))]⟩ [⟨(some 138), none, .load false 1 (.tmp 137)⟩, ⟨(some 137), none, .faddr 2 (.tmp 2)⟩] (
         .ev ⟨(some 151), none, .app 2 16 (.tmp 138) (.tmp 150)⟩ [⟨(some 137), none, .faddr 2 (.tmp 2)⟩] (
          .step ⟨(some 152), none, .faddr 2 (.tmp 2)⟩ (
           .ev ⟨none, none, .store 1 (.tmp 152) (.tmp 151)⟩ [] (
           .done)
           (.stop)))
          (.stop))
         (.stop))
        (.stop))))
       (.stop))))
      (.stop)))))))))))
   (.reg [⟨(some 153), none, .bin .add (.tmp 133) (.lit (.int .i64 1))⟩,
     ⟨(some 133), none, .mov (.tmp 153)⟩])))))))
 (.seq (.reg [⟨(some 154), none, .load true 3 (.tmp 2)⟩,
    ⟨(some 155), none, .mov (.tmp 3)⟩,
    ⟨none, none, .store 3 (.tmp 2) (.tmp 154)⟩,
    ⟨(some 3), none, .mov (.tmp 155)⟩])
 (.ret)))))))))
theorem k31 : FnC Try.prog 31 156 [2] [] [.cell 2 true 3, .tmp 3] c31 1 := ⟨Try.f31, _, Try.func31, rfl, by decide, rfl, by decide, by kernel_rfl, by kernel_rfl⟩
def c76 : AC :=
 .seq (.reg [⟨(some 4), none, .mov (.lit (.int .i64 0))⟩])
 (.seq (.reg [⟨(some 5), none, .load false 1 (.tmp 1)⟩,
    ⟨(some 6), none, .bin .add (.tmp 5) (.lit (.int .i64 1))⟩,
    ⟨none, none, .store 1 (.tmp 1) (.tmp 6)⟩])
 (.seq (.seq (.reg [⟨(some 7), none, .load false 1 (.tmp 2)⟩,
     ⟨(some 8), none, .len (.tmp 7)⟩,
     ⟨(some 9), none, .bin .eql (.tmp 8) (.lit (.int .i64 0))⟩])
  (.cond (.tmp 9) (.seq (.reg [⟨(some 10), none, .load false 1 (.tmp 1)⟩,
      ⟨(some 11), none, .mov (.tmp 0)⟩,
      ⟨(some 12), none, .bin .rem (.tmp 10) (.tmp 11)⟩,
      ⟨(some 4), none, .mov (.tmp 12)⟩])
   (.ret))
    (.skip)))
 (.seq (.draw (.step ⟨(some 13), none, .load false 1 (.tmp 2)⟩ (
    .step ⟨(some 14), none, .load false 1 (.tmp 1)⟩ (
    .step ⟨(some 15), none, .load false 1 (.tmp 2)⟩ (
    .step ⟨(some 16), none, .len (.tmp 15)⟩ (
    .step ⟨(some 17), none, .bin .rem (.tmp 14) (.tmp 16)⟩ (
    .step ⟨(some 18), none, .iaddr 1 (.tmp 13) (.tmp 17)⟩ (
    .step ⟨(some 19), none, .load false 1 (.tmp 18)⟩ (
    .step ⟨(some 20), none, .conv .i64 (.tmp 19)⟩ (
    .step ⟨(some 21), none, .load false 1 (.tmp 1)⟩ (
    .step ⟨(some 22), none, .bin .mul (.lit (.int .i64 53)) (.tmp 21)⟩ (
    .step ⟨(some 23), none, .bin .add (.tmp 20) (.tmp 22)⟩ (
    .step ⟨(some 24), none, .mov (.tmp 0)⟩ (
    .step ⟨(some 25), none, .bin .rem (.tmp 23) (.tmp 24)⟩ (
    .step ⟨(some 4), none, .mov (.tmp 25)⟩ (
    .done))))))))))))))))
 (.ret))))
theorem k76 : FnC Try.prog 76 26 [] [] [.tmp 4] c76 3 := ⟨Try.f76, _, Try.func76, rfl, by decide, rfl, by decide, by kernel_rfl, by kernel_rfl⟩
end Go.Proofs.Yticdacdflemoiaa

/- TowelTrue: what is drawn. -/
namespace Go.Proofs.Yticdacdflemoiaa
open Go Go.Ab

def tBy (ws : List Nat) : T := .slice 1 (ws.map fun w : Nat => .lit (.int .u16 w))

set_option maxRecDepth 4000 in
theorem draw_ok (ws : List Nat) (hw : ∀ w ∈ ws, w < 65536) (hl : ws.length < 9223372036854775808) (n a : Nat) (hn : 0 < n) (hn2 : n < 1000) (ha : a < 100000) :
    ACall Try.prog 76 [.t (vi n), .ptr 0 0, .ptr 1 0] [.cells [.t (vi a)], .cells [.t (tBy ws)]] fun o σ' => ∃ v : Nat, v < n ∧ o = .ret (.t (vi v)) ∧ σ' = [.cells [.t (vi (a + 1 : Nat))], .cells [.t (tBy ws)]] := by
  refine ACall.walk k76 ?_
  unfold c76 tBy
  have w1 : IntKind.i64.wrap ((a : Int) + 1) = ((a + 1 : Nat) : Int) := by rw [wrap_id (by omega) (by omega)]; omega
  have n0 : ¬ ((n : Int) = 0) := by omega
  simp only [go_sem, Nat.reduceEqDiff, Nat.reduceAdd, Nat.reduceSub, Nat.reduceMul, Nat.reduceLT, Nat.reduceLeDiff, Nat.reduceMod, Nat.reduceDiv, Int.reduceToNat, Int.reduceLT, Int.reduceLE, Bool.not_true, Bool.not_false, reduceIte, Int.reduceEq, Int.reduceBEq, Int.reduceBNe, Int.reduceGT, Int.reduceGE, Int.reduceNeg, Int.reduceAdd, Int.reduceSub, Nat.reduceBEq, decide_true, decide_false, undef, beq_self_eq_true, bne_self_eq_false, Bool.and_true, Bool.true_and, Bool.and_false, Bool.false_and, Bool.or_true, Bool.true_or, Bool.or_false, Bool.false_or, w1, List.length_map]
  refine BrL.mk (fun h => ?_) (fun h => ?_)
  · have t1 : ((a + 1 : Nat) : Int).tmod n = (((a + 1) % n : Nat) : Int) := by rw [Int.tmod_eq_emod_of_nonneg (by omega)]; rfl
    simp only [go_sem, Nat.reduceEqDiff, Nat.reduceAdd, Nat.reduceSub, Nat.reduceMul, Nat.reduceLT, Nat.reduceLeDiff, Nat.reduceMod, Nat.reduceDiv, Int.reduceToNat, Int.reduceLT, Int.reduceLE, Bool.not_true, Bool.not_false, reduceIte, Int.reduceEq, Int.reduceBEq, Int.reduceBNe, Int.reduceGT, Int.reduceGE, Int.reduceNeg, Int.reduceAdd, Int.reduceSub, Nat.reduceBEq, decide_true, decide_false, undef, beq_self_eq_true, bne_self_eq_false, Bool.and_true, Bool.true_and, Bool.and_false, Bool.false_and, Bool.or_true, Bool.true_or, Bool.or_false, Bool.false_or, h, n0, t1]
    exact finL_ret [0, 1] ⟨rfl, rfl, rfl, rfl, _, rfl, _, Nat.mod_lt _ hn, rfl, rfl⟩
  · have hp : 0 < ws.length := by
      have : ¬ (ws.length : Int) = 0 := by simpa using h
      omega
    have n1 : ¬ ((ws.length : Int) = 0) := by omega
    have t1 : ((a + 1 : Nat) : Int).tmod ws.length = (((a + 1) % ws.length : Nat) : Int) := by rw [Int.tmod_eq_emod_of_nonneg (by omega)]; rfl
    have hlt := Nat.mod_lt (a + 1) hp
    have hg : ws[(a + 1) % ws.length]? = some ws[(a + 1) % ws.length] := List.getElem?_eq_getElem hlt
    have hv := hw _ (List.getElem_mem hlt)
    generalize ws[(a + 1) % ws.length] = v at *
    have w2 : IntKind.i64.wrap (v : Int) = v := wrap_id (by omega) (by omega)
    have w3 : IntKind.i64.wrap (53 * ((a + 1 : Nat) : Int)) = ((53 * (a + 1) : Nat) : Int) := by rw [wrap_id (by omega) (by omega)]; omega
    have w4 : IntKind.i64.wrap ((v : Int) + ((53 * (a + 1) : Nat) : Int)) = ((v + 53 * (a + 1) : Nat) : Int) := by rw [wrap_id (by omega) (by omega)]; omega
    have t2 : ((v + 53 * (a + 1) : Nat) : Int).tmod n = (((v + 53 * (a + 1)) % n : Nat) : Int) := by rw [Int.tmod_eq_emod_of_nonneg (by omega)]; rfl
    simp only [go_sem, Nat.reduceEqDiff, Nat.reduceAdd, Nat.reduceSub, Nat.reduceMul, Nat.reduceLT, Nat.reduceLeDiff, Nat.reduceMod, Nat.reduceDiv, Int.reduceToNat, Int.reduceLT, Int.reduceLE, Bool.not_true, Bool.not_false, reduceIte, Int.reduceEq, Int.reduceBEq, Int.reduceBNe, Int.reduceGT, Int.reduceGE, Int.reduceNeg, Int.reduceAdd, Int.reduceSub, Nat.reduceBEq, decide_true, decide_false, undef, beq_self_eq_true, bne_self_eq_false, Bool.and_true, Bool.true_and, Bool.and_false, Bool.false_and, Bool.or_true, Bool.true_or, Bool.or_false, Bool.false_or, h, n0, n1, t1, nat_neg, List.getElem?_map, hg, w2, w3, w4, t2, List.length_map]
    exact finL_ret [0, 1] ⟨rfl, rfl, rfl, rfl, _, rfl, _, Nat.mod_lt _ hn, rfl, rfl⟩

/-- The same over whatever store. -/
theorem draw_at (ws : List Nat) (hw : ∀ w ∈ ws, w < 65536) (hl : ws.length < 9223372036854775808) {n a p q : Nat} {σ : List AO} {R : Lz (Out → List AO → Prop)} (hn : 0 < n) (hn2 : n < 1000) (ha : a < 100000) (hp : σ[p]? = some (.cells [.t (vi a)])) (hq : σ[q]? = some (.cells [.t (tBy ws)])) (hpq : p ≠ q)
    (hk : ∀ v : Nat, v < n → R.get (.ret (.t (vi v))) (σ.set p (.cells [.t (vi (a + 1 : Nat))]))) : @ACallL Try.prog 76 [.t (vi n), .ptr p 0, .ptr q 0] σ R := by
  have h := draw_ok ws hw hl n a hn hn2 ha
  have hpl := (List.getElem?_eq_some_iff.1 hp).1
  have hql := (List.getElem?_eq_some_iff.1 hq).1
  have e0 : lendR [p, q] σ.length 0 = p := rfl
  have e1 : lendR [p, q] σ.length 1 = q := rfl
  refine ACall.mono (ACall.lend [p, q] h (by simpa using hpq) (by simp; omega) rfl (fun i o ho => ?_) (args := [.t (vi n), .ptr p 0, .ptr q 0]) (by simp [E.rens_map, E.ren, e0, e1])) ?_
  · match i, ho with
    | 0, ho => simp at ho; subst ho; simp only [AO.ren, E.rens_map]; simp [E.ren, e0, hp]
    | 1, ho => simp at ho; subst ho; simp only [AO.ren, E.rens_map]; simp [E.ren, e1, hq]
  · rintro o σ1 ⟨o0, σ0, ⟨v, hv, rfl, rfl⟩, _, rfl, rfl⟩
    have := hk v hv
    simp only [List.map_cons, List.map_nil, AO.ren, E.rens_map, lendB, Out.ren, E.ren, List.append_nil] at this ⊢
    have hs : (σ.set p (.cells [.t (vi (a + 1 : Nat))])).set q (.cells [.t (tBy ws)]) = σ.set p (.cells [.t (vi (a + 1 : Nat))]) := by
      apply List.ext_getElem?
      intro i
      by_cases hi : i = q
      · subst hi
        rw [List.getElem?_set_self (by simpa using hql), List.getElem?_set_ne hpq, hq]
      · rw [List.getElem?_set_ne (fun e => hi e.symm)]
    rw [hs]
    exact this
end Go.Proofs.Yticdacdflemoiaa

/- TowelTrue: the towels that are made are valid, and what was kept is a truth. -/
namespace Go.Proofs.Yticdacdflemoiaa
open Go Go.Ab

def sumsOf (f : B → Int) (n : Nat) (bs : List B) (ks : List Int) : List Int := (List.range n).map fun h : Nat => sumSel (fun b => f b == (h : Int)) bs ks
def rowI (l : List Int) : AO := .row 1 (l.map fun n => .t (vi n))

theorem sumSel_snoc (p : B → Bool) (bs : List B) (ks : List Int) (b : B) (k : Int) (h : ks.length = bs.length) : sumSel p (bs ++ [b]) (ks ++ [k]) = sumSel p bs ks + if p b then k else 0 := by
  unfold sumSel
  rw [List.zip_append h.symm, List.map_append, List.sum_append]
  simp

theorem sumsOf_len (f : B → Int) (n : Nat) (bs : List B) (ks : List Int) : (sumsOf f n bs ks).length = n := by simp [sumsOf]
theorem sumsOf_get (f : B → Int) (n : Nat) (bs : List B) (ks : List Int) {i : Nat} (hi : i < n) : (sumsOf f n bs ks)[i]? = some (sumSel (fun b => f b == (i : Int)) bs ks) := by
  unfold sumsOf
  rw [List.getElem?_map, List.getElem?_range hi]
  rfl
theorem sumsOf_snoc (f : B → Int) (n : Nat) (bs : List B) (ks : List Int) (b : B) (k : Int) (h : ks.length = bs.length) {i : Nat} (hi : i < n) (hb : f b = i) : sumsOf f n (bs ++ [b]) (ks ++ [k]) = (sumsOf f n bs ks).set i (sumSel (fun b => f b == (i : Int)) bs ks + k) := by
  apply List.ext_getElem?
  intro j
  by_cases hj : j < n
  · rw [sumsOf_get _ _ _ _ hj, sumSel_snoc _ _ _ _ _ h]
    by_cases hij : i = j
    · subst hij
      rw [List.getElem?_set_self (by rw [sumsOf_len]; exact hi), if_pos (by rw [hb]; simp)]
    · rw [List.getElem?_set_ne hij, sumsOf_get _ _ _ _ hj, if_neg (by rw [hb]; simp; omega)]
      simp
  · rw [List.getElem?_eq_none (by rw [sumsOf_len]; omega), List.getElem?_eq_none (by rw [List.length_set, sumsOf_len]; omega)]

structure Made (H V : Nat) (bs : List B) (ks : List Int) (i j : Nat) : Prop where
  len : ks.length = bs.length
  m6 : bs.length ≤ 6
  pos : ∀ b ∈ bs, 0 ≤ b.hut ∧ b.hut < H ∧ 0 ≤ b.half ∧ b.half < V ∧ (b.hut < i ∨ (b.hut = i ∧ b.half < j))
  ok : ∀ b ∈ bs, 0 ≤ b.ll ∧ b.ll ≤ b.lh ∧ b.lh ≤ 4 ∧ 0 ≤ b.bl ∧ b.bl ≤ b.bh ∧ b.bh ≤ 4 ∧ b.bl ≤ b.lh
  ne : bs.Pairwise fun a b => sameP b a = false
  word : ∀ (n : Nat) b, bs[n]? = some b → (words b).1 ≤ ks.getD n 0 ∧ ks.getD n 0 ≤ (words b).2
  rng : ∀ k ∈ ks, 0 ≤ k ∧ k ≤ 4

theorem Made.nil (H V : Nat) : Made H V [] [] 0 0 := ⟨rfl, by simp, by simp, by simp, by simp, by simp, by simp⟩
theorem Made.skip {H V i j : Nat} {bs : List B} {ks : List Int} (h : Made H V bs ks i j) : Made H V bs ks i (j + 1) :=
  { h with pos := fun b hb => by have := h.pos b hb; omega }
theorem Made.next {H V i : Nat} {bs : List B} {ks : List Int} (h : Made H V bs ks i V) : Made H V bs ks (i + 1) 0 :=
  { h with pos := fun b hb => by have := h.pos b hb; omega }
theorem Made.push {H V i j : Nat} {bs : List B} {ks : List Int} (h : Made H V bs ks i j) (hi : i < H) (hj : j < V) (hm : bs.length < 6) {b : B} {k : Int} (hp : b.hut = i ∧ b.half = j)
    (ho : 0 ≤ b.ll ∧ b.ll ≤ b.lh ∧ b.lh ≤ 4 ∧ 0 ≤ b.bl ∧ b.bl ≤ b.bh ∧ b.bh ≤ 4 ∧ b.bl ≤ b.lh) (hk : (words b).1 ≤ k ∧ k ≤ (words b).2) (hr : 0 ≤ k ∧ k ≤ 4) : Made H V (bs ++ [b]) (ks ++ [k]) i (j + 1) := by
  refine ⟨by simp [h.len], by simp; omega, fun x hx => ?_, fun x hx => ?_, ?_, fun n x hx => ?_, fun x hx => ?_⟩
  · rcases List.mem_append.1 hx with hx | hx
    · have := h.pos x hx; omega
    · simp at hx; subst hx; omega
  · rcases List.mem_append.1 hx with hx | hx
    · exact h.ok x hx
    · simp at hx; subst hx; exact ho
  · rw [List.pairwise_append]
    refine ⟨h.ne, by simp, fun x hx y hy => ?_⟩
    simp at hy
    subst hy
    have := h.pos x hx
    unfold sameP
    rw [← Bool.not_eq_true, Bool.and_eq_true, beq_iff_eq, beq_iff_eq]
    omega
  · by_cases hn : n < bs.length
    · rw [List.getElem?_append_left hn] at hx
      rw [List.getD_eq_getElem?_getD, List.getElem?_append_left (by rw [h.len]; exact hn), ← List.getD_eq_getElem?_getD]
      exact h.word n x hx
    · have hlt := (List.getElem?_eq_some_iff.1 hx).1
      simp at hlt
      obtain rfl : n = bs.length := by omega
      rw [List.getElem?_append_right (by omega)] at hx
      simp at hx
      subst hx
      rw [List.getD_eq_getElem?_getD, List.getElem?_append_right (by rw [h.len]; omega), h.len]
      simpa using hk
  · rcases List.mem_append.1 hx with hx | hx
    · exact h.rng x hx
    · simp at hx; subst hx; exact hr

theorem Made.sum {H V i j : Nat} {bs : List B} {ks : List Int} (h : Made H V bs ks i j) (p : B → Bool) : 0 ≤ sumSel p bs ks ∧ sumSel p bs ks ≤ 24 := by
  have h1 := sumSel_bound p bs ks h.rng
  have := h.len
  have := h.m6
  omega

/-- A span about a number. -/
def about (n d e top : Int) : Int × Int := (max 0 (n - d), min top (n + e))

theorem Made.towels {H V : Nat} {bs : List B} {ks : List Int} {i j : Nat} (h : Made H V bs ks i j) (hH : H ≤ 3) (hV : V ≤ 3) {hs vs : List (Int × Int)} (h1 : hs.length = H) (h2 : vs.length = V)
    (h3 : ∀ (n : Nat) s, hs[n]? = some s → 0 ≤ s.1 ∧ s.1 ≤ sumSel (fun b => b.hut == (n : Int)) bs ks ∧ sumSel (fun b => b.hut == (n : Int)) bs ks ≤ s.2 ∧ s.2 ≤ 24)
    (h4 : ∀ (n : Nat) s, vs[n]? = some s → 0 ≤ s.1 ∧ s.1 ≤ sumSel (fun b => b.half == (n : Int)) bs ks ∧ sumSel (fun b => b.half == (n : Int)) bs ks ≤ s.2 ∧ s.2 ≤ 24) :
    Tw.OK ⟨bs, hs, vs⟩ ∧ fullT ⟨bs, hs, vs⟩ ks := by
  refine ⟨⟨h.m6, by simp only; omega, by simp only; omega, fun s hs => ?_, fun s hs => ?_, fun b hb => ?_, h.ne⟩, ⟨h.len, fun n b hb => h.word n b hb, fun n s hs _ => ?_, fun n s hs _ => ?_⟩⟩
  · obtain ⟨n, hn⟩ := List.getElem?_of_mem hs
    have := h3 n s hn
    omega
  · obtain ⟨n, hn⟩ := List.getElem?_of_mem hs
    have := h4 n s hn
    omega
  · have a := h.pos b hb
    have c := h.ok b hb
    simp only
    omega
  · have := h3 n s hs; exact ⟨this.2.1, this.2.2.1⟩
  · have := h4 n s hs; exact ⟨this.2.1, this.2.2.1⟩

theorem sums_zero (f : B → Int) (n : Nat) : rowI (sumsOf f n [] []) = .row 1 (List.replicate n (.t (vi 0))) := by
  unfold rowI sumsOf
  congr 1
  rw [List.map_map]
  apply List.ext_getElem
  · simp
  · intro i h1 h2
    simp [sumSel]
theorem gc_rowI {kp : List Nat} {σ : List AO} {n : Nat} (l : List Int) : (l.map fun n => E.t (vi n)).map (E.gc kp σ (n + 1)) = l.map fun n => E.t (vi n) := by rw [List.map_map]; rfl

def madeFn : E := .fn (.func 76) [] [.ptr 2 0, .ptr 0 0]

set_option maxRecDepth 8000 in
set_option maxHeartbeats 4000000 in
theorem made_ok (ws : List Nat) (hw : ∀ w ∈ ws, w < 65536) (hl : ws.length < 9223372036854775808) : ACall Try.prog 31 [.t (tBy ws)] [] fun o σ' => σ' = [] ∧ ∃ (t : Tw) (ks : List Int), t.OK ∧ fullT t ks ∧ o = .ret (.tup [.t (.agg (tw3 t)), .t (.slice 1 (ks.map vi))]) := by
  refine ACall.walk k31 ?_
  unfold c31
  refine awpL_chop 5 (c1 := ?c1) (c2 := ?c2) (fun s => ∃ (H V a : Nat) (p q : Nat) (X Y : AO), 1 ≤ H ∧ H ≤ 3 ∧ 1 ≤ V ∧ V ≤ 3 ∧ a ≤ 10 ∧ lk s.env 2 = .ptr 1 0 ∧ lk s.env 3 = .t nilT ∧ lk s.env 5 = madeFn ∧ lk s.env 6 = .t (vi H) ∧ lk s.env 7 = .t (vi V) ∧ lk s.env 8 = .loc p H ∧ lk s.env 9 = .loc q V ∧
      s.σ = [.cells [.t (tBy ws)], .cells [.t nilT, .t nilT, .t nilT], .cells [.t (vi a)], X, Y] ∧ s.df = [] ∧ s.k = 0 ∧ ((p = 3 ∧ q = 4 ∧ X = rowI (sumsOf B.hut H [] []) ∧ Y = rowI (sumsOf B.half V [] [])) ∨ (p = 4 ∧ q = 3 ∧ X = rowI (sumsOf B.half V [] []) ∧ Y = rowI (sumsOf B.hut H [] [])))) ?hc ?_ ?_
  case hc => simp only [chop]; rfl
  · simp only [tBy, go_sem, Nat.reduceEqDiff, Nat.reduceAdd, Nat.reduceSub, Nat.reduceMul, Nat.reduceLT, Nat.reduceLeDiff, Nat.reduceMod, Nat.reduceDiv, Int.reduceToNat, Int.reduceLT, Int.reduceLE, Bool.not_true, Bool.not_false, reduceIte, Int.reduceEq, Int.reduceBEq, Int.reduceBNe, Int.reduceGT, Int.reduceGE, Int.reduceNeg, Int.reduceAdd, Int.reduceSub, Nat.reduceBEq, decide_true, decide_false, undef, beq_self_eq_true, bne_self_eq_false, Bool.and_true, Bool.true_and, Bool.and_false, Bool.false_and, Bool.or_true, Bool.true_or, Bool.or_false, Bool.false_or]
    refine draw_at ws hw hl (p := 2) (q := 0) (n := 3) (a := 0) (by omega) (by omega) (by omega) rfl rfl (by decide) fun v hv => ?_
    have w1 : IntKind.i64.wrap (1 + (v : Int)) = ((1 + v : Nat) : Int) := by rw [wrap_id (by omega) (by omega)]; omega
    simp only [go_sem, Nat.reduceEqDiff, Nat.reduceAdd, Nat.reduceSub, Nat.reduceMul, Nat.reduceLT, Nat.reduceLeDiff, Nat.reduceMod, Nat.reduceDiv, Int.reduceToNat, Int.reduceLT, Int.reduceLE, Bool.not_true, Bool.not_false, reduceIte, Int.reduceEq, Int.reduceBEq, Int.reduceBNe, Int.reduceGT, Int.reduceGE, Int.reduceNeg, Int.reduceAdd, Int.reduceSub, Nat.reduceBEq, decide_true, decide_false, undef, beq_self_eq_true, bne_self_eq_false, Bool.and_true, Bool.true_and, Bool.and_false, Bool.false_and, Bool.or_true, Bool.true_or, Bool.or_false, Bool.false_or, List.set_cons_succ, List.set_cons_zero]
    refine draw_at ws hw hl (p := 2) (q := 0) (n := 3) (a := 1) (by omega) (by omega) (by omega) rfl rfl (by decide) fun v' hv' => ?_
    have w2 : IntKind.i64.wrap (1 + (v' : Int)) = ((1 + v' : Nat) : Int) := by rw [wrap_id (by omega) (by omega)]; omega
    simp only [go_sem, Nat.reduceEqDiff, Nat.reduceAdd, Nat.reduceSub, Nat.reduceMul, Nat.reduceLT, Nat.reduceLeDiff, Nat.reduceMod, Nat.reduceDiv, Int.reduceToNat, Int.reduceLT, Int.reduceLE, Bool.not_true, Bool.not_false, reduceIte, Int.reduceEq, Int.reduceBEq, Int.reduceBNe, Int.reduceGT, Int.reduceGE, Int.reduceNeg, Int.reduceAdd, Int.reduceSub, Nat.reduceBEq, decide_true, decide_false, undef, beq_self_eq_true, bne_self_eq_false, Bool.and_true, Bool.true_and, Bool.and_false, Bool.false_and, Bool.or_true, Bool.true_or, Bool.or_false, Bool.false_or, w1, w2, List.set_cons_succ, List.set_cons_zero]
    repeat' (first | refine AndL.mk ?_ ?_ | simp only [go_sem, Nat.reduceEqDiff, Nat.reduceAdd, Nat.reduceSub, Nat.reduceMul, Nat.reduceLT, Nat.reduceLeDiff, Nat.reduceMod, Nat.reduceDiv, Int.reduceToNat, Int.reduceLT, Int.reduceLE, Bool.not_true, Bool.not_false, reduceIte, List.length_map, maxLen])
    · exact ⟨⟨by omega, by omega, by omega⟩, ⟨by omega, by omega, by omega⟩, 1 + v, 1 + v', 2, 3, 4, _, _, by omega, by omega, by omega, by omega, by omega, rfl, rfl, rfl, rfl, rfl, rfl, rfl, .inl ⟨rfl, rfl, (sums_zero _ _).symm, (sums_zero _ _).symm⟩⟩
    · exact ⟨⟨by omega, by omega, by omega⟩, ⟨by omega, by omega, by omega⟩, 1 + v, 1 + v', 2, 4, 3, _, _, by omega, by omega, by omega, by omega, by omega, rfl, rfl, rfl, rfl, rfl, rfl, rfl, .inr ⟨rfl, rfl, (sums_zero _ _).symm, (sums_zero _ _).symm⟩⟩
  rintro ⟨env, σ, df, k⟩ ⟨H, V, a, p, q, X, Y, hH1, hH3, hV1, hV3, ha, h2, h3, h5, h6, h7, h8, h9, hσ, hdf, hk, hXY⟩
  simp only at h2 h3 h5 h6 h7 h8 h9 hσ hdf hk
  subst hσ hdf hk
  -- the bathers
  refine awpL_chop 1 (c1 := ?d1) (c2 := ?d2) (fun s => ∃ (bs : List B) (ks : List Int) (a : Nat), Made H V bs ks H 0 ∧ a ≤ 1000 ∧ lk s.env 2 = .ptr 1 0 ∧ lk s.env 3 = .loc 6 bs.length ∧ lk s.env 5 = madeFn ∧ lk s.env 8 = .loc 3 H ∧ lk s.env 9 = .loc 4 V ∧ s.df = [] ∧ s.k = 0 ∧
      s.σ = [.cells [.t (tBy ws)], .cells [.loc 5 bs.length, .t nilT, .t nilT], .cells [.t (vi a)], rowI (sumsOf B.hut H bs ks), rowI (sumsOf B.half V bs ks), rowB bs, rowI ks]) ?hc2 ?_ ?_
  case hc2 => simp only [chop]; rfl
  · simp only [go_sem, Nat.reduceEqDiff, Nat.reduceAdd, Nat.reduceSub, Nat.reduceMul, Nat.reduceLT, Nat.reduceLeDiff, Nat.reduceMod, Nat.reduceDiv, Int.reduceToNat, Int.reduceLT, Int.reduceLE, Bool.not_true, Bool.not_false, reduceIte, Int.reduceEq, Int.reduceBEq, Int.reduceBNe, Int.reduceGT, Int.reduceGE, Int.reduceNeg, Int.reduceAdd, Int.reduceSub, Nat.reduceBEq, decide_true, decide_false, undef, beq_self_eq_true, bne_self_eq_false, Bool.and_true, Bool.true_and, Bool.and_false, Bool.false_and, Bool.or_true, Bool.true_or, Bool.or_false, Bool.false_or, h6]
    refine awpL_for (i := 30) (L := 29) H (fun i s => ∃ (bs : List B) (ks : List Int) (a : Nat), Made H V bs ks i 0 ∧ a ≤ 10 + 30 * i ∧ s = { env := [(30, .t (vi i)), (29, .t (vi H)), (2, .ptr 1 0), (3, .loc 6 bs.length), (5, madeFn), (7, .t (vi V)), (8, .loc 3 H), (9, .loc 4 V)], σ := [.cells [.t (tBy ws)], .cells [.loc 5 bs.length, .t nilT, .t nilT], .cells [.t (vi a)], rowI (sumsOf B.hut H bs ks), rowI (sumsOf B.half V bs ks), rowB bs, rowI ks] })
      ?_ ?_ ?_ ?_
    · rintro i s ⟨bs, ks, a, _, _, rfl⟩; exact ⟨rfl, rfl⟩
    · rcases hXY with ⟨rfl, rfl, rfl, rfl⟩ | ⟨rfl, rfl, rfl, rfl⟩
      · refine ⟨_, (Sub.ghostC 1 0 6 (by decide) rfl rfl).trans ((Sub.ghost 3 1 (by decide) (by simp only [lk, Nat.reduceEqDiff, reduceIte, h3]; rfl)).trans (Sub.gc [0, 1, 2, 3, 4, 5, 6] [30, 29, 2, 3, 5, 7, 8, 9] rfl rfl)), [], [], a, Made.nil H V, by omega, ?_⟩
        exact St.gc_mk (by simp only [List.map_cons, List.map_nil, lk, Nat.reduceEqDiff, reduceIte, h2, h5, h7, h8, h9]; rfl) (by simp only [rowI, List.set_cons_zero, List.set_cons_succ, List.cons_append, List.nil_append, σgc, AO.gc, List.map_cons, List.map_nil, List.getD_cons_zero, List.getD_cons_succ, List.map_append, gc_t, gc_row, gc_rowI]; rfl) rfl rfl
      · refine ⟨_, (Sub.ghostC 1 0 6 (by decide) rfl rfl).trans ((Sub.ghost 3 1 (by decide) (by simp only [lk, Nat.reduceEqDiff, reduceIte, h3]; rfl)).trans (Sub.gc [0, 1, 2, 4, 3, 5, 6] [30, 29, 2, 3, 5, 7, 8, 9] rfl rfl)), [], [], a, Made.nil H V, by omega, ?_⟩
        exact St.gc_mk (by simp only [List.map_cons, List.map_nil, lk, Nat.reduceEqDiff, reduceIte, h2, h5, h7, h8, h9]; rfl) (by simp only [rowI, List.set_cons_zero, List.set_cons_succ, List.cons_append, List.nil_append, σgc, AO.gc, List.map_cons, List.map_nil, List.getD_cons_zero, List.getD_cons_succ, List.map_append, gc_t, gc_row, gc_rowI]; rfl) rfl rfl
    · rintro i s hi ⟨bs, ks, a, hM, ha, rfl⟩
      have hwi : IntKind.i64.wrap ((i : Int) + 1) = ((i + 1 : Nat) : Int) := by rw [wrap_id (by omega) (by omega)]; omega
      simp only [go_sem, Nat.reduceEqDiff, Nat.reduceAdd, Nat.reduceSub, Nat.reduceMul, Nat.reduceLT, Nat.reduceLeDiff, Nat.reduceMod, Nat.reduceDiv, Int.reduceToNat, Int.reduceLT, Int.reduceLE, Bool.not_true, Bool.not_false, reduceIte, Int.reduceEq, Int.reduceBEq, Int.reduceBNe, Int.reduceGT, Int.reduceGE, Int.reduceNeg, Int.reduceAdd, Int.reduceSub, Nat.reduceBEq, decide_true, decide_false, undef, beq_self_eq_true, bne_self_eq_false, Bool.and_true, Bool.true_and, Bool.and_false, Bool.false_and, Bool.or_true, Bool.true_or, Bool.or_false, Bool.false_or]
      refine awpL_for (i := 34) (L := 33) V (fun j s => ∃ (bs : List B) (ks : List Int) (a : Nat), Made H V bs ks i j ∧ a ≤ 10 + 30 * i + 10 * j ∧ s = { env := [(34, .t (vi j)), (33, .t (vi V)), (10, .t (vi i)), (30, .t (vi i)), (29, .t (vi H)), (2, .ptr 1 0), (3, .loc 6 bs.length), (5, madeFn), (7, .t (vi V)), (8, .loc 3 H), (9, .loc 4 V)], σ := [.cells [.t (tBy ws)], .cells [.loc 5 bs.length, .t nilT, .t nilT], .cells [.t (vi a)], rowI (sumsOf B.hut H bs ks), rowI (sumsOf B.half V bs ks), rowB bs, rowI ks] })
        ?_ ?_ ?_ ?_
      · rintro j s ⟨bs, ks, a, _, _, rfl⟩; exact ⟨rfl, rfl⟩
      · refine ⟨_, Sub.gc [0, 1, 2, 3, 4, 5, 6] [34, 33, 10, 30, 29, 2, 3, 5, 7, 8, 9] rfl rfl, bs, ks, a, hM, by omega, ?_⟩
        exact St.gc_mk rfl (by simp only [rowI, rowB, List.set_cons_zero, List.set_cons_succ, List.cons_append, List.nil_append, σgc, AO.gc, List.map_cons, List.map_nil, List.getD_cons_zero, List.getD_cons_succ, List.map_append, gc_t, gc_row, gc_rowI]; rfl) rfl rfl
      · rintro j s hj ⟨bs, ks, a, hM, ha, rfl⟩
        have hwj : IntKind.i64.wrap ((j : Int) + 1) = ((j + 1 : Nat) : Int) := by rw [wrap_id (by omega) (by omega)]; omega
        have hm6 := hM.m6
        have hlen := hM.len
        simp only [madeFn, go_sem, Nat.reduceEqDiff, Nat.reduceAdd, Nat.reduceSub, Nat.reduceMul, Nat.reduceLT, Nat.reduceLeDiff, Nat.reduceMod, Nat.reduceDiv, Int.reduceToNat, Int.reduceLT, Int.reduceLE, Bool.not_true, Bool.not_false, reduceIte, Int.reduceEq, Int.reduceBEq, Int.reduceBNe, Int.reduceGT, Int.reduceGE, Int.reduceNeg, Int.reduceAdd, Int.reduceSub, Nat.reduceBEq, decide_true, decide_false, undef, beq_self_eq_true, bne_self_eq_false, Bool.and_true, Bool.true_and, Bool.and_false, Bool.false_and, Bool.or_true, Bool.true_or, Bool.or_false, Bool.false_or]
        refine draw_at ws hw hl (p := 2) (q := 0) (n := 4) (a := a) (by omega) (by omega) (by omega) rfl rfl (by decide) fun v1 hv1 => ?_
        simp only [rowB, rowI, go_sem, Nat.reduceEqDiff, Nat.reduceAdd, Nat.reduceSub, Nat.reduceMul, Nat.reduceLT, Nat.reduceLeDiff, Nat.reduceMod, Nat.reduceDiv, Int.reduceToNat, Int.reduceLT, Int.reduceLE, Bool.not_true, Bool.not_false, reduceIte, Int.reduceEq, Int.reduceBEq, Int.reduceBNe, Int.reduceGT, Int.reduceGE, Int.reduceNeg, Int.reduceAdd, Int.reduceSub, Nat.reduceBEq, decide_true, decide_false, undef, beq_self_eq_true, bne_self_eq_false, Bool.and_true, Bool.true_and, Bool.and_false, Bool.false_and, Bool.or_true, Bool.true_or, Bool.or_false, Bool.false_or, List.set_cons_succ, List.set_cons_zero]
        cases hz : ((v1 : Int) == 0)
        · simp only [go_sem, Nat.reduceEqDiff, Nat.reduceAdd, Nat.reduceSub, Nat.reduceMul, Nat.reduceLT, Nat.reduceLeDiff, Nat.reduceMod, Nat.reduceDiv, Int.reduceToNat, Int.reduceLT, Int.reduceLE, Bool.not_true, Bool.not_false, reduceIte, Int.reduceEq, Int.reduceBEq, Int.reduceBNe, Int.reduceGT, Int.reduceGE, Int.reduceNeg, Int.reduceAdd, Int.reduceSub, Nat.reduceBEq, decide_true, decide_false, undef, beq_self_eq_true, bne_self_eq_false, Bool.and_true, Bool.true_and, Bool.and_false, Bool.false_and, Bool.or_true, Bool.true_or, Bool.or_false, Bool.false_or, hz, List.length_map]
          cases h6 : decide ((bs.length : Int) ≥ 6)
          · have hlt : bs.length < 6 := by have : ¬ (bs.length : Int) ≥ 6 := by simpa using h6
                                           omega
            simp only [go_sem, Nat.reduceEqDiff, Nat.reduceAdd, Nat.reduceSub, Nat.reduceMul, Nat.reduceLT, Nat.reduceLeDiff, Nat.reduceMod, Nat.reduceDiv, Int.reduceToNat, Int.reduceLT, Int.reduceLE, Bool.not_true, Bool.not_false, reduceIte, Int.reduceEq, Int.reduceBEq, Int.reduceBNe, Int.reduceGT, Int.reduceGE, Int.reduceNeg, Int.reduceAdd, Int.reduceSub, Nat.reduceBEq, decide_true, decide_false, undef, beq_self_eq_true, bne_self_eq_false, Bool.and_true, Bool.true_and, Bool.and_false, Bool.false_and, Bool.or_true, Bool.true_or, Bool.or_false, Bool.false_or, h6]
            refine draw_at ws hw hl (p := 2) (q := 0) (n := 5) (a := a + 1) (by omega) (by omega) (by omega) rfl rfl (by decide) fun v2 hv2 => ?_
            have q1 : IntKind.i64.wrap ((v2 : Int) + 1) = ((v2 + 1 : Nat) : Int) := by rw [wrap_id (by omega) (by omega)]; omega
            simp only [go_sem, Nat.reduceEqDiff, Nat.reduceAdd, Nat.reduceSub, Nat.reduceMul, Nat.reduceLT, Nat.reduceLeDiff, Nat.reduceMod, Nat.reduceDiv, Int.reduceToNat, Int.reduceLT, Int.reduceLE, Bool.not_true, Bool.not_false, reduceIte, Int.reduceEq, Int.reduceBEq, Int.reduceBNe, Int.reduceGT, Int.reduceGE, Int.reduceNeg, Int.reduceAdd, Int.reduceSub, Nat.reduceBEq, decide_true, decide_false, undef, beq_self_eq_true, bne_self_eq_false, Bool.and_true, Bool.true_and, Bool.and_false, Bool.false_and, Bool.or_true, Bool.true_or, Bool.or_false, Bool.false_or, List.set_cons_succ, List.set_cons_zero, q1]
            refine draw_at ws hw hl (p := 2) (q := 0) (n := v2 + 1) (a := a + 2) (by omega) (by omega) (by omega) rfl rfl (by decide) fun v3 hv3 => ?_
            simp only [go_sem, Nat.reduceEqDiff, Nat.reduceAdd, Nat.reduceSub, Nat.reduceMul, Nat.reduceLT, Nat.reduceLeDiff, Nat.reduceMod, Nat.reduceDiv, Int.reduceToNat, Int.reduceLT, Int.reduceLE, Bool.not_true, Bool.not_false, reduceIte, Int.reduceEq, Int.reduceBEq, Int.reduceBNe, Int.reduceGT, Int.reduceGE, Int.reduceNeg, Int.reduceAdd, Int.reduceSub, Nat.reduceBEq, decide_true, decide_false, undef, beq_self_eq_true, bne_self_eq_false, Bool.and_true, Bool.true_and, Bool.and_false, Bool.false_and, Bool.or_true, Bool.true_or, Bool.or_false, Bool.false_or, List.set_cons_succ, List.set_cons_zero]
            refine draw_at ws hw hl (p := 2) (q := 0) (n := 2) (a := a + 3) (by omega) (by omega) (by omega) rfl rfl (by decide) fun d1 hd1 => ?_
            simp only [go_sem, Nat.reduceEqDiff, Nat.reduceAdd, Nat.reduceSub, Nat.reduceMul, Nat.reduceLT, Nat.reduceLeDiff, Nat.reduceMod, Nat.reduceDiv, Int.reduceToNat, Int.reduceLT, Int.reduceLE, Bool.not_true, Bool.not_false, reduceIte, Int.reduceEq, Int.reduceBEq, Int.reduceBNe, Int.reduceGT, Int.reduceGE, Int.reduceNeg, Int.reduceAdd, Int.reduceSub, Nat.reduceBEq, decide_true, decide_false, undef, beq_self_eq_true, bne_self_eq_false, Bool.and_true, Bool.true_and, Bool.and_false, Bool.false_and, Bool.or_true, Bool.true_or, Bool.or_false, Bool.false_or, List.set_cons_succ, List.set_cons_zero]
            refine draw_at ws hw hl (p := 2) (q := 0) (n := 2) (a := a + 4) (by omega) (by omega) (by omega) rfl rfl (by decide) fun d2 hd2 => ?_
            have q2 : IntKind.i64.wrap ((v2 : Int) - d1) = (v2 : Int) - d1 := wrap_id (by omega) (by omega)
            have q3 : IntKind.i64.wrap ((v2 : Int) + d2) = (v2 : Int) + d2 := wrap_id (by omega) (by omega)
            simp only [go_sem, Nat.reduceEqDiff, Nat.reduceAdd, Nat.reduceSub, Nat.reduceMul, Nat.reduceLT, Nat.reduceLeDiff, Nat.reduceMod, Nat.reduceDiv, Int.reduceToNat, Int.reduceLT, Int.reduceLE, Bool.not_true, Bool.not_false, reduceIte, Int.reduceEq, Int.reduceBEq, Int.reduceBNe, Int.reduceGT, Int.reduceGE, Int.reduceNeg, Int.reduceAdd, Int.reduceSub, Nat.reduceBEq, decide_true, decide_false, undef, beq_self_eq_true, bne_self_eq_false, Bool.and_true, Bool.true_and, Bool.and_false, Bool.false_and, Bool.or_true, Bool.true_or, Bool.or_false, Bool.false_or, List.set_cons_succ, List.set_cons_zero, q2, q3]
            refine ACallL.quiet1 (span_ok (max 0 ((v2 : Int) - d1)) (min 4 ((v2 : Int) + d2))) rfl rfl rfl ?_
            simp only [go_sem, Nat.reduceEqDiff, Nat.reduceAdd, Nat.reduceSub, Nat.reduceMul, Nat.reduceLT, Nat.reduceLeDiff, Nat.reduceMod, Nat.reduceDiv, Int.reduceToNat, Int.reduceLT, Int.reduceLE, Bool.not_true, Bool.not_false, reduceIte, Int.reduceEq, Int.reduceBEq, Int.reduceBNe, Int.reduceGT, Int.reduceGE, Int.reduceNeg, Int.reduceAdd, Int.reduceSub, Nat.reduceBEq, decide_true, decide_false, undef, beq_self_eq_true, bne_self_eq_false, Bool.and_true, Bool.true_and, Bool.and_false, Bool.false_and, Bool.or_true, Bool.true_or, Bool.or_false, Bool.false_or, List.set_cons_succ, List.set_cons_zero]
            refine draw_at ws hw hl (p := 2) (q := 0) (n := 2) (a := a + 5) (by omega) (by omega) (by omega) rfl rfl (by decide) fun d3 hd3 => ?_
            simp only [go_sem, Nat.reduceEqDiff, Nat.reduceAdd, Nat.reduceSub, Nat.reduceMul, Nat.reduceLT, Nat.reduceLeDiff, Nat.reduceMod, Nat.reduceDiv, Int.reduceToNat, Int.reduceLT, Int.reduceLE, Bool.not_true, Bool.not_false, reduceIte, Int.reduceEq, Int.reduceBEq, Int.reduceBNe, Int.reduceGT, Int.reduceGE, Int.reduceNeg, Int.reduceAdd, Int.reduceSub, Nat.reduceBEq, decide_true, decide_false, undef, beq_self_eq_true, bne_self_eq_false, Bool.and_true, Bool.true_and, Bool.and_false, Bool.false_and, Bool.or_true, Bool.true_or, Bool.or_false, Bool.false_or, List.set_cons_succ, List.set_cons_zero]
            refine draw_at ws hw hl (p := 2) (q := 0) (n := 2) (a := a + 6) (by omega) (by omega) (by omega) rfl rfl (by decide) fun d4 hd4 => ?_
            have q4 : IntKind.i64.wrap ((v3 : Int) - d3) = (v3 : Int) - d3 := wrap_id (by omega) (by omega)
            have q5 : IntKind.i64.wrap ((v3 : Int) + d4) = (v3 : Int) + d4 := wrap_id (by omega) (by omega)
            simp only [go_sem, Nat.reduceEqDiff, Nat.reduceAdd, Nat.reduceSub, Nat.reduceMul, Nat.reduceLT, Nat.reduceLeDiff, Nat.reduceMod, Nat.reduceDiv, Int.reduceToNat, Int.reduceLT, Int.reduceLE, Bool.not_true, Bool.not_false, reduceIte, Int.reduceEq, Int.reduceBEq, Int.reduceBNe, Int.reduceGT, Int.reduceGE, Int.reduceNeg, Int.reduceAdd, Int.reduceSub, Nat.reduceBEq, decide_true, decide_false, undef, beq_self_eq_true, bne_self_eq_false, Bool.and_true, Bool.true_and, Bool.and_false, Bool.false_and, Bool.or_true, Bool.true_or, Bool.or_false, Bool.false_or, List.set_cons_succ, List.set_cons_zero, q4, q5]
            refine ACallL.quiet1 (span_ok (max 0 ((v3 : Int) - d3)) (min 4 ((v3 : Int) + d4))) rfl rfl rfl ?_
            simp only [go_sem, Nat.reduceEqDiff, Nat.reduceAdd, Nat.reduceSub, Nat.reduceMul, Nat.reduceLT, Nat.reduceLeDiff, Nat.reduceMod, Nat.reduceDiv, Int.reduceToNat, Int.reduceLT, Int.reduceLE, Bool.not_true, Bool.not_false, reduceIte, Int.reduceEq, Int.reduceBEq, Int.reduceBNe, Int.reduceGT, Int.reduceGE, Int.reduceNeg, Int.reduceAdd, Int.reduceSub, Nat.reduceBEq, decide_true, decide_false, undef, beq_self_eq_true, bne_self_eq_false, Bool.and_true, Bool.true_and, Bool.and_false, Bool.false_and, Bool.or_true, Bool.true_or, Bool.or_false, Bool.false_or, List.set_cons_succ, List.set_cons_zero]
            refine ACallL.quiet1 (bather_ok (i : Int) (j : Int) (max 0 ((v2 : Int) - d1)) (min 4 ((v2 : Int) + d2)) (max 0 ((v3 : Int) - d3)) (min 4 ((v3 : Int) + d4))) rfl rfl rfl ?_
            simp only [go_sem, Nat.reduceEqDiff, Nat.reduceAdd, Nat.reduceSub, Nat.reduceMul, Nat.reduceLT, Nat.reduceLeDiff, Nat.reduceMod, Nat.reduceDiv, Int.reduceToNat, Int.reduceLT, Int.reduceLE, Bool.not_true, Bool.not_false, reduceIte, Int.reduceEq, Int.reduceBEq, Int.reduceBNe, Int.reduceGT, Int.reduceGE, Int.reduceNeg, Int.reduceAdd, Int.reduceSub, Nat.reduceBEq, decide_true, decide_false, undef, beq_self_eq_true, bne_self_eq_false, Bool.and_true, Bool.true_and, Bool.and_false, Bool.false_and, Bool.or_true, Bool.true_or, Bool.or_false, Bool.false_or, List.set_cons_succ, List.set_cons_zero, List.length_map, maxLen, hlen]
            refine ⟨⟨by omega, by omega⟩, ⟨by omega, by omega⟩, ?_⟩
            have hgH := sumsOf_get B.hut H bs ks hi
            have hgV := sumsOf_get B.half V bs ks hj
            have hbH := hM.sum (fun b => b.hut == (i : Int))
            have hbV := hM.sum (fun b => b.half == (j : Int))
            have hlH := sumsOf_len B.hut H bs ks
            have hlV := sumsOf_len B.half V bs ks
            have hsH := sumsOf_snoc B.hut H bs ks ⟨i, j, max 0 ((v2 : Int) - d1), min 4 ((v2 : Int) + d2), max 0 ((v3 : Int) - d3), min 4 ((v3 : Int) + d4)⟩ ((v2 : Int) - v3) hlen hi rfl
            have hsV := sumsOf_snoc B.half V bs ks ⟨i, j, max 0 ((v2 : Int) - d1), min 4 ((v2 : Int) + d2), max 0 ((v3 : Int) - d3), min 4 ((v3 : Int) + d4)⟩ ((v2 : Int) - v3) hlen hj rfl
            have hM' := hM.push hi hj hlt (b := ⟨i, j, max 0 ((v2 : Int) - d1), min 4 ((v2 : Int) + d2), max 0 ((v3 : Int) - d3), min 4 ((v3 : Int) + d4)⟩) (k := (v2 : Int) - v3) ⟨rfl, rfl⟩ (by simp only; omega) (by unfold words; simp only; omega) (by omega)
            have q6 : IntKind.i64.wrap ((v2 : Int) - v3) = (v2 : Int) - v3 := wrap_id (by omega) (by omega)
            generalize sumSel (fun b => b.hut == (i : Int)) bs ks = sH at *
            generalize sumSel (fun b => b.half == (j : Int)) bs ks = sV at *
            have q7 : IntKind.i64.wrap (sH + ((v2 : Int) - v3)) = sH + ((v2 : Int) - v3) := wrap_id (by omega) (by omega)
            have q8 : IntKind.i64.wrap (sV + ((v2 : Int) - v3)) = sV + ((v2 : Int) - v3) := wrap_id (by omega) (by omega)
            generalize sumsOf B.hut H bs ks = LH at *
            generalize sumsOf B.half V bs ks = LV at *
            have hiH : (i : Int) < H := by omega
            have hjV : (j : Int) < V := by omega
            simp only [go_sem, Nat.reduceEqDiff, Nat.reduceAdd, Nat.reduceSub, Nat.reduceMul, Nat.reduceLT, Nat.reduceLeDiff, Nat.reduceMod, Nat.reduceDiv, Int.reduceToNat, Int.reduceLT, Int.reduceLE, Bool.not_true, Bool.not_false, reduceIte, Int.reduceEq, Int.reduceBEq, Int.reduceBNe, Int.reduceGT, Int.reduceGE, Int.reduceNeg, Int.reduceAdd, Int.reduceSub, Nat.reduceBEq, decide_true, decide_false, undef, beq_self_eq_true, bne_self_eq_false, Bool.and_true, Bool.true_and, Bool.and_false, Bool.false_and, Bool.or_true, Bool.true_or, Bool.or_false, Bool.false_or, List.set_cons_succ, List.set_cons_zero, hlH, hlV, List.getElem?_map, hgH, hgV, List.length_map, List.length_set, q6, q7, q8, hwj]
            refine ⟨hiH, hiH, hjV, hjV, _, Sub.gc [0, 1, 2, 3, 4, 5, 6] [34, 33, 10, 30, 29, 2, 3, 5, 7, 8, 9] rfl rfl, _, _, a + 7, hM', by omega, ?_⟩
            rw [hsH, hsV]
            have hl1 : (bs ++ [(⟨i, j, max 0 ((v2 : Int) - d1), min 4 ((v2 : Int) + d2), max 0 ((v3 : Int) - d3), min 4 ((v3 : Int) + d4)⟩ : B)]).length = bs.length + 1 := by simp
            rw [hl1]
            exact St.gc_mk rfl (by simp only [rowI, rowB, List.set_cons_zero, List.set_cons_succ, List.cons_append, List.nil_append, σgc, AO.gc, List.map_cons, List.map_nil, List.getD_cons_zero, List.getD_cons_succ, List.map_append, gc_t, gc_row, gc_rowI, List.map_set]; rfl) rfl rfl
          · simp only [go_sem, Nat.reduceEqDiff, Nat.reduceAdd, Nat.reduceSub, Nat.reduceMul, Nat.reduceLT, Nat.reduceLeDiff, Nat.reduceMod, Nat.reduceDiv, Int.reduceToNat, Int.reduceLT, Int.reduceLE, Bool.not_true, Bool.not_false, reduceIte, Int.reduceEq, Int.reduceBEq, Int.reduceBNe, Int.reduceGT, Int.reduceGE, Int.reduceNeg, Int.reduceAdd, Int.reduceSub, Nat.reduceBEq, decide_true, decide_false, undef, beq_self_eq_true, bne_self_eq_false, Bool.and_true, Bool.true_and, Bool.and_false, Bool.false_and, Bool.or_true, Bool.true_or, Bool.or_false, Bool.false_or, h6, hwj]
            refine ⟨_, Sub.gc [0, 1, 2, 3, 4, 5, 6] [34, 33, 10, 30, 29, 2, 3, 5, 7, 8, 9] rfl rfl, bs, ks, a + 1, hM.skip, by omega, ?_⟩
            exact St.gc_mk rfl (by simp only [rowI, rowB, List.set_cons_zero, List.set_cons_succ, List.cons_append, List.nil_append, σgc, AO.gc, List.map_cons, List.map_nil, List.getD_cons_zero, List.getD_cons_succ, List.map_append, gc_t, gc_row, gc_rowI]; rfl) rfl rfl
        · simp only [go_sem, Nat.reduceEqDiff, Nat.reduceAdd, Nat.reduceSub, Nat.reduceMul, Nat.reduceLT, Nat.reduceLeDiff, Nat.reduceMod, Nat.reduceDiv, Int.reduceToNat, Int.reduceLT, Int.reduceLE, Bool.not_true, Bool.not_false, reduceIte, Int.reduceEq, Int.reduceBEq, Int.reduceBNe, Int.reduceGT, Int.reduceGE, Int.reduceNeg, Int.reduceAdd, Int.reduceSub, Nat.reduceBEq, decide_true, decide_false, undef, beq_self_eq_true, bne_self_eq_false, Bool.and_true, Bool.true_and, Bool.and_false, Bool.false_and, Bool.or_true, Bool.true_or, Bool.or_false, Bool.false_or, hz, hwj]
          refine ⟨_, Sub.gc [0, 1, 2, 3, 4, 5, 6] [34, 33, 10, 30, 29, 2, 3, 5, 7, 8, 9] rfl rfl, bs, ks, a + 1, hM.skip, by omega, ?_⟩
          exact St.gc_mk rfl (by simp only [rowI, rowB, List.set_cons_zero, List.set_cons_succ, List.cons_append, List.nil_append, σgc, AO.gc, List.map_cons, List.map_nil, List.getD_cons_zero, List.getD_cons_succ, List.map_append, gc_t, gc_row, gc_rowI]; rfl) rfl rfl
      · rintro s ⟨bs, ks, a, hM, ha, rfl⟩
        simp only [go_sem, Nat.reduceEqDiff, Nat.reduceAdd, Nat.reduceSub, Nat.reduceMul, Nat.reduceLT, Nat.reduceLeDiff, Nat.reduceMod, Nat.reduceDiv, Int.reduceToNat, Int.reduceLT, Int.reduceLE, Bool.not_true, Bool.not_false, reduceIte, Int.reduceEq, Int.reduceBEq, Int.reduceBNe, Int.reduceGT, Int.reduceGE, Int.reduceNeg, Int.reduceAdd, Int.reduceSub, Nat.reduceBEq, decide_true, decide_false, undef, beq_self_eq_true, bne_self_eq_false, Bool.and_true, Bool.true_and, Bool.and_false, Bool.false_and, Bool.or_true, Bool.true_or, Bool.or_false, Bool.false_or, hwi]
        refine ⟨_, Sub.gc [0, 1, 2, 3, 4, 5, 6] [30, 29, 2, 3, 5, 7, 8, 9] rfl rfl, bs, ks, a, hM.next, by omega, ?_⟩
        exact St.gc_mk rfl (by simp only [rowI, rowB, List.set_cons_zero, List.set_cons_succ, List.cons_append, List.nil_append, σgc, AO.gc, List.map_cons, List.map_nil, List.getD_cons_zero, List.getD_cons_succ, List.map_append, gc_t, gc_row, gc_rowI]; rfl) rfl rfl
    · rintro s ⟨bs, ks, a, hM, ha, rfl⟩
      exact ⟨bs, ks, a, hM, by omega, rfl, rfl, rfl, rfl, rfl, rfl, rfl, rfl⟩
  rintro ⟨env2, σ2, df2, k2⟩ ⟨bs, ks, a, hM, ha, g2, g3, g5, g8, g9, hdf2, hk2, hσ2⟩
  simp only at g2 g3 g5 g8 g9 hσ2 hdf2 hk2
  subst hσ2 hdf2 hk2
  -- the counts of huts
  refine awpL_chop 1 (c1 := ?e1) (c2 := ?e2) (fun s => ∃ (hs : List (Int × Int)) (a : Nat), hs.length = H ∧ (∀ (n : Nat) s, hs[n]? = some s → 0 ≤ s.1 ∧ s.1 ≤ sumSel (fun b => b.hut == (n : Int)) bs ks ∧ sumSel (fun b => b.hut == (n : Int)) bs ks ≤ s.2 ∧ s.2 ≤ 24) ∧ a ≤ 2000 ∧ lk s.env 2 = .ptr 1 0 ∧ lk s.env 3 = .loc 6 bs.length ∧ lk s.env 5 = madeFn ∧ lk s.env 9 = .loc 4 V ∧ s.df = [] ∧ s.k = 0 ∧
      s.σ = [.cells [.t (tBy ws)], .cells [.loc 5 bs.length, .loc 7 H, .t nilT], .cells [.t (vi a)], rowI (sumsOf B.hut H bs ks), rowI (sumsOf B.half V bs ks), rowB bs, rowI ks, rowS hs]) ?hc3 ?_ ?_
  case hc3 => simp only [chop]; rfl
  · have hlH := sumsOf_len B.hut H bs ks
    have hgH := fun i (hi : i < H) => sumsOf_get B.hut H bs ks hi
    have hbH := fun i : Nat => hM.sum (fun b => b.hut == (i : Int))
    generalize sumsOf B.hut H bs ks = LH at *
    simp only [rowI, go_sem, Nat.reduceEqDiff, Nat.reduceAdd, Nat.reduceSub, Nat.reduceMul, Nat.reduceLT, Nat.reduceLeDiff, Nat.reduceMod, Nat.reduceDiv, Int.reduceToNat, Int.reduceLT, Int.reduceLE, Bool.not_true, Bool.not_false, reduceIte, Int.reduceEq, Int.reduceBEq, Int.reduceBNe, Int.reduceGT, Int.reduceGE, Int.reduceNeg, Int.reduceAdd, Int.reduceSub, Nat.reduceBEq, decide_true, decide_false, undef, beq_self_eq_true, bne_self_eq_false, Bool.and_true, Bool.true_and, Bool.and_false, Bool.false_and, Bool.or_true, Bool.true_or, Bool.or_false, Bool.false_or, g8, List.length_map, hlH]
    refine awpL_for (i := 110) (L := 109) H (fun k s => ∃ (hs : List (Int × Int)) (a : Nat), hs.length = k ∧ (∀ (n : Nat) s, hs[n]? = some s → 0 ≤ s.1 ∧ s.1 ≤ sumSel (fun b => b.hut == (n : Int)) bs ks ∧ sumSel (fun b => b.hut == (n : Int)) bs ks ≤ s.2 ∧ s.2 ≤ 24) ∧ a ≤ 1000 + 2 * k ∧ s = { env := [(110, .t (vi k)), (109, .t (vi H)), (108, .loc 3 H), (2, .ptr 1 0), (3, .loc 6 bs.length), (5, madeFn), (9, .loc 4 V)], σ := [.cells [.t (tBy ws)], .cells [.loc 5 bs.length, .loc 7 k, .t nilT], .cells [.t (vi a)], rowI LH, rowI (sumsOf B.half V bs ks), rowB bs, rowI ks, rowS hs] })
      ?_ ?_ ?_ ?_
    · rintro k s ⟨hs, a, _, _, _, rfl⟩; exact ⟨rfl, rfl⟩
    · refine ⟨_, (Sub.ghostC 1 1 2 (by decide) rfl rfl).trans (Sub.gc [0, 1, 2, 3, 4, 5, 6, 7] [110, 109, 108, 2, 3, 5, 9] rfl rfl), [], a, rfl, by simp, by omega, ?_⟩
      exact St.gc_mk (by simp only [List.map_cons, List.map_nil, lk, Nat.reduceEqDiff, reduceIte, g2, g3, g5, g8, g9]; rfl) (by simp only [rowI, rowB, List.set_cons_zero, List.set_cons_succ, List.cons_append, List.nil_append, σgc, AO.gc, List.map_cons, List.map_nil, List.getD_cons_zero, List.getD_cons_succ, List.map_append, gc_t, gc_row, gc_rowI]; rfl) rfl rfl
    · rintro k s hk ⟨hs, a, hlen, hsp, ha, rfl⟩
      have hwk : IntKind.i64.wrap ((k : Int) + 1) = ((k + 1 : Nat) : Int) := by rw [wrap_id (by omega) (by omega)]; omega
      have hg := hgH k hk
      have hb := hbH k
      have hlt : (k : Int) < H := by omega
      generalize hsn : sumSel (fun b => b.hut == (k : Int)) bs ks = sn at *
      simp only [rowI, rowB, rowS, madeFn, go_sem, Nat.reduceEqDiff, Nat.reduceAdd, Nat.reduceSub, Nat.reduceMul, Nat.reduceLT, Nat.reduceLeDiff, Nat.reduceMod, Nat.reduceDiv, Int.reduceToNat, Int.reduceLT, Int.reduceLE, Bool.not_true, Bool.not_false, reduceIte, Int.reduceEq, Int.reduceBEq, Int.reduceBNe, Int.reduceGT, Int.reduceGE, Int.reduceNeg, Int.reduceAdd, Int.reduceSub, Nat.reduceBEq, decide_true, decide_false, undef, beq_self_eq_true, bne_self_eq_false, Bool.and_true, Bool.true_and, Bool.and_false, Bool.false_and, Bool.or_true, Bool.true_or, Bool.or_false, Bool.false_or, List.length_map, hlH, nat_neg, List.getElem?_map, hg]
      refine ⟨hlt, ?_⟩
      refine draw_at ws hw hl (p := 2) (q := 0) (n := 2) (a := a) (by omega) (by omega) (by omega) rfl rfl (by decide) fun d1 hd1 => ?_
      simp only [go_sem, Nat.reduceEqDiff, Nat.reduceAdd, Nat.reduceSub, Nat.reduceMul, Nat.reduceLT, Nat.reduceLeDiff, Nat.reduceMod, Nat.reduceDiv, Int.reduceToNat, Int.reduceLT, Int.reduceLE, Bool.not_true, Bool.not_false, reduceIte, Int.reduceEq, Int.reduceBEq, Int.reduceBNe, Int.reduceGT, Int.reduceGE, Int.reduceNeg, Int.reduceAdd, Int.reduceSub, Nat.reduceBEq, decide_true, decide_false, undef, beq_self_eq_true, bne_self_eq_false, Bool.and_true, Bool.true_and, Bool.and_false, Bool.false_and, Bool.or_true, Bool.true_or, Bool.or_false, Bool.false_or, List.set_cons_succ, List.set_cons_zero]
      refine draw_at ws hw hl (p := 2) (q := 0) (n := 2) (a := a + 1) (by omega) (by omega) (by omega) rfl rfl (by decide) fun d2 hd2 => ?_
      have q2 : IntKind.i64.wrap (sn - d1) = sn - d1 := wrap_id (by omega) (by omega)
      have q3 : IntKind.i64.wrap (sn + d2) = sn + d2 := wrap_id (by omega) (by omega)
      simp only [go_sem, Nat.reduceEqDiff, Nat.reduceAdd, Nat.reduceSub, Nat.reduceMul, Nat.reduceLT, Nat.reduceLeDiff, Nat.reduceMod, Nat.reduceDiv, Int.reduceToNat, Int.reduceLT, Int.reduceLE, Bool.not_true, Bool.not_false, reduceIte, Int.reduceEq, Int.reduceBEq, Int.reduceBNe, Int.reduceGT, Int.reduceGE, Int.reduceNeg, Int.reduceAdd, Int.reduceSub, Nat.reduceBEq, decide_true, decide_false, undef, beq_self_eq_true, bne_self_eq_false, Bool.and_true, Bool.true_and, Bool.and_false, Bool.false_and, Bool.or_true, Bool.true_or, Bool.or_false, Bool.false_or, List.set_cons_succ, List.set_cons_zero, q2, q3]
      refine ACallL.quiet1 (span_ok (max 0 (sn - d1)) (min 24 (sn + d2))) rfl rfl rfl ?_
      simp only [go_sem, Nat.reduceEqDiff, Nat.reduceAdd, Nat.reduceSub, Nat.reduceMul, Nat.reduceLT, Nat.reduceLeDiff, Nat.reduceMod, Nat.reduceDiv, Int.reduceToNat, Int.reduceLT, Int.reduceLE, Bool.not_true, Bool.not_false, reduceIte, Int.reduceEq, Int.reduceBEq, Int.reduceBNe, Int.reduceGT, Int.reduceGE, Int.reduceNeg, Int.reduceAdd, Int.reduceSub, Nat.reduceBEq, decide_true, decide_false, undef, beq_self_eq_true, bne_self_eq_false, Bool.and_true, Bool.true_and, Bool.and_false, Bool.false_and, Bool.or_true, Bool.true_or, Bool.or_false, Bool.false_or, List.set_cons_succ, List.set_cons_zero, List.length_map, hlen, maxLen, hwk]
      refine ⟨⟨by omega, by omega⟩, _, Sub.gc [0, 1, 2, 3, 4, 5, 6, 7] [110, 109, 108, 2, 3, 5, 9] rfl rfl, hs ++ [(max 0 (sn - d1), min 24 (sn + d2))], a + 2, by simp [hlen], ?_, by omega, ?_⟩
      · intro n s hn
        by_cases hnk : n < k
        · rw [List.getElem?_append_left (by omega)] at hn
          exact hsp n s hn
        · have := (List.getElem?_eq_some_iff.1 hn).1
          simp [hlen] at this
          obtain rfl : n = k := by omega
          rw [List.getElem?_append_right (by omega), hlen, Nat.sub_self] at hn
          simp at hn
          subst hn
          rw [hsn]
          simp only
          omega
      · exact St.gc_mk rfl (by simp only [rowI, rowB, rowS, List.set_cons_zero, List.set_cons_succ, List.cons_append, List.nil_append, σgc, AO.gc, List.map_cons, List.map_nil, List.getD_cons_zero, List.getD_cons_succ, List.map_append, gc_t, gc_row, gc_rowI]; rfl) rfl rfl
    · rintro s ⟨hs, a, hlen, hsp, ha, rfl⟩
      exact ⟨hs, a, hlen, hsp, by omega, rfl, rfl, rfl, rfl, rfl, rfl, rfl⟩
  rintro ⟨env3, σ3, df3, k3⟩ ⟨hs, a', hlen1, hsp1, ha', f2, f3, f5, f9, hdf3, hk3, hσ3⟩
  simp only at f2 f3 f5 f9 hσ3 hdf3 hk3
  subst hσ3 hdf3 hk3
  -- the counts of half hours
  refine awpL_chop 1 (c1 := ?f1) (c2 := ?f2) (fun s => ∃ (vs : List (Int × Int)) (A : AO), vs.length = V ∧ (∀ (n : Nat) s, vs[n]? = some s → 0 ≤ s.1 ∧ s.1 ≤ sumSel (fun b => b.half == (n : Int)) bs ks ∧ sumSel (fun b => b.half == (n : Int)) bs ks ≤ s.2 ∧ s.2 ≤ 24) ∧ lk s.env 2 = .ptr 1 0 ∧ lk s.env 3 = .loc 6 bs.length ∧ s.df = [] ∧ s.k = 0 ∧
      s.σ = [.cells [.t (tBy ws)], .cells [.loc 5 bs.length, .loc 7 H, .loc 8 V], A, rowI (sumsOf B.hut H bs ks), rowI (sumsOf B.half V bs ks), rowB bs, rowI ks, rowS hs, rowS vs]) ?hc4 ?_ ?_
  case hc4 => simp only [chop]; rfl
  · have hlV := sumsOf_len B.half V bs ks
    have hgV := fun i (hi : i < V) => sumsOf_get B.half V bs ks hi
    have hbV := fun i : Nat => hM.sum (fun b => b.half == (i : Int))
    generalize sumsOf B.half V bs ks = LV at *
    simp only [rowI, go_sem, Nat.reduceEqDiff, Nat.reduceAdd, Nat.reduceSub, Nat.reduceMul, Nat.reduceLT, Nat.reduceLeDiff, Nat.reduceMod, Nat.reduceDiv, Int.reduceToNat, Int.reduceLT, Int.reduceLE, Bool.not_true, Bool.not_false, reduceIte, Int.reduceEq, Int.reduceBEq, Int.reduceBNe, Int.reduceGT, Int.reduceGE, Int.reduceNeg, Int.reduceAdd, Int.reduceSub, Nat.reduceBEq, decide_true, decide_false, undef, beq_self_eq_true, bne_self_eq_false, Bool.and_true, Bool.true_and, Bool.and_false, Bool.false_and, Bool.or_true, Bool.true_or, Bool.or_false, Bool.false_or, f9, List.length_map, hlV]
    refine awpL_for (i := 133) (L := 132) V (fun k s => ∃ (vs : List (Int × Int)) (a : Nat), vs.length = k ∧ (∀ (n : Nat) s, vs[n]? = some s → 0 ≤ s.1 ∧ s.1 ≤ sumSel (fun b => b.half == (n : Int)) bs ks ∧ sumSel (fun b => b.half == (n : Int)) bs ks ≤ s.2 ∧ s.2 ≤ 24) ∧ a ≤ 2000 + 2 * k ∧ s = { env := [(133, .t (vi k)), (132, .t (vi V)), (131, .loc 4 V), (2, .ptr 1 0), (3, .loc 6 bs.length), (5, madeFn)], σ := [.cells [.t (tBy ws)], .cells [.loc 5 bs.length, .loc 7 H, .loc 8 k], .cells [.t (vi a)], rowI (sumsOf B.hut H bs ks), rowI LV, rowB bs, rowI ks, rowS hs, rowS vs] })
      ?_ ?_ ?_ ?_
    · rintro k s ⟨vs, a, _, _, _, rfl⟩; exact ⟨rfl, rfl⟩
    · refine ⟨_, (Sub.ghostC 1 2 2 (by decide) rfl rfl).trans (Sub.gc [0, 1, 2, 3, 4, 5, 6, 7, 8] [133, 132, 131, 2, 3, 5] rfl rfl), [], a', rfl, by simp, by omega, ?_⟩
      exact St.gc_mk (by simp only [List.map_cons, List.map_nil, lk, Nat.reduceEqDiff, reduceIte, f2, f3, f5, f9]; rfl) (by simp only [rowI, rowB, rowS, List.set_cons_zero, List.set_cons_succ, List.cons_append, List.nil_append, σgc, AO.gc, List.map_cons, List.map_nil, List.getD_cons_zero, List.getD_cons_succ, List.map_append, gc_t, gc_row, gc_rowI]; rfl) rfl rfl
    · rintro k s hk ⟨vs, a, hlen, hsp, ha, rfl⟩
      have hwk : IntKind.i64.wrap ((k : Int) + 1) = ((k + 1 : Nat) : Int) := by rw [wrap_id (by omega) (by omega)]; omega
      have hg := hgV k hk
      have hb := hbV k
      have hlt : (k : Int) < V := by omega
      generalize hsn : sumSel (fun b => b.half == (k : Int)) bs ks = sn at *
      simp only [rowI, rowB, rowS, madeFn, go_sem, Nat.reduceEqDiff, Nat.reduceAdd, Nat.reduceSub, Nat.reduceMul, Nat.reduceLT, Nat.reduceLeDiff, Nat.reduceMod, Nat.reduceDiv, Int.reduceToNat, Int.reduceLT, Int.reduceLE, Bool.not_true, Bool.not_false, reduceIte, Int.reduceEq, Int.reduceBEq, Int.reduceBNe, Int.reduceGT, Int.reduceGE, Int.reduceNeg, Int.reduceAdd, Int.reduceSub, Nat.reduceBEq, decide_true, decide_false, undef, beq_self_eq_true, bne_self_eq_false, Bool.and_true, Bool.true_and, Bool.and_false, Bool.false_and, Bool.or_true, Bool.true_or, Bool.or_false, Bool.false_or, List.length_map, hlV, nat_neg, List.getElem?_map, hg]
      refine ⟨hlt, ?_⟩
      refine draw_at ws hw hl (p := 2) (q := 0) (n := 2) (a := a) (by omega) (by omega) (by omega) rfl rfl (by decide) fun d1 hd1 => ?_
      simp only [go_sem, Nat.reduceEqDiff, Nat.reduceAdd, Nat.reduceSub, Nat.reduceMul, Nat.reduceLT, Nat.reduceLeDiff, Nat.reduceMod, Nat.reduceDiv, Int.reduceToNat, Int.reduceLT, Int.reduceLE, Bool.not_true, Bool.not_false, reduceIte, Int.reduceEq, Int.reduceBEq, Int.reduceBNe, Int.reduceGT, Int.reduceGE, Int.reduceNeg, Int.reduceAdd, Int.reduceSub, Nat.reduceBEq, decide_true, decide_false, undef, beq_self_eq_true, bne_self_eq_false, Bool.and_true, Bool.true_and, Bool.and_false, Bool.false_and, Bool.or_true, Bool.true_or, Bool.or_false, Bool.false_or, List.set_cons_succ, List.set_cons_zero]
      refine draw_at ws hw hl (p := 2) (q := 0) (n := 2) (a := a + 1) (by omega) (by omega) (by omega) rfl rfl (by decide) fun d2 hd2 => ?_
      have q2 : IntKind.i64.wrap (sn - d1) = sn - d1 := wrap_id (by omega) (by omega)
      have q3 : IntKind.i64.wrap (sn + d2) = sn + d2 := wrap_id (by omega) (by omega)
      simp only [go_sem, Nat.reduceEqDiff, Nat.reduceAdd, Nat.reduceSub, Nat.reduceMul, Nat.reduceLT, Nat.reduceLeDiff, Nat.reduceMod, Nat.reduceDiv, Int.reduceToNat, Int.reduceLT, Int.reduceLE, Bool.not_true, Bool.not_false, reduceIte, Int.reduceEq, Int.reduceBEq, Int.reduceBNe, Int.reduceGT, Int.reduceGE, Int.reduceNeg, Int.reduceAdd, Int.reduceSub, Nat.reduceBEq, decide_true, decide_false, undef, beq_self_eq_true, bne_self_eq_false, Bool.and_true, Bool.true_and, Bool.and_false, Bool.false_and, Bool.or_true, Bool.true_or, Bool.or_false, Bool.false_or, List.set_cons_succ, List.set_cons_zero, q2, q3]
      refine ACallL.quiet1 (span_ok (max 0 (sn - d1)) (min 24 (sn + d2))) rfl rfl rfl ?_
      simp only [go_sem, Nat.reduceEqDiff, Nat.reduceAdd, Nat.reduceSub, Nat.reduceMul, Nat.reduceLT, Nat.reduceLeDiff, Nat.reduceMod, Nat.reduceDiv, Int.reduceToNat, Int.reduceLT, Int.reduceLE, Bool.not_true, Bool.not_false, reduceIte, Int.reduceEq, Int.reduceBEq, Int.reduceBNe, Int.reduceGT, Int.reduceGE, Int.reduceNeg, Int.reduceAdd, Int.reduceSub, Nat.reduceBEq, decide_true, decide_false, undef, beq_self_eq_true, bne_self_eq_false, Bool.and_true, Bool.true_and, Bool.and_false, Bool.false_and, Bool.or_true, Bool.true_or, Bool.or_false, Bool.false_or, List.set_cons_succ, List.set_cons_zero, List.length_map, hlen, maxLen, hwk]
      refine ⟨⟨by omega, by omega⟩, _, Sub.gc [0, 1, 2, 3, 4, 5, 6, 7, 8] [133, 132, 131, 2, 3, 5] rfl rfl, vs ++ [(max 0 (sn - d1), min 24 (sn + d2))], a + 2, by simp [hlen], ?_, by omega, ?_⟩
      · intro n s hn
        by_cases hnk : n < k
        · rw [List.getElem?_append_left (by omega)] at hn
          exact hsp n s hn
        · have := (List.getElem?_eq_some_iff.1 hn).1
          simp [hlen] at this
          obtain rfl : n = k := by omega
          rw [List.getElem?_append_right (by omega), hlen, Nat.sub_self] at hn
          simp at hn
          subst hn
          rw [hsn]
          simp only
          omega
      · exact St.gc_mk rfl (by simp only [rowI, rowB, rowS, List.set_cons_zero, List.set_cons_succ, List.cons_append, List.nil_append, σgc, AO.gc, List.map_cons, List.map_nil, List.getD_cons_zero, List.getD_cons_succ, List.map_append, gc_t, gc_row, gc_rowI]; rfl) rfl rfl
    · rintro s ⟨vs, a, hlen, hsp, ha, rfl⟩
      exact ⟨vs, _, hlen, hsp, rfl, rfl, rfl, rfl, rfl⟩
  rintro ⟨env4, σ4, df4, k4⟩ ⟨vs, A, hlen2, hsp2, e2, e3, hdf4, hk4, hσ4⟩
  simp only at e2 e3 hσ4 hdf4 hk4
  subst hσ4 hdf4 hk4
  obtain ⟨hOK, hT⟩ := hM.towels hH3 hV3 hlen1 hlen2 hsp1 hsp2
  simp only [go_sem, Nat.reduceEqDiff, Nat.reduceAdd, Nat.reduceSub, Nat.reduceMul, Nat.reduceLT, Nat.reduceLeDiff, Nat.reduceMod, Nat.reduceDiv, Int.reduceToNat, Int.reduceLT, Int.reduceLE, Bool.not_true, Bool.not_false, reduceIte, Int.reduceEq, Int.reduceBEq, Int.reduceBNe, Int.reduceGT, Int.reduceGE, Int.reduceNeg, Int.reduceAdd, Int.reduceSub, Nat.reduceBEq, decide_true, decide_false, undef, beq_self_eq_true, bne_self_eq_false, Bool.and_true, Bool.true_and, Bool.and_false, Bool.false_and, Bool.or_true, Bool.true_or, Bool.or_false, Bool.false_or, e2, e3]
  have hgA : E.gc [] [.cells [.t (tBy ws)], .cells [.loc 5 bs.length, .loc 7 H, .loc 8 V], A, rowI (sumsOf B.hut H bs ks), rowI (sumsOf B.half V bs ks), rowB bs, rowI ks, rowS hs, rowS vs] 12 (.tup [.agg [.loc 5 bs.length, .loc 7 H, .loc 8 V], .loc 6 bs.length]) = .tup [.t (.agg (tw3 ⟨bs, hs, vs⟩)), .t (.slice 1 (ks.map vi))] := by
    rw [E.gc]
    simp only [List.map_cons, List.map_nil]
    rw [gc_loc (n := 9) (es := 1) (xs := ks.map vi) rfl (by simp only [rowI, List.map_map]; rfl) (by simp [hM.len])]
    rw [E.gc]
    simp only [List.map_cons, List.map_nil]
    rw [gc_loc (n := 8) (xs := bs.map tB) rfl rfl (by simp), gc_loc (n := 8) (xs := hs.map tS) rfl rfl (by simp [hlen1]), gc_loc (n := 8) (xs := vs.map tS) rfl rfl (by simp [hlen2])]
    rfl
  refine finL_ret [] ⟨rfl, rfl, rfl, rfl, .tup [.agg [.loc 5 bs.length, .loc 7 H, .loc 8 V], .loc 6 bs.length], ?_, rfl, ⟨bs, hs, vs⟩, ks, hOK, hT, congrArg Out.ret hgA⟩
  simp only [Lz_get, resV, resEs, lk, Nat.reduceEqDiff, reduceIte, e2]
  rfl
end Go.Proofs.Yticdacdflemoiaa

/- TowelTrue. -/
namespace Go.Proofs.Yticdacdflemoiaa
open Go Go.Ab

theorem size_push : ∀ k < 6, ∀ m < 2 ^ k, size (m ||| 2 ^ k) = size m + 1 := by decide +kernel
theorem size_maskOf (p : Nat → Bool) : ∀ k ≤ 6, size (maskOf p k) = (List.range k).countP p
  | 0, _ => by simp [maskOf]; decide
  | k + 1, h => by
    have ih := size_maskOf p k (by omega)
    rw [List.range_succ, List.countP_append]
    simp only [maskOf]
    cases hp : p k
    · simp [hp, ih]
    · simp [hp, size_push k (by omega) _ (maskOf_lt p k), ih]
theorem countP_range (l : List Int) (q : Int → Bool) : (List.range l.length).countP (fun i => q (l.getD i 0)) = l.countP q := by
  have : l = (List.range l.length).map fun i => l.getD i 0 := by
    apply List.ext_getElem
    · simp
    · intro i h1 h2
      simp [List.getD_eq_getElem?_getD, List.getElem?_eq_getElem h1]
  conv => rhs; rw [this]
  rw [List.countP_map]
  rfl
theorem size_someOf {l : List Int} (h : l.length ≤ 6) : size (someOf l) = l.countP fun x => decide (x > 0) := by
  unfold someOf
  rw [size_maskOf _ _ h]
  exact countP_range l fun x => decide (x > 0)

theorem sum_rng : ∀ {l : List Int}, (∀ x ∈ l, 0 ≤ x ∧ x ≤ 4) → 0 ≤ l.sum ∧ l.sum ≤ 4 * l.length
  | [], _ => by simp
  | x :: l, h => by
    have h1 := sum_rng (l := l) fun y hy => h y (by simp [hy])
    have h2 := h x (by simp)
    simp only [List.sum_cons, List.length_cons]
    omega
theorem sum_take1 {l : List Int} {k : Nat} {x : Int} (h : l[k]? = some x) : (l.take (k + 1)).sum = (l.take k).sum + x := by
  obtain ⟨hk, e⟩ := List.getElem?_eq_some_iff.1 h
  rw [List.take_succ_eq_append_getElem hk, List.sum_append, e]
  simp

theorem who_lo {D : List (List Int)} (hD : D ≠ []) {n k : Nat} (hk : k < n) : decide ((hullD (D.map fun l => l.getD k 0)).1 > 0) = (whoS D n).testBit k := by
  have hne : (D.map fun l => l.getD k 0) ≠ [] := by simpa using hD
  obtain ⟨h1, h2⟩ := hullD_min hne
  rw [Bool.eq_iff_iff, decide_eq_true_iff, whoS_bit]
  constructor
  · intro h
    exact ⟨hk, fun l hl => by have := h2 (l.getD k 0) (List.mem_map.2 ⟨l, hl, rfl⟩); omega⟩
  · rintro ⟨_, h⟩
    obtain ⟨l, hl, e⟩ := List.mem_map.1 h1
    rw [← e]
    exact h l hl
theorem who_hi {D : List (List Int)} (hD : D ≠ []) {n k : Nat} (hk : k < n) : decide ((hullD (D.map fun l => l.getD k 0)).2 > 0) = (whoP D n).testBit k := by
  have hne : (D.map fun l => l.getD k 0) ≠ [] := by simpa using hD
  obtain ⟨h1, h2⟩ := hullD_max hne
  rw [Bool.eq_iff_iff, decide_eq_true_iff, whoP_bit]
  constructor
  · intro h
    obtain ⟨l, hl, e⟩ := List.mem_map.1 h1
    exact ⟨hk, l, hl, by rw [e]; exact h⟩
  · rintro ⟨_, l, hl, h⟩
    have := h2 (l.getD k 0) (List.mem_map.2 ⟨l, hl, rfl⟩)
    omega

set_option maxRecDepth 8000 in
set_option maxHeartbeats 4000000 in
theorem TowelTrue_ok (ws : List Nat) (hw : ∀ w ∈ ws, w < 65536) (hl : ws.length < 9223372036854775808) : ACall Try.prog 6 [.t (tBy ws)] [] (res (.ret (.t (vb true)))) := by
  refine ACall.walk k6 ?_
  unfold c6
  simp only [go_sem, Nat.reduceEqDiff, Nat.reduceAdd, Nat.reduceSub, Nat.reduceMul, Nat.reduceLT, Nat.reduceLeDiff, Nat.reduceMod, Nat.reduceDiv, Int.reduceToNat, Int.reduceLT, Int.reduceLE, Bool.not_true, Bool.not_false, reduceIte, Int.reduceEq, Int.reduceBEq, Int.reduceBNe, Int.reduceGT, Int.reduceGE, Int.reduceNeg, Int.reduceAdd, Int.reduceSub, Nat.reduceBEq, decide_true, decide_false, undef, beq_self_eq_true, bne_self_eq_false, Bool.and_true, Bool.true_and, Bool.and_false, Bool.false_and, Bool.or_true, Bool.true_or, Bool.or_false, Bool.false_or]
  refine ACallL.freshR (made_ok ws hw hl) rfl (fun o σ' h => h.1) ?_
  rintro o ⟨_, t, ks, ht, hT, rfl⟩
  have hok := (Tw.ok_iff t).2 ht
  have hnb := ht.nb
  have hkD := (mem_docA ht).2 hT
  have hklen := hT.len
  have hkr := Truth.range ht hT
  have hD : docA t ≠ [] := List.ne_nil_of_mem hkD
  have eD : (docA t).isEmpty = false := by simpa using hD
  have hN : 0 < (docA t).length := List.length_pos_iff.2 hD
  have h19 := Who_ok t
  have h21 := All_ok t
  have h23 := Count_ok t
  have h25 := Fewest_ok t
  have h29 := Clash_ok t
  rw [Who_eq, show docWho t = (((whoS (docA t) t.bs.length : Nat) : Int), ((whoP (docA t) t.bs.length : Nat) : Int), (0 : Int)) by simp only [docWho, hok, eD]; rfl] at h19
  rw [All_eq, show docAll t = (hullD ((docA t).map fun l => l.sum), (0 : Int)) by simp only [docAll, hok, eD]; rfl] at h21
  rw [Count_eq, show docCount t = (((docA t).length : Int), (0 : Int)) by simp only [docCount, hok]; rfl] at h23
  rw [Fewest_eq, show docFewest t = (((size (fewD (docA t)) : Nat) : Int), ((fewD (docA t) : Nat) : Int), (0 : Int)) by simp only [docFewest, hok, eD]; rfl] at h25
  rw [Clash_eq, show docClash t = ((0 : Int), (0 : Int), (4 : Int)) by simp only [docClash, hok, eD]; rfl] at h29
  have hlo := fun k (hk : k < t.bs.length) => who_lo hD hk
  have hhi := fun k (hk : k < t.bs.length) => who_hi hD hk
  have l1 := whoS_lt (docA t) t.bs.length
  have l3 := whoP_lt (docA t) t.bs.length
  have hp : 2 ^ t.bs.length ≤ 64 := Nat.pow_le_pow_right (n := 2) (j := 6) (by omega) hnb
  obtain ⟨⟨lf, hlf, ef⟩, hfm⟩ := fewD_is hD
  have hlfl := (docA_mem ht hlf).1
  have lF : fewD (docA t) < 2 ^ t.bs.length := by rw [ef, ← hlfl]; exact maskOf_lt _ _
  have z1 : ndiff (fewD (docA t)) (whoP (docA t) t.bs.length) = 0 := by
    rw [ndiff_zero]
    intro i hi
    rw [ef, someOf_bit] at hi
    rw [whoP_bit]
    exact ⟨by omega, lf, hlf, hi.2⟩
  have z2 : ndiff (whoS (docA t) t.bs.length) (fewD (docA t)) = 0 := by
    rw [ndiff_zero]
    intro i hi
    rw [whoS_bit] at hi
    rw [ef, someOf_bit]
    exact ⟨by omega, hi.2 lf hlf⟩
  have hsome : size (fewD (docA t)) ≤ ks.countP fun x => decide (x > 0) := by
    have := hfm ks hkD
    rw [size_someOf (by omega)] at this
    omega
  have hall : (hullD ((docA t).map fun l => l.sum)).1 ≤ ks.sum ∧ ks.sum ≤ (hullD ((docA t).map fun l => l.sum)).2 := by
    have hne : ((docA t).map fun l => l.sum) ≠ [] := by simpa using hD
    have hm : ks.sum ∈ (docA t).map fun l => l.sum := List.mem_map_of_mem hkD
    exact ⟨(hullD_min hne).2 _ hm, (hullD_max hne).2 _ hm⟩
  have hkt : ∀ k : Nat, k < t.bs.length → specKept t k = (hullD ((docA t).map fun l => l.getD k 0), 0) := fun k hk => by
    rw [Kept_eq]
    have : t.isB (k : Int) = true := by unfold Tw.isB wI; simp; omega
    simp only [docKept, hok, this, eD, Int.toNat_natCast]; rfl
  have hkin : ∀ (k : Nat) (x : Int) (b : B), ks[k]? = some x → t.bs[k]? = some b → (words b).1 ≤ x ∧ x ≤ (words b).2 ∧ (hullD ((docA t).map fun l => l.getD k 0)).1 ≤ x ∧ x ≤ (hullD ((docA t).map fun l => l.getD k 0)).2 ∧ (words b).1 ≤ (hullD ((docA t).map fun l => l.getD k 0)).1 ∧ (hullD ((docA t).map fun l => l.getD k 0)).2 ≤ (words b).2 := fun k x b hx hb => by
    have hne : ((docA t).map fun l => l.getD k 0) ≠ [] := by simpa using hD
    have ex : ks.getD k 0 = x := by rw [List.getD_eq_getElem?_getD, hx]; rfl
    have hm : x ∈ (docA t).map fun l => l.getD k 0 := List.mem_map.2 ⟨ks, hkD, ex⟩
    have w := hT.word k b hb
    rw [ex] at w
    obtain ⟨m1, m2⟩ := hullD_min hne
    obtain ⟨m3, m4⟩ := hullD_max hne
    have hw : ∀ y ∈ (docA t).map (fun l => l.getD k 0), (words b).1 ≤ y ∧ y ≤ (words b).2 := fun y hy => by
      obtain ⟨l, hl, e⟩ := List.mem_map.1 hy
      have := ((mem_docA ht).1 hl).word k b hb
      rw [← e]
      exact this
    exact ⟨w.1, w.2, m2 _ hm, m4 _ hm, (hw _ m1).1, (hw _ m3).2⟩
  have r1 := rsize_ok (fewD (docA t)) (by omega)
  generalize whoS (docA t) t.bs.length = sT at *
  generalize whoP (docA t) t.bs.length = pT at *
  generalize hullD ((docA t).map fun l => l.sum) = aT at *
  generalize (docA t).length = N at *
  generalize size (fewD (docA t)) = fT at *
  clear hfm ef
  generalize fewD (docA t) = gT at *
  have b1 : bits .andNot .i64 (gT : Int) pT = 0 := by rw [bits_andNot (by omega) (by omega), z1]; rfl
  have b2 : bits .andNot .i64 (sT : Int) gT = 0 := by rw [bits_andNot (by omega) (by omega), z2]; rfl
  have b3 : (pT : Int).fdiv (2 ^ (min t.bs.length 64)) = 0 := by
    rw [shr_nat (by omega), Nat.shiftRight_eq_div_pow, Nat.div_eq_of_lt l3]; rfl
  have g1 : decide ((N : Int) < 1) = false := by simp; omega
  have g2 : decide ((gT : Int) < 0) = false := by simp
  simp only [oneE, twoE, spanE, tS] at h19 h21 h23 h25 h29
  have htw : tw3 t = [.slice 6 (t.bs.map tB), .slice 2 (t.hs.map tS), .slice 2 (t.vs.map tS)] := rfl
  rw [htw] at h19 h21 h23 h25 h29 ⊢
  simp only [go_sem, Nat.reduceEqDiff, Nat.reduceAdd, Nat.reduceSub, Nat.reduceMul, Nat.reduceLT, Nat.reduceLeDiff, Nat.reduceMod, Nat.reduceDiv, Int.reduceToNat, Int.reduceLT, Int.reduceLE, Bool.not_true, Bool.not_false, reduceIte, Int.reduceEq, Int.reduceBEq, Int.reduceBNe, Int.reduceGT, Int.reduceGE, Int.reduceNeg, Int.reduceAdd, Int.reduceSub, Nat.reduceBEq, decide_true, decide_false, undef, beq_self_eq_true, bne_self_eq_false, Bool.and_true, Bool.true_and, Bool.and_false, Bool.false_and, Bool.or_true, Bool.true_or, Bool.or_false, Bool.false_or]
  refine ACallL.quiet1 h19 rfl rfl rfl ?_
  simp only [go_sem, Nat.reduceEqDiff, Nat.reduceAdd, Nat.reduceSub, Nat.reduceMul, Nat.reduceLT, Nat.reduceLeDiff, Nat.reduceMod, Nat.reduceDiv, Int.reduceToNat, Int.reduceLT, Int.reduceLE, Bool.not_true, Bool.not_false, reduceIte, Int.reduceEq, Int.reduceBEq, Int.reduceBNe, Int.reduceGT, Int.reduceGE, Int.reduceNeg, Int.reduceAdd, Int.reduceSub, Nat.reduceBEq, decide_true, decide_false, undef, beq_self_eq_true, bne_self_eq_false, Bool.and_true, Bool.true_and, Bool.and_false, Bool.false_and, Bool.or_true, Bool.true_or, Bool.or_false, Bool.false_or]
  refine ACallL.quiet1 h21 rfl rfl rfl ?_
  simp only [go_sem, Nat.reduceEqDiff, Nat.reduceAdd, Nat.reduceSub, Nat.reduceMul, Nat.reduceLT, Nat.reduceLeDiff, Nat.reduceMod, Nat.reduceDiv, Int.reduceToNat, Int.reduceLT, Int.reduceLE, Bool.not_true, Bool.not_false, reduceIte, Int.reduceEq, Int.reduceBEq, Int.reduceBNe, Int.reduceGT, Int.reduceGE, Int.reduceNeg, Int.reduceAdd, Int.reduceSub, Nat.reduceBEq, decide_true, decide_false, undef, beq_self_eq_true, bne_self_eq_false, Bool.and_true, Bool.true_and, Bool.and_false, Bool.false_and, Bool.or_true, Bool.true_or, Bool.or_false, Bool.false_or]
  refine ACallL.quiet1 h23 rfl rfl rfl ?_
  simp only [go_sem, Nat.reduceEqDiff, Nat.reduceAdd, Nat.reduceSub, Nat.reduceMul, Nat.reduceLT, Nat.reduceLeDiff, Nat.reduceMod, Nat.reduceDiv, Int.reduceToNat, Int.reduceLT, Int.reduceLE, Bool.not_true, Bool.not_false, reduceIte, Int.reduceEq, Int.reduceBEq, Int.reduceBNe, Int.reduceGT, Int.reduceGE, Int.reduceNeg, Int.reduceAdd, Int.reduceSub, Nat.reduceBEq, decide_true, decide_false, undef, beq_self_eq_true, bne_self_eq_false, Bool.and_true, Bool.true_and, Bool.and_false, Bool.false_and, Bool.or_true, Bool.true_or, Bool.or_false, Bool.false_or]
  refine ACallL.quiet1 h25 rfl rfl rfl ?_
  simp only [go_sem, Nat.reduceEqDiff, Nat.reduceAdd, Nat.reduceSub, Nat.reduceMul, Nat.reduceLT, Nat.reduceLeDiff, Nat.reduceMod, Nat.reduceDiv, Int.reduceToNat, Int.reduceLT, Int.reduceLE, Bool.not_true, Bool.not_false, reduceIte, Int.reduceEq, Int.reduceBEq, Int.reduceBNe, Int.reduceGT, Int.reduceGE, Int.reduceNeg, Int.reduceAdd, Int.reduceSub, Nat.reduceBEq, decide_true, decide_false, undef, beq_self_eq_true, bne_self_eq_false, Bool.and_true, Bool.true_and, Bool.and_false, Bool.false_and, Bool.or_true, Bool.true_or, Bool.or_false, Bool.false_or]
  refine ACallL.quiet1 h29 rfl rfl rfl ?_
  simp only [go_sem, Nat.reduceEqDiff, Nat.reduceAdd, Nat.reduceSub, Nat.reduceMul, Nat.reduceLT, Nat.reduceLeDiff, Nat.reduceMod, Nat.reduceDiv, Int.reduceToNat, Int.reduceLT, Int.reduceLE, Bool.not_true, Bool.not_false, reduceIte, Int.reduceEq, Int.reduceBEq, Int.reduceBNe, Int.reduceGT, Int.reduceGE, Int.reduceNeg, Int.reduceAdd, Int.reduceSub, Nat.reduceBEq, decide_true, decide_false, undef, beq_self_eq_true, bne_self_eq_false, Bool.and_true, Bool.true_and, Bool.and_false, Bool.false_and, Bool.or_true, Bool.true_or, Bool.or_false, Bool.false_or, g1, g2]
  refine ACallL.quiet1 r1 rfl rfl rfl ?_
  simp only [go_sem, Nat.reduceEqDiff, Nat.reduceAdd, Nat.reduceSub, Nat.reduceMul, Nat.reduceLT, Nat.reduceLeDiff, Nat.reduceMod, Nat.reduceDiv, Int.reduceToNat, Int.reduceLT, Int.reduceLE, Bool.not_true, Bool.not_false, reduceIte, Int.reduceEq, Int.reduceBEq, Int.reduceBNe, Int.reduceGT, Int.reduceGE, Int.reduceNeg, Int.reduceAdd, Int.reduceSub, Nat.reduceBEq, decide_true, decide_false, undef, beq_self_eq_true, bne_self_eq_false, Bool.and_true, Bool.true_and, Bool.and_false, Bool.false_and, Bool.or_true, Bool.true_or, Bool.or_false, Bool.false_or, b1, b2, List.length_map, nat_neg, hklen, b3]
  refine awpL_for (i := 112) (L := 111) t.bs.length (fun k s => s = { env := [(112, .t (vi k)), (111, .t (vi t.bs.length)), (110, .t (.slice 1 (ks.map vi))), (3, .t (.ptr (.agg (tw3 t)) 0)), (5, .t (vi sT)), (6, .t (vi pT)), (8, .t (.ptr (.agg [vi aT.1, vi aT.2]) 0)), (12, .t (vi fT)), (18, .t (vi (ks.take k).sum)), (19, .t (vi ((ks.take k).countP fun x => decide (x > 0) : Nat)))], σ := [] })
    ?_ ?_ ?_ ?_
  · rintro k s rfl; exact ⟨rfl, rfl⟩
  · exact ⟨_, Sub.gc [] [112, 111, 110, 3, 5, 6, 8, 12, 18, 19] rfl rfl, rfl⟩
  · rintro k s hk rfl
    have hw1 : IntKind.i64.wrap ((k : Int) + 1) = ((k + 1 : Nat) : Int) := by rw [wrap_id (by omega) (by omega)]; omega
    have hx : ks[k]? = some ks[k] := List.getElem?_eq_getElem (by omega)
    have hxr := hkr _ (List.getElem_mem (show k < ks.length by omega))
    have hb : t.bs[k]? = some t.bs[k] := List.getElem?_eq_getElem hk
    have hin := hkin k _ _ hx hb
    have hs1 := sum_take1 hx
    have hs2 := sum_rng (l := ks.take k) fun y hy => hkr y (List.mem_of_mem_take hy)
    have hs3 : (ks.take k).length ≤ 6 := by rw [List.length_take]; omega
    have hc1 := countP_take (fun x : Int => decide (x > 0)) ks k _ hx
    have hc2 : (ks.take k).countP (fun x => decide (x > 0)) ≤ (ks.take k).length := List.countP_le_length
    rw [hs1, hc1]
    generalize ks[k] = x at *
    generalize (ks.take k).sum = sm at *
    generalize (ks.take k).countP (fun x => decide (x > 0)) = cn at *
    have h15 := Own_ok t k (by omega)
    have hisB : t.isB (k : Int) = true := by unfold Tw.isB wI; simp; omega
    have hspec : specOwn t k = (words t.bs[k], 0) := by simp only [specOwn, hok, hisB, Int.toNat_natCast, hb]; rfl
    rw [hspec] at h15
    have h17 := Kept_ok t k (by omega)
    rw [hkt k hk] at h17
    have hlo := hlo k hk
    have hhi := hhi k hk
    generalize hullD ((docA t).map fun l => l.getD k 0) = u at *
    generalize words t.bs[k] = wd at *
    simp only [spanE, tS] at h15 h17
    have i1 : wI x wd.1 wd.2 = true := by unfold wI; simp; omega
    have i2 : wI x u.1 u.2 = true := by unfold wI; simp; omega
    have i3 : decide (u.1 < wd.1) = false := by simp; omega
    have i4 : decide (u.2 > wd.2) = false := by simp; omega
    have hwa : IntKind.i64.wrap (sm + x) = sm + x := wrap_id (by omega) (by omega)
    have hwc : IntKind.i64.wrap ((cn : Int) + 1) = ((cn + 1 : Nat) : Int) := by rw [wrap_id (by omega) (by omega)]; omega
    have bS := bit_eq (a := sT) (i := k) (by omega)
    have bP := bit_eq (a := pT) (i := k) (by omega)
    have e5 := inside_ok x wd.1 wd.2
    have e6 := inside_ok x u.1 u.2
    rw [i1] at e5
    rw [i2] at e6
    rw [htw] at h15 h17
    simp only [htw, go_sem, Nat.reduceEqDiff, Nat.reduceAdd, Nat.reduceSub, Nat.reduceMul, Nat.reduceLT, Nat.reduceLeDiff, Nat.reduceMod, Nat.reduceDiv, Int.reduceToNat, Int.reduceLT, Int.reduceLE, Bool.not_true, Bool.not_false, reduceIte, Int.reduceEq, Int.reduceBEq, Int.reduceBNe, Int.reduceGT, Int.reduceGE, Int.reduceNeg, Int.reduceAdd, Int.reduceSub, Nat.reduceBEq, decide_true, decide_false, undef, beq_self_eq_true, bne_self_eq_false, Bool.and_true, Bool.true_and, Bool.and_false, Bool.false_and, Bool.or_true, Bool.true_or, Bool.or_false, Bool.false_or, List.getElem?_map, hx, nat_neg]
    refine ACallL.quiet1 h15 rfl rfl rfl ?_
    simp only [go_sem, Nat.reduceEqDiff, Nat.reduceAdd, Nat.reduceSub, Nat.reduceMul, Nat.reduceLT, Nat.reduceLeDiff, Nat.reduceMod, Nat.reduceDiv, Int.reduceToNat, Int.reduceLT, Int.reduceLE, Bool.not_true, Bool.not_false, reduceIte, Int.reduceEq, Int.reduceBEq, Int.reduceBNe, Int.reduceGT, Int.reduceGE, Int.reduceNeg, Int.reduceAdd, Int.reduceSub, Nat.reduceBEq, decide_true, decide_false, undef, beq_self_eq_true, bne_self_eq_false, Bool.and_true, Bool.true_and, Bool.and_false, Bool.false_and, Bool.or_true, Bool.true_or, Bool.or_false, Bool.false_or]
    refine ACallL.quiet1 h17 rfl rfl rfl ?_
    simp only [go_sem, Nat.reduceEqDiff, Nat.reduceAdd, Nat.reduceSub, Nat.reduceMul, Nat.reduceLT, Nat.reduceLeDiff, Nat.reduceMod, Nat.reduceDiv, Int.reduceToNat, Int.reduceLT, Int.reduceLE, Bool.not_true, Bool.not_false, reduceIte, Int.reduceEq, Int.reduceBEq, Int.reduceBNe, Int.reduceGT, Int.reduceGE, Int.reduceNeg, Int.reduceAdd, Int.reduceSub, Nat.reduceBEq, decide_true, decide_false, undef, beq_self_eq_true, bne_self_eq_false, Bool.and_true, Bool.true_and, Bool.and_false, Bool.false_and, Bool.or_true, Bool.true_or, Bool.or_false, Bool.false_or]
    refine ACallL.quiet1 e5 rfl rfl rfl ?_
    simp only [go_sem, Nat.reduceEqDiff, Nat.reduceAdd, Nat.reduceSub, Nat.reduceMul, Nat.reduceLT, Nat.reduceLeDiff, Nat.reduceMod, Nat.reduceDiv, Int.reduceToNat, Int.reduceLT, Int.reduceLE, Bool.not_true, Bool.not_false, reduceIte, Int.reduceEq, Int.reduceBEq, Int.reduceBNe, Int.reduceGT, Int.reduceGE, Int.reduceNeg, Int.reduceAdd, Int.reduceSub, Nat.reduceBEq, decide_true, decide_false, undef, beq_self_eq_true, bne_self_eq_false, Bool.and_true, Bool.true_and, Bool.and_false, Bool.false_and, Bool.or_true, Bool.true_or, Bool.or_false, Bool.false_or]
    refine ACallL.quiet1 e6 rfl rfl rfl ?_
    simp only [go_sem, Nat.reduceEqDiff, Nat.reduceAdd, Nat.reduceSub, Nat.reduceMul, Nat.reduceLT, Nat.reduceLeDiff, Nat.reduceMod, Nat.reduceDiv, Int.reduceToNat, Int.reduceLT, Int.reduceLE, Bool.not_true, Bool.not_false, reduceIte, Int.reduceEq, Int.reduceBEq, Int.reduceBNe, Int.reduceGT, Int.reduceGE, Int.reduceNeg, Int.reduceAdd, Int.reduceSub, Nat.reduceBEq, decide_true, decide_false, undef, beq_self_eq_true, bne_self_eq_false, Bool.and_true, Bool.true_and, Bool.and_false, Bool.false_and, Bool.or_true, Bool.true_or, Bool.or_false, Bool.false_or, i3, i4, nat_neg, bS, bP, hlo, hhi, bne_self_eq_false, hwa]
    cases hx0 : decide (x > 0)
    · simp only [go_sem, Nat.reduceEqDiff, Nat.reduceAdd, Nat.reduceSub, Nat.reduceMul, Nat.reduceLT, Nat.reduceLeDiff, Nat.reduceMod, Nat.reduceDiv, Int.reduceToNat, Int.reduceLT, Int.reduceLE, Bool.not_true, Bool.not_false, reduceIte, Int.reduceEq, Int.reduceBEq, Int.reduceBNe, Int.reduceGT, Int.reduceGE, Int.reduceNeg, Int.reduceAdd, Int.reduceSub, Nat.reduceBEq, decide_true, decide_false, undef, beq_self_eq_true, bne_self_eq_false, Bool.and_true, Bool.true_and, Bool.and_false, Bool.false_and, Bool.or_true, Bool.true_or, Bool.or_false, Bool.false_or, hx0, hw1]
      refine ⟨_, Sub.gc [] [112, 111, 110, 3, 5, 6, 8, 12, 18, 19] rfl rfl, ?_⟩
      simp
      rfl
    · simp only [go_sem, Nat.reduceEqDiff, Nat.reduceAdd, Nat.reduceSub, Nat.reduceMul, Nat.reduceLT, Nat.reduceLeDiff, Nat.reduceMod, Nat.reduceDiv, Int.reduceToNat, Int.reduceLT, Int.reduceLE, Bool.not_true, Bool.not_false, reduceIte, Int.reduceEq, Int.reduceBEq, Int.reduceBNe, Int.reduceGT, Int.reduceGE, Int.reduceNeg, Int.reduceAdd, Int.reduceSub, Nat.reduceBEq, decide_true, decide_false, undef, beq_self_eq_true, bne_self_eq_false, Bool.and_true, Bool.true_and, Bool.and_false, Bool.false_and, Bool.or_true, Bool.true_or, Bool.or_false, Bool.false_or, hx0, hw1, hwc]
      refine ⟨_, Sub.gc [] [112, 111, 110, 3, 5, 6, 8, 12, 18, 19] rfl rfl, ?_⟩
      simp
      rfl
  · rintro s rfl
    rw [List.take_of_length_le (by omega)]
    have e7 := inside_ok ks.sum aT.1 aT.2
    rw [show wI ks.sum aT.1 aT.2 = true by unfold wI; simp; omega] at e7
    have g3 : decide (((ks.countP fun x => decide (x > 0) : Nat) : Int) ≥ fT) = true := by simp; omega
    generalize (ks.countP fun x => decide (x > 0)) = cn at *
    simp only [go_sem, Nat.reduceEqDiff, Nat.reduceAdd, Nat.reduceSub, Nat.reduceMul, Nat.reduceLT, Nat.reduceLeDiff, Nat.reduceMod, Nat.reduceDiv, Int.reduceToNat, Int.reduceLT, Int.reduceLE, Bool.not_true, Bool.not_false, reduceIte, Int.reduceEq, Int.reduceBEq, Int.reduceBNe, Int.reduceGT, Int.reduceGE, Int.reduceNeg, Int.reduceAdd, Int.reduceSub, Nat.reduceBEq, decide_true, decide_false, undef, beq_self_eq_true, bne_self_eq_false, Bool.and_true, Bool.true_and, Bool.and_false, Bool.false_and, Bool.or_true, Bool.true_or, Bool.or_false, Bool.false_or]
    refine ACallL.quiet1 e7 rfl rfl rfl ?_
    simp only [go_sem, Nat.reduceEqDiff, Nat.reduceAdd, Nat.reduceSub, Nat.reduceMul, Nat.reduceLT, Nat.reduceLeDiff, Nat.reduceMod, Nat.reduceDiv, Int.reduceToNat, Int.reduceLT, Int.reduceLE, Bool.not_true, Bool.not_false, reduceIte, Int.reduceEq, Int.reduceBEq, Int.reduceBNe, Int.reduceGT, Int.reduceGE, Int.reduceNeg, Int.reduceAdd, Int.reduceSub, Nat.reduceBEq, decide_true, decide_false, undef, beq_self_eq_true, bne_self_eq_false, Bool.and_true, Bool.true_and, Bool.and_false, Bool.false_and, Bool.or_true, Bool.true_or, Bool.or_false, Bool.false_or, g3]
    refine ACallL.quiet1 awake_ok rfl rfl rfl ?_
    simp only [go_sem, Nat.reduceEqDiff, Nat.reduceAdd, Nat.reduceSub, Nat.reduceMul, Nat.reduceLT, Nat.reduceLeDiff, Nat.reduceMod, Nat.reduceDiv, Int.reduceToNat, Int.reduceLT, Int.reduceLE, Bool.not_true, Bool.not_false, reduceIte, Int.reduceEq, Int.reduceBEq, Int.reduceBNe, Int.reduceGT, Int.reduceGE, Int.reduceNeg, Int.reduceAdd, Int.reduceSub, Nat.reduceBEq, decide_true, decide_false, undef, beq_self_eq_true, bne_self_eq_false, Bool.and_true, Bool.true_and, Bool.and_false, Bool.false_and, Bool.or_true, Bool.true_or, Bool.or_false, Bool.false_or]
    exact finL_ret [] ⟨rfl, rfl, rfl, rfl, _, rfl, res_mk rfl⟩
end Go.Proofs.Yticdacdflemoiaa
