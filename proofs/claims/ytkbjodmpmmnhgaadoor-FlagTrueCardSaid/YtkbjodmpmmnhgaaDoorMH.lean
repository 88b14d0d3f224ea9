/- Proved here: laws that the statements need (FlC3). No conditions but those that each law states. -/
import Derived.Test.YtkbjodmpmmnhgaaDoorFL
import Derived.Test.YtkbjodmpmmnhgaaDoorProg

set_option linter.unusedSimpArgs false
set_option linter.unusedVariables false

/- Compiled code of functions, printed by program; each is checked to be the program's. No conditions. -/
namespace Go.Proofs.YtkbjodmpmmnhgaaDoor
open Go Go.Ab
/-- dipworks/dipworkslaw10.heavy -/
def c13 : AC :=
 .seq (.reg [⟨(some 3), none, .box (.tmp 0)⟩,
    ⟨(some 6), none, .mov (.lit (.bool false))⟩])
 (.seq (.reg [⟨(some 7), none, .load true 5 (.tmp 3)⟩,
    ⟨(some 8), none, .call (.fn 35) [(.tmp 7)]⟩,
    ⟨(some 9), none, .mov (.tmp 8)⟩,
    ⟨(some 10), (some (9, false)), .load true 5 (.tmp 3)⟩,
    ⟨(some 11), (some (9, false)), .call (.fn 36) [(.tmp 10)]⟩,
    ⟨(some 12), (some (9, false)), .mov (.tmp 11)⟩,
    ⟨(some 13), (some (12, true)), .faddr 3 (.tmp 3)⟩,
    ⟨(some 14), (some (12, true)), .load false 1 (.tmp 13)⟩,
    ⟨(some 15), (some (12, true)), .len (.tmp 14)⟩,
    ⟨(some 16), (some (12, true)), .mov (.tmp 1)⟩,
    ⟨(some 17), (some (12, true)), .bin .gtr (.tmp 15) (.tmp 16)⟩,
    ⟨(some 18), (some (12, true)), .mov (.tmp 17)⟩,
    ⟨(some 19), (some (18, false)), .faddr 4 (.tmp 3)⟩,
    ⟨(some 20), (some (18, false)), .load false 1 (.tmp 19)⟩,
    ⟨(some 21), (some (18, false)), .len (.tmp 20)⟩,
    ⟨(some 22), (some (18, false)), .mov (.tmp 2)⟩,
    ⟨(some 23), (some (18, false)), .bin .gtr (.tmp 21) (.tmp 22)⟩,
    ⟨(some 24), (some (12, true)), .pick (.tmp 18) (.lit (.bool true)) (.tmp 23)⟩,
    ⟨(some 25), (some (9, false)), .pick (.tmp 12) (.tmp 24) (.lit (.bool false))⟩,
    ⟨(some 26), none, .pick (.tmp 9) (.lit (.bool true)) (.tmp 25)⟩,
    ⟨(some 6), none, .mov (.tmp 26)⟩])
 (.ret))
theorem k13 : FnC Tryd.prog 13 27 [] [] [.tmp 6] c13 3 := ⟨Tryd.f13, _, Tryd.func13, rfl, by decide, rfl, by decide, by kernel_rfl, by kernel_rfl⟩
/-- dipworks/dipworkslaw10.awake -/
def c14 : AC :=
 .seq (.reg [⟨(some 0), none, .mov (.lit (.bool false))⟩])
 (.seq (.reg [⟨(some 23), none, .call (.fn 43) [(.lit (.slice none 0 0))]⟩,
    ⟨(some 24), none, .call (.fn 42) [(.lit (.int .i64 3)), (.lit (.bool true))]⟩,
    ⟨(some 25), none, .bslice 2 (.agg #[(.int .i64 0), (.bool false)]) 1 [(0, (.tmp 24))]⟩,
    ⟨(some 26), none, .call (.fn 43) [(.tmp 25)]⟩,
    ⟨(some 1), none, .alloc [(.int .i64 0), (.int .i64 0), (.int .i64 0), (.slice none 0 0), (.slice none 0 0)]⟩,
    ⟨(some 2), none, .alloc [(.int .i64 0), (.int .i64 0), (.int .i64 0), (.slice none 0 0), (.slice none 0 0)]⟩,
    ⟨none, none, .store 5 (.tmp 1) (.tmp 23)⟩,
    ⟨none, none, .store 5 (.tmp 2) (.tmp 26)⟩])
 (.seq (.reg [⟨(some 28), none, .load true 5 (.tmp 1)⟩,
    ⟨(some 29), none, .call (.fn 15) [(.tmp 28), (.lit (.int .i64 2))]⟩,
    ⟨(some 27), none, .mov (.tmp 29)⟩,
    ⟨(some 30), none, .ext (.tmp 27) 0⟩,
    ⟨(some 31), none, .ext (.tmp 27) 1⟩,
    ⟨(some 3), none, .mov (.tmp 30)⟩,
    ⟨(some 4), none, .mov (.tmp 31)⟩])
 (.seq (.reg [⟨(some 33), none, .load true 5 (.tmp 2)⟩,
    ⟨(some 34), none, .call (.fn 17) [(.tmp 33)]⟩,
    ⟨(some 32), none, .mov (.tmp 34)⟩,
    ⟨(some 35), none, .ext (.tmp 32) 0⟩,
    ⟨(some 36), none, .ext (.tmp 32) 1⟩,
    ⟨(some 37), none, .ext (.tmp 32) 2⟩,
    ⟨(some 5), none, .mov (.tmp 35)⟩,
    ⟨(some 6), none, .mov (.tmp 36)⟩,
    ⟨(some 7), none, .mov (.tmp 37)⟩])
 (.seq (.reg [⟨(some 39), none, .load true 5 (.tmp 2)⟩,
    ⟨(some 40), none, .call (.fn 19) [(.tmp 39)]⟩,
    ⟨(some 38), none, .mov (.tmp 40)⟩,
    ⟨(some 41), none, .ext (.tmp 38) 0⟩,
    ⟨(some 42), none, .ext (.tmp 38) 1⟩,
    ⟨(some 8), none, .mov (.tmp 41)⟩,
    ⟨(some 9), none, .mov (.tmp 42)⟩])
 (.seq (.reg [⟨(some 44), none, .load true 5 (.tmp 2)⟩,
    ⟨(some 45), none, .call (.fn 21) [(.tmp 44)]⟩,
    ⟨(some 43), none, .mov (.tmp 45)⟩,
    ⟨(some 46), none, .ext (.tmp 43) 0⟩,
    ⟨(some 47), none, .ext (.tmp 43) 1⟩,
    ⟨(some 10), none, .alloc [(.int .i64 0), (.int .i64 0)]⟩,
    ⟨none, none, .store 2 (.tmp 10) (.tmp 46)⟩,
    ⟨(some 11), none, .mov (.tmp 47)⟩])
 (.seq (.reg [⟨(some 49), none, .load true 5 (.tmp 2)⟩,
    ⟨(some 50), none, .call (.fn 23) [(.tmp 49), (.lit (.int .i64 3)), (.lit (.int .i64 4))]⟩,
    ⟨(some 48), none, .mov (.tmp 50)⟩,
    ⟨(some 51), none, .ext (.tmp 48) 0⟩,
    ⟨(some 52), none, .ext (.tmp 48) 1⟩,
    ⟨(some 12), none, .mov (.tmp 51)⟩,
    ⟨(some 13), none, .mov (.tmp 52)⟩])
 (.seq (.reg [⟨(some 54), none, .load true 5 (.tmp 2)⟩,
    ⟨(some 55), none, .call (.fn 23) [(.tmp 54), (.lit (.int .i64 4)), (.lit (.int .i64 6))]⟩,
    ⟨(some 53), none, .mov (.tmp 55)⟩,
    ⟨(some 56), none, .ext (.tmp 53) 0⟩,
    ⟨(some 57), none, .ext (.tmp 53) 1⟩,
    ⟨(some 14), none, .mov (.tmp 56)⟩,
    ⟨(some 15), none, .mov (.tmp 57)⟩])
 (.seq (.reg [⟨(some 59), none, .load true 5 (.tmp 2)⟩,
    ⟨(some 60), none, .call (.fn 25) [(.tmp 59), (.lit (.int .i64 0))]⟩,
    ⟨(some 58), none, .mov (.tmp 60)⟩,
    ⟨(some 61), none, .ext (.tmp 58) 0⟩,
    ⟨(some 62), none, .ext (.tmp 58) 1⟩,
    ⟨(some 16), none, .mov (.tmp 61)⟩,
    ⟨(some 17), none, .mov (.tmp 62)⟩])
 (.seq (.reg [⟨(some 64), none, .load true 5 (.tmp 2)⟩,
    ⟨(some 65), none, .call (.fn 27) [(.tmp 64)]⟩,
    ⟨(some 63), none, .mov (.tmp 65)⟩,
    ⟨(some 66), none, .ext (.tmp 63) 0⟩,
    ⟨(some 67), none, .ext (.tmp 63) 1⟩,
    ⟨(some 68), none, .ext (.tmp 63) 2⟩,
    ⟨(some 18), none, .mov (.tmp 66)⟩,
    ⟨(some 19), none, .mov (.tmp 67)⟩,
    ⟨(some 20), none, .mov (.tmp 68)⟩])
 (.seq (.reg [⟨(some 70), none, .call (.fn 42) [(.lit (.int .i64 1)), (.lit (.bool true))]⟩,
    ⟨(some 71), none, .call (.fn 42) [(.lit (.int .i64 2)), (.lit (.bool false))]⟩,
    ⟨(some 72), none, .bslice 2 (.agg #[(.int .i64 0), (.bool false)]) 2 [(0, (.tmp 70)), (1, (.tmp 71))]⟩,
    ⟨(some 73), none, .call (.fn 43) [(.tmp 72)]⟩,
    ⟨(some 74), none, .call (.fn 29) [(.tmp 73)]⟩,
    ⟨(some 69), none, .mov (.tmp 74)⟩,
    ⟨(some 75), none, .ext (.tmp 69) 0⟩,
    ⟨(some 76), none, .ext (.tmp 69) 1⟩,
    ⟨(some 21), none, .mov (.tmp 75)⟩,
    ⟨(some 22), none, .mov (.tmp 76)⟩])
 (.seq (.seq (.draw (.step ⟨(some 77), none, .mov (.tmp 3)⟩ (
     .step ⟨(some 78), none, .bin .neq (.tmp 77) (.lit (.int .i64 5))⟩ (
     .step ⟨(some 79), none, .mov (.tmp 78)⟩ (
     .step ⟨(some 80), (some (79, false)), .mov (.tmp 4)⟩ (
     .step ⟨(some 81), (some (79, false)), .bin .neq (.tmp 80) (.lit (.int .i64 0))⟩ (
     .step ⟨(some 82), none, .pick (.tmp 79) (.lit (.bool true)) (.tmp 81)⟩ (
     .step ⟨(some 83), none, .mov (.tmp 82)⟩ (
     .step ⟨(some 84), (some (83, false)), .mov (.tmp 5)⟩ (
     .step ⟨(some 85), (some (83, false)), .bin .neq (.tmp 84) (.lit (.int .i64 12))⟩ (
     .step ⟨(some 86), none, .pick (.tmp 83) (.lit (.bool true)) (.tmp 85)⟩ (
     .step ⟨(some 87), none, .mov (.tmp 86)⟩ (
     .step ⟨(some 88), (some (87, false)), .mov (.tmp 6)⟩ (
     .step ⟨(some 89), (some (87, false)), .bin .neq (.tmp 88) (.lit (.int .i64 62))⟩ (
     .step ⟨(some 90), none, .pick (.tmp 87) (.lit (.bool true)) (.tmp 89)⟩ (
     .step ⟨(some 91), none, .mov (.tmp 90)⟩ (
     .step ⟨(some 92), (some (91, false)), .mov (.tmp 7)⟩ (
     .step ⟨(some 93), (some (91, false)), .bin .neq (.tmp 92) (.lit (.int .i64 0))⟩ (
     .step ⟨(some 94), none, .pick (.tmp 91) (.lit (.bool true)) (.tmp 93)⟩ (
     .step ⟨(some 95), none, .mov (.tmp 94)⟩ (
     .step ⟨(some 96), (some (95, false)), .mov (.tmp 8)⟩ (
     .step ⟨(some 97), (some (95, false)), .bin .neq (.tmp 96) (.lit (.int .i64 6))⟩ (
     .step ⟨(some 98), none, .pick (.tmp 95) (.lit (.bool true)) (.tmp 97)⟩ (
     .step ⟨(some 99), none, .mov (.tmp 98)⟩ (
     .step ⟨(some 100), (some (99, false)), .mov (.tmp 9)⟩ (
     .step ⟨(some 101), (some (99, false)), .bin .neq (.tmp 100) (.lit (.int .i64 0))⟩ (
     .step ⟨(some 102), none, .pick (.tmp 99) (.lit (.bool true)) (.tmp 101)⟩ (
     .step ⟨(some 103), none, .mov (.tmp 102)⟩ (
     .step ⟨(some 104), (some (103, false)), .load true 2 (.tmp 10)⟩ (
     .ev ⟨(some 105), (some (103, false)), .call (.fn 38) [(.lit (.int .i64 3)), (.lit (.int .i64 5))]⟩ [⟨(some 104), (some (103, false)), .load true 2 (.tmp 10)⟩] (
     .step ⟨(some 106), (some (103, false)), .eqs true [(some .i64), (some .i64)] (.tmp 104) (.tmp 105)⟩ (
      .step ⟨(some 107), none, .pick (.tmp 103) (.lit (.bool true)) (.tmp 106)⟩ (
      .step ⟨(some 108), none, .mov (.tmp 107)⟩ (
      .step ⟨(some 109), (some (108, false)), .mov (.tmp 11)⟩ (
      .step ⟨(some 110), (some (108, false)), .bin .neq (.tmp 109) (.lit (.int .i64 0))⟩ (
      .step ⟨(some 111), none, .pick (.tmp 108) (.lit (.bool true)) (.tmp 110)⟩ (
      .done)))))))
     (.stop)))))))))))))))))))))))))))))))
  (.cond (.tmp 111) (.seq (.reg [⟨(some 0), none, .mov (.lit (.bool false))⟩])
   (.ret))
    (.skip)))
 (.seq (.reg [⟨(some 112), none, .mov (.tmp 12)⟩,
    ⟨(some 113), none, .bin .eql (.tmp 112) (.lit (.int .i64 2))⟩,
    ⟨(some 114), none, .mov (.tmp 113)⟩,
    ⟨(some 115), (some (114, true)), .mov (.tmp 13)⟩,
    ⟨(some 116), (some (114, true)), .bin .eql (.tmp 115) (.lit (.int .i64 0))⟩,
    ⟨(some 117), none, .pick (.tmp 114) (.tmp 116) (.lit (.bool false))⟩,
    ⟨(some 118), none, .mov (.tmp 117)⟩,
    ⟨(some 119), (some (118, true)), .mov (.tmp 14)⟩,
    ⟨(some 120), (some (118, true)), .bin .eql (.tmp 119) (.lit (.int .i64 1))⟩,
    ⟨(some 121), none, .pick (.tmp 118) (.tmp 120) (.lit (.bool false))⟩,
    ⟨(some 122), none, .mov (.tmp 121)⟩,
    ⟨(some 123), (some (122, true)), .mov (.tmp 15)⟩,
    ⟨(some 124), (some (122, true)), .bin .eql (.tmp 123) (.lit (.int .i64 0))⟩,
    ⟨(some 125), none, .pick (.tmp 122) (.tmp 124) (.lit (.bool false))⟩,
    ⟨(some 126), none, .mov (.tmp 125)⟩,
    ⟨(some 127), (some (126, true)), .mov (.tmp 16)⟩,
    ⟨(some 128), (some (126, true)), .bin .eql (.tmp 127) (.lit (.int .i64 0))⟩,
    ⟨(some 129), none, .pick (.tmp 126) (.tmp 128) (.lit (.bool false))⟩,
    ⟨(some 130), none, .mov (.tmp 129)⟩,
    ⟨(some 131), (some (130, true)), .mov (.tmp 17)⟩,
    ⟨(some 132), (some (130, true)), .bin .eql (.tmp 131) (.lit (.int .i64 0))⟩,
    ⟨(some 133), none, .pick (.tmp 130) (.tmp 132) (.lit (.bool false))⟩,
    ⟨(some 134), none, .mov (.tmp 133)⟩,
    ⟨(some 135), (some (134, true)), .mov (.tmp 18)⟩,
    ⟨(some 136), (some (134, true)), .bin .eql (.tmp 135) (.lit (.int .i64 3))⟩,
    ⟨(some 137), none, .pick (.tmp 134) (.tmp 136) (.lit (.bool false))⟩,
    ⟨(some 138), none, .mov (.tmp 137)⟩,
    ⟨(some 139), (some (138, true)), .mov (.tmp 19)⟩,
    ⟨(some 140), (some (138, true)), .bin .eql (.tmp 139) (.lit (.int .i64 3))⟩,
    ⟨(some 141), none, .pick (.tmp 138) (.tmp 140) (.lit (.bool false))⟩,
    ⟨(some 142), none, .mov (.tmp 141)⟩,
    ⟨(some 143), (some (142, true)), .mov (.tmp 20)⟩,
    ⟨(some 144), (some (142, true)), .bin .eql (.tmp 143) (.lit (.int .i64 0))⟩,
    ⟨(some 145), none, .pick (.tmp 142) (.tmp 144) (.lit (.bool false))⟩,
    ⟨(some 146), none, .mov (.tmp 145)⟩,
    ⟨(some 147), (some (146, true)), .mov (.tmp 21)⟩,
    ⟨(some 148), (some (146, true)), .bin .eql (.tmp 147) (.lit (.int .i64 1))⟩,
    ⟨(some 149), none, .pick (.tmp 146) (.tmp 148) (.lit (.bool false))⟩,
    ⟨(some 150), none, .mov (.tmp 149)⟩,
    ⟨(some 151), (some (150, true)), .mov (.tmp 22)⟩,
    ⟨(some 152), (some (150, true)), .bin .eql (.tmp 151) (.lit (.int .i64 0))⟩,
    ⟨(some 153), none, .pick (.tmp 150) (.tmp 152) (.lit (.bool false))⟩,
    ⟨(some 0), none, .mov (.tmp 153)⟩])
 (.ret)))))))))))))
theorem k14 : FnC Tryd.prog 14 154 [] [] [.tmp 0] c14 0 := ⟨Tryd.f14, _, Tryd.func14, rfl, by decide, rfl, by decide, by kernel_rfl, by kernel_rfl⟩
/-- dipworks/dipworkslaw10.fine -/
def c31 : AC :=
 .seq (.reg [⟨(some 1), none, .box (.tmp 0)⟩,
    ⟨(some 2), none, .mov (.lit (.bool false))⟩])
 (.seq (.reg [⟨(some 3), none, .load true 5 (.tmp 1)⟩,
    ⟨(some 4), none, .call (.fn 35) [(.tmp 3)]⟩,
    ⟨(some 5), none, .un .not (.tmp 4)⟩,
    ⟨(some 6), none, .mov (.tmp 5)⟩,
    ⟨(some 7), (some (6, true)), .load true 5 (.tmp 1)⟩,
    ⟨(some 8), (some (6, true)), .call (.fn 36) [(.tmp 7)]⟩,
    ⟨(some 9), none, .pick (.tmp 6) (.tmp 8) (.lit (.bool false))⟩,
    ⟨(some 2), none, .mov (.tmp 9)⟩])
 (.ret))
theorem k31 : FnC Tryd.prog 31 10 [] [] [.tmp 2] c31 1 := ⟨Tryd.f31, _, Tryd.func31, rfl, by decide, rfl, by decide, by kernel_rfl, by kernel_rfl⟩
/-- dipworks/dipworkslaw10.far -/
def c35 : AC :=
 .seq (.reg [⟨(some 1), none, .box (.tmp 0)⟩,
    ⟨(some 2), none, .mov (.lit (.bool false))⟩])
 (.seq (.reg [⟨(some 3), none, .faddr 3 (.tmp 1)⟩,
    ⟨(some 4), none, .load false 1 (.tmp 3)⟩,
    ⟨(some 5), none, .len (.tmp 4)⟩,
    ⟨(some 6), none, .faddr 4 (.tmp 1)⟩,
    ⟨(some 7), none, .load false 1 (.tmp 6)⟩,
    ⟨(some 8), none, .len (.tmp 7)⟩,
    ⟨(some 9), none, .mxmn true (.tmp 5) [(.tmp 8)]⟩,
    ⟨(some 10), none, .bin .gtr (.tmp 9) (.lit (.int .i64 40))⟩,
    ⟨(some 2), none, .mov (.tmp 10)⟩])
 (.ret))
theorem k35 : FnC Tryd.prog 35 11 [] [] [.tmp 2] c35 1 := ⟨Tryd.f35, _, Tryd.func35, rfl, by decide, rfl, by decide, by kernel_rfl, by kernel_rfl⟩
/-- dipworks/dipworkslaw10.span -/
def c38 : AC :=
 .seq (.reg [⟨(some 4), none, .alloc [(.int .i64 0), (.int .i64 0)]⟩])
 (.seq (.reg [⟨(some 5), none, .mov (.tmp 0)⟩,
    ⟨(some 6), none, .mov (.tmp 1)⟩,
    ⟨(some 7), none, .build [(.int .i64 0), (.int .i64 0)] [(0, 1, (.tmp 5)), (1, 1, (.tmp 6))]⟩,
    ⟨none, none, .store 2 (.tmp 4) (.tmp 7)⟩])
 (.ret))
theorem k38 : FnC Tryd.prog 38 8 [4] [] [.cell 4 true 2] c38 2 := ⟨Tryd.f38, _, Tryd.func38, rfl, by decide, rfl, by decide, by kernel_rfl, by kernel_rfl⟩
/-- dipworks/dipworkslaw10.seen -/
def c42 : AC :=
 .seq (.reg [⟨(some 4), none, .alloc [(.int .i64 0), (.bool false)]⟩])
 (.seq (.reg [⟨(some 5), none, .mov (.tmp 0)⟩,
    ⟨(some 6), none, .mov (.tmp 1)⟩,
    ⟨(some 7), none, .build [(.int .i64 0), (.bool false)] [(0, 1, (.tmp 5)), (1, 1, (.tmp 6))]⟩,
    ⟨none, none, .store 2 (.tmp 4) (.tmp 7)⟩])
 (.ret))
theorem k42 : FnC Tryd.prog 42 8 [4] [] [.cell 4 true 2] c42 2 := ⟨Tryd.f42, _, Tryd.func42, rfl, by decide, rfl, by decide, by kernel_rfl, by kernel_rfl⟩
/-- dipworks/dipworkslaw10.sample -/
def c43 : AC :=
 .seq (.reg [⟨(some 2), none, .alloc [(.int .i64 0), (.int .i64 0), (.int .i64 0), (.slice none 0 0), (.slice none 0 0)]⟩])
 (.seq (.reg [⟨(some 3), none, .call (.fn 68) [(.lit (.int .i64 2)), (.lit (.int .i64 3)), (.lit (.int .i64 0))]⟩,
    ⟨(some 4), none, .call (.fn 68) [(.lit (.int .i64 7)), (.lit (.int .i64 8)), (.lit (.int .i64 0))]⟩,
    ⟨(some 5), none, .call (.fn 68) [(.lit (.int .i64 3)), (.lit (.int .i64 3)), (.lit (.int .i64 1))]⟩,
    ⟨(some 6), none, .call (.fn 68) [(.lit (.int .i64 2)), (.lit (.int .i64 4)), (.lit (.int .i64 0))]⟩,
    ⟨(some 7), none, .call (.fn 68) [(.lit (.int .i64 1)), (.lit (.int .i64 1)), (.lit (.int .i64 0))]⟩,
    ⟨(some 8), none, .call (.fn 68) [(.lit (.int .i64 5)), (.lit (.int .i64 5)), (.lit (.int .i64 0))]⟩,
    ⟨(some 9), none, .bslice 3 (.agg #[(.int .i64 0), (.int .i64 0), (.int .i64 0)]) 6 [(0, (.tmp 3)), (1, (.tmp 4)), (2, (.tmp 5)), (3, (.tmp 6)), (4, (.tmp 7)), (5, (.tmp 8))]⟩,
    ⟨(some 10), none, .mov (.tmp 0)⟩,
    ⟨(some 11), none, .build [(.int .i64 0), (.int .i64 0), (.int .i64 0), (.slice none 0 0), (.slice none 0 0)] [(0, 1, (.lit (.int .i64 4))), (1, 1, (.lit (.int .i64 8))), (2, 1, (.lit (.int .i64 2))), (3, 1, (.tmp 9)), (4, 1, (.tmp 10))]⟩,
    ⟨none, none, .store 5 (.tmp 2) (.tmp 11)⟩])
 (.ret))
theorem k43 : FnC Tryd.prog 43 12 [2] [] [.cell 2 true 5] c43 1 := ⟨Tryd.f43, _, Tryd.func43, rfl, by decide, rfl, by decide, by kernel_rfl, by kernel_rfl⟩
/-- dipworks/dipworkslaw10.hour -/
def c68 : AC :=
 .seq (.reg [⟨(some 6), none, .alloc [(.int .i64 0), (.int .i64 0), (.int .i64 0)]⟩])
 (.seq (.reg [⟨(some 7), none, .mov (.tmp 0)⟩,
    ⟨(some 8), none, .mov (.tmp 1)⟩,
    ⟨(some 9), none, .call (.fn 38) [(.tmp 7), (.tmp 8)]⟩,
    ⟨(some 10), none, .mov (.tmp 2)⟩,
    ⟨(some 11), none, .build [(.int .i64 0), (.int .i64 0), (.int .i64 0)] [(0, 2, (.tmp 9)), (2, 1, (.tmp 10))]⟩,
    ⟨none, none, .store 3 (.tmp 6) (.tmp 11)⟩])
 (.ret))
theorem k68 : FnC Tryd.prog 68 12 [6] [] [.cell 6 true 3] c68 3 := ⟨Tryd.f68, _, Tryd.func68, rfl, by decide, rfl, by decide, by kernel_rfl, by kernel_rfl⟩
end Go.Proofs.YtkbjodmpmmnhgaaDoor
