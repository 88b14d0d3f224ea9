/- Proved here: laws that the statements need (TwC3, TwT1, TwT2, TwT3). No conditions but those that each law states. -/
import Derived.Test.YticdacdflemoiaaLD
import Derived.Test.YticdacdflemoiaaLB

set_option linter.unusedSimpArgs false
set_option linter.unusedVariables false

/- Compiled code of functions, printed by program; each is checked to be the program's. No conditions. -/
namespace Go.Proofs.Yticdacdflemoiaa
open Go Go.Ab
/-- dipworks/dipworkslaw06.TowelReads -/
def c3 : AC :=
 .seq (.reg [⟨(some 2), none, .box (.tmp 0)⟩,
    ⟨(some 4), none, .mov (.lit (.bool false))⟩])
 (.seq (.seq (.reg [⟨(some 27), none, .load true 3 (.tmp 2)⟩,
     ⟨(some 28), none, .call (.fn 13) [(.tmp 27), (.lit (.int .i64 5))]⟩])
  (.cond (.tmp 28) (.seq (.reg [⟨(some 29), none, .call (.fn 14) []⟩,
      ⟨(some 4), none, .mov (.tmp 29)⟩])
   (.ret))
    (.skip)))
 (.seq (.reg [⟨(some 31), none, .load true 3 (.tmp 2)⟩,
    ⟨(some 32), none, .mov (.tmp 1)⟩,
    ⟨(some 33), none, .call (.fn 15) [(.tmp 31), (.tmp 32)]⟩,
    ⟨(some 30), none, .mov (.tmp 33)⟩,
    ⟨(some 34), none, .ext (.tmp 30) 0⟩,
    ⟨(some 35), none, .ext (.tmp 30) 1⟩,
    ⟨(some 5), none, .alloc [(.int .i64 0), (.int .i64 0)]⟩,
    ⟨none, none, .store 2 (.tmp 5) (.tmp 34)⟩,
    ⟨(some 6), none, .mov (.tmp 35)⟩])
 (.seq (.reg [⟨(some 37), none, .load true 3 (.tmp 2)⟩,
    ⟨(some 38), none, .mov (.tmp 1)⟩,
    ⟨(some 39), none, .call (.fn 16) [(.tmp 37), (.tmp 38)]⟩,
    ⟨(some 36), none, .mov (.tmp 39)⟩,
    ⟨(some 40), none, .ext (.tmp 36) 0⟩,
    ⟨(some 41), none, .ext (.tmp 36) 1⟩,
    ⟨(some 7), none, .alloc [(.int .i64 0), (.int .i64 0)]⟩,
    ⟨none, none, .store 2 (.tmp 7) (.tmp 40)⟩,
    ⟨(some 8), none, .mov (.tmp 41)⟩])
 (.seq (.reg [⟨(some 43), none, .load true 3 (.tmp 2)⟩,
    ⟨(some 44), none, .mov (.tmp 1)⟩,
    ⟨(some 45), none, .call (.fn 17) [(.tmp 43), (.tmp 44)]⟩,
    ⟨(some 42), none, .mov (.tmp 45)⟩,
    ⟨(some 46), none, .ext (.tmp 42) 0⟩,
    ⟨(some 47), none, .ext (.tmp 42) 1⟩,
    ⟨(some 9), none, .alloc [(.int .i64 0), (.int .i64 0)]⟩,
    ⟨none, none, .store 2 (.tmp 9) (.tmp 46)⟩,
    ⟨(some 10), none, .mov (.tmp 47)⟩])
 (.seq (.reg [⟨(some 49), none, .load true 3 (.tmp 2)⟩,
    ⟨(some 50), none, .mov (.tmp 1)⟩,
    ⟨(some 51), none, .call (.fn 18) [(.tmp 49), (.tmp 50)]⟩,
    ⟨(some 48), none, .mov (.tmp 51)⟩,
    ⟨(some 52), none, .ext (.tmp 48) 0⟩,
    ⟨(some 53), none, .ext (.tmp 48) 1⟩,
    ⟨(some 11), none, .alloc [(.int .i64 0), (.int .i64 0)]⟩,
    ⟨none, none, .store 2 (.tmp 11) (.tmp 52)⟩,
    ⟨(some 12), none, .mov (.tmp 53)⟩])
 (.seq (.reg [⟨(some 55), none, .load true 3 (.tmp 2)⟩,
    ⟨(some 56), none, .call (.fn 19) [(.tmp 55)]⟩,
    ⟨(some 54), none, .mov (.tmp 56)⟩,
    ⟨(some 57), none, .ext (.tmp 54) 0⟩,
    ⟨(some 58), none, .ext (.tmp 54) 1⟩,
    ⟨(some 59), none, .ext (.tmp 54) 2⟩,
    ⟨(some 13), none, .mov (.tmp 57)⟩,
    ⟨(some 14), none, .mov (.tmp 58)⟩,
    ⟨(some 15), none, .mov (.tmp 59)⟩])
 (.seq (.reg [⟨(some 61), none, .load true 3 (.tmp 2)⟩,
    ⟨(some 62), none, .call (.fn 20) [(.tmp 61)]⟩,
    ⟨(some 60), none, .mov (.tmp 62)⟩,
    ⟨(some 63), none, .ext (.tmp 60) 0⟩,
    ⟨(some 64), none, .ext (.tmp 60) 1⟩,
    ⟨(some 65), none, .ext (.tmp 60) 2⟩,
    ⟨(some 16), none, .mov (.tmp 63)⟩,
    ⟨(some 17), none, .mov (.tmp 64)⟩,
    ⟨(some 18), none, .mov (.tmp 65)⟩])
 (.seq (.reg [⟨(some 67), none, .load true 3 (.tmp 2)⟩,
    ⟨(some 68), none, .call (.fn 21) [(.tmp 67)]⟩,
    ⟨(some 66), none, .mov (.tmp 68)⟩,
    ⟨(some 69), none, .ext (.tmp 66) 0⟩,
    ⟨(some 70), none, .ext (.tmp 66) 1⟩,
    ⟨(some 19), none, .alloc [(.int .i64 0), (.int .i64 0)]⟩,
    ⟨none, none, .store 2 (.tmp 19) (.tmp 69)⟩,
    ⟨(some 20), none, .mov (.tmp 70)⟩])
 (.seq (.reg [⟨(some 72), none, .load true 3 (.tmp 2)⟩,
    ⟨(some 73), none, .call (.fn 22) [(.tmp 72)]⟩,
    ⟨(some 71), none, .mov (.tmp 73)⟩,
    ⟨(some 74), none, .ext (.tmp 71) 0⟩,
    ⟨(some 75), none, .ext (.tmp 71) 1⟩,
    ⟨(some 21), none, .alloc [(.int .i64 0), (.int .i64 0)]⟩,
    ⟨none, none, .store 2 (.tmp 21) (.tmp 74)⟩,
    ⟨(some 22), none, .mov (.tmp 75)⟩])
 (.seq (.reg [⟨(some 77), none, .load true 3 (.tmp 2)⟩,
    ⟨(some 78), none, .call (.fn 23) [(.tmp 77)]⟩,
    ⟨(some 76), none, .mov (.tmp 78)⟩,
    ⟨(some 79), none, .ext (.tmp 76) 0⟩,
    ⟨(some 80), none, .ext (.tmp 76) 1⟩,
    ⟨(some 23), none, .mov (.tmp 79)⟩,
    ⟨(some 24), none, .mov (.tmp 80)⟩])
 (.seq (.reg [⟨(some 82), none, .load true 3 (.tmp 2)⟩,
    ⟨(some 83), none, .call (.fn 24) [(.tmp 82)]⟩,
    ⟨(some 81), none, .mov (.tmp 83)⟩,
    ⟨(some 84), none, .ext (.tmp 81) 0⟩,
    ⟨(some 85), none, .ext (.tmp 81) 1⟩,
    ⟨(some 25), none, .mov (.tmp 84)⟩,
    ⟨(some 26), none, .mov (.tmp 85)⟩])
 (.seq (.reg [⟨(some 86), none, .load true 2 (.tmp 5)⟩,
    ⟨(some 87), none, .load true 2 (.tmp 7)⟩,
    ⟨(some 88), none, .eqs false [(some .i64), (some .i64)] (.tmp 86) (.tmp 87)⟩,
    ⟨(some 89), none, .mov (.tmp 88)⟩,
    ⟨(some 90), (some (89, true)), .mov (.tmp 6)⟩,
    ⟨(some 91), (some (89, true)), .mov (.tmp 8)⟩,
    ⟨(some 92), (some (89, true)), .bin .eql (.tmp 90) (.tmp 91)⟩,
    ⟨(some 93), none, .pick (.tmp 89) (.tmp 92) (.lit (.bool false))⟩,
    ⟨(some 94), none, .mov (.tmp 93)⟩,
    ⟨(some 95), (some (94, true)), .load true 2 (.tmp 9)⟩,
    ⟨(some 96), (some (94, true)), .load true 2 (.tmp 11)⟩,
    ⟨(some 97), (some (94, true)), .eqs false [(some .i64), (some .i64)] (.tmp 95) (.tmp 96)⟩,
    ⟨(some 98), none, .pick (.tmp 94) (.tmp 97) (.lit (.bool false))⟩,
    ⟨(some 99), none, .mov (.tmp 98)⟩,
    ⟨(some 100), (some (99, true)), .mov (.tmp 10)⟩,
    ⟨(some 101), (some (99, true)), .mov (.tmp 12)⟩,
    ⟨(some 102), (some (99, true)), .bin .eql (.tmp 100) (.tmp 101)⟩,
    ⟨(some 103), none, .pick (.tmp 99) (.tmp 102) (.lit (.bool false))⟩,
    ⟨(some 104), none, .mov (.tmp 103)⟩,
    ⟨(some 105), (some (104, true)), .mov (.tmp 13)⟩,
    ⟨(some 106), (some (104, true)), .mov (.tmp 16)⟩,
    ⟨(some 107), (some (104, true)), .bin .eql (.tmp 105) (.tmp 106)⟩,
    ⟨(some 108), none, .pick (.tmp 104) (.tmp 107) (.lit (.bool false))⟩,
    ⟨(some 109), none, .mov (.tmp 108)⟩,
    ⟨(some 110), (some (109, true)), .mov (.tmp 14)⟩,
    ⟨(some 111), (some (109, true)), .mov (.tmp 17)⟩,
    ⟨(some 112), (some (109, true)), .bin .eql (.tmp 110) (.tmp 111)⟩,
    ⟨(some 113), none, .pick (.tmp 109) (.tmp 112) (.lit (.bool false))⟩,
    ⟨(some 114), none, .mov (.tmp 113)⟩,
    ⟨(some 115), (some (114, true)), .mov (.tmp 15)⟩,
    ⟨(some 116), (some (114, true)), .mov (.tmp 18)⟩,
    ⟨(some 117), (some (114, true)), .bin .eql (.tmp 115) (.tmp 116)⟩,
    ⟨(some 118), none, .pick (.tmp 114) (.tmp 117) (.lit (.bool false))⟩,
    ⟨(some 119), none, .mov (.tmp 118)⟩,
    ⟨(some 120), (some (119, true)), .load true 2 (.tmp 19)⟩,
    ⟨(some 121), (some (119, true)), .load true 2 (.tmp 21)⟩,
    ⟨(some 122), (some (119, true)), .eqs false [(some .i64), (some .i64)] (.tmp 120) (.tmp 121)⟩,
    ⟨(some 123), none, .pick (.tmp 119) (.tmp 122) (.lit (.bool false))⟩,
    ⟨(some 124), none, .mov (.tmp 123)⟩,
    ⟨(some 125), (some (124, true)), .mov (.tmp 20)⟩,
    ⟨(some 126), (some (124, true)), .mov (.tmp 22)⟩,
    ⟨(some 127), (some (124, true)), .bin .eql (.tmp 125) (.tmp 126)⟩,
    ⟨(some 128), none, .pick (.tmp 124) (.tmp 127) (.lit (.bool false))⟩,
    ⟨(some 129), none, .mov (.tmp 128)⟩,
    ⟨(some 130), (some (129, true)), .mov (.tmp 23)⟩,
    ⟨(some 131), (some (129, true)), .mov (.tmp 25)⟩,
    ⟨(some 132), (some (129, true)), .bin .eql (.tmp 130) (.tmp 131)⟩,
    ⟨(some 133), none, .pick (.tmp 129) (.tmp 132) (.lit (.bool false))⟩,
    ⟨(some 134), none, .mov (.tmp 133)⟩,
    ⟨(some 135), (some (134, true)), .mov (.tmp 24)⟩,
    ⟨(some 136), (some (134, true)), .mov (.tmp 26)⟩,
    ⟨(some 137), (some (134, true)), .bin .eql (.tmp 135) (.tmp 136)⟩,
    ⟨(some 138), none, .pick (.tmp 134) (.tmp 137) (.lit (.bool false))⟩,
    ⟨(some 139), none, .mov (.tmp 138)⟩,
    ⟨(some 140), (some (139, true)), .call (.fn 14) []⟩,
    ⟨(some 141), none, .pick (.tmp 139) (.tmp 140) (.lit (.bool false))⟩,
    ⟨(some 4), none, .mov (.tmp 141)⟩])
 (.ret)))))))))))))
theorem k3 : FnC Try.prog 3 142 [] [] [.tmp 4] c3 2 := ⟨Try.f3, _, Try.func3, rfl, by decide, rfl, by decide, by kernel_rfl, by kernel_rfl⟩
/-- dipworks/dipworkslaw06.TowelLooks -/
def c4 : AC :=
 .seq (.reg [⟨(some 1), none, .box (.tmp 0)⟩,
    ⟨(some 2), none, .mov (.lit (.bool false))⟩])
 (.seq (.seq (.reg [⟨(some 15), none, .load true 3 (.tmp 1)⟩,
     ⟨(some 16), none, .call (.fn 13) [(.tmp 15), (.lit (.int .i64 5))]⟩])
  (.cond (.tmp 16) (.seq (.reg [⟨(some 17), none, .call (.fn 14) []⟩,
      ⟨(some 2), none, .mov (.tmp 17)⟩])
   (.ret))
    (.skip)))
 (.seq (.reg [⟨(some 19), none, .load true 3 (.tmp 1)⟩,
    ⟨(some 20), none, .call (.fn 25) [(.tmp 19)]⟩,
    ⟨(some 18), none, .mov (.tmp 20)⟩,
    ⟨(some 21), none, .ext (.tmp 18) 0⟩,
    ⟨(some 22), none, .ext (.tmp 18) 1⟩,
    ⟨(some 23), none, .ext (.tmp 18) 2⟩,
    ⟨(some 3), none, .mov (.tmp 21)⟩,
    ⟨(some 4), none, .mov (.tmp 22)⟩,
    ⟨(some 5), none, .mov (.tmp 23)⟩])
 (.seq (.reg [⟨(some 25), none, .load true 3 (.tmp 1)⟩,
    ⟨(some 26), none, .call (.fn 26) [(.tmp 25)]⟩,
    ⟨(some 24), none, .mov (.tmp 26)⟩,
    ⟨(some 27), none, .ext (.tmp 24) 0⟩,
    ⟨(some 28), none, .ext (.tmp 24) 1⟩,
    ⟨(some 29), none, .ext (.tmp 24) 2⟩,
    ⟨(some 6), none, .mov (.tmp 27)⟩,
    ⟨(some 7), none, .mov (.tmp 28)⟩,
    ⟨(some 8), none, .mov (.tmp 29)⟩])
 (.seq (.reg [⟨(some 31), none, .load true 3 (.tmp 1)⟩,
    ⟨(some 32), none, .call (.fn 27) [(.tmp 31)]⟩,
    ⟨(some 30), none, .mov (.tmp 32)⟩,
    ⟨(some 33), none, .ext (.tmp 30) 0⟩,
    ⟨(some 34), none, .ext (.tmp 30) 1⟩,
    ⟨(some 35), none, .ext (.tmp 30) 2⟩,
    ⟨(some 9), none, .mov (.tmp 33)⟩,
    ⟨(some 10), none, .mov (.tmp 34)⟩,
    ⟨(some 11), none, .mov (.tmp 35)⟩])
 (.seq (.reg [⟨(some 37), none, .load true 3 (.tmp 1)⟩,
    ⟨(some 38), none, .call (.fn 28) [(.tmp 37)]⟩,
    ⟨(some 36), none, .mov (.tmp 38)⟩,
    ⟨(some 39), none, .ext (.tmp 36) 0⟩,
    ⟨(some 40), none, .ext (.tmp 36) 1⟩,
    ⟨(some 41), none, .ext (.tmp 36) 2⟩,
    ⟨(some 12), none, .mov (.tmp 39)⟩,
    ⟨(some 13), none, .mov (.tmp 40)⟩,
    ⟨(some 14), none, .mov (.tmp 41)⟩])
 (.seq (.reg [⟨(some 42), none, .mov (.tmp 3)⟩,
    ⟨(some 43), none, .mov (.tmp 6)⟩,
    ⟨(some 44), none, .bin .eql (.tmp 42) (.tmp 43)⟩,
    ⟨(some 45), none, .mov (.tmp 44)⟩,
    ⟨(some 46), (some (45, true)), .mov (.tmp 4)⟩,
    ⟨(some 47), (some (45, true)), .mov (.tmp 7)⟩,
    ⟨(some 48), (some (45, true)), .bin .eql (.tmp 46) (.tmp 47)⟩,
    ⟨(some 49), none, .pick (.tmp 45) (.tmp 48) (.lit (.bool false))⟩,
    ⟨(some 50), none, .mov (.tmp 49)⟩,
    ⟨(some 51), (some (50, true)), .mov (.tmp 5)⟩,
    ⟨(some 52), (some (50, true)), .mov (.tmp 8)⟩,
    ⟨(some 53), (some (50, true)), .bin .eql (.tmp 51) (.tmp 52)⟩,
    ⟨(some 54), none, .pick (.tmp 50) (.tmp 53) (.lit (.bool false))⟩,
    ⟨(some 55), none, .mov (.tmp 54)⟩,
    ⟨(some 56), (some (55, true)), .mov (.tmp 9)⟩,
    ⟨(some 57), (some (55, true)), .mov (.tmp 12)⟩,
    ⟨(some 58), (some (55, true)), .bin .eql (.tmp 56) (.tmp 57)⟩,
    ⟨(some 59), none, .pick (.tmp 55) (.tmp 58) (.lit (.bool false))⟩,
    ⟨(some 60), none, .mov (.tmp 59)⟩,
    ⟨(some 61), (some (60, true)), .mov (.tmp 10)⟩,
    ⟨(some 62), (some (60, true)), .mov (.tmp 13)⟩,
    ⟨(some 63), (some (60, true)), .bin .eql (.tmp 61) (.tmp 62)⟩,
    ⟨(some 64), none, .pick (.tmp 60) (.tmp 63) (.lit (.bool false))⟩,
    ⟨(some 65), none, .mov (.tmp 64)⟩,
    ⟨(some 66), (some (65, true)), .mov (.tmp 11)⟩,
    ⟨(some 67), (some (65, true)), .mov (.tmp 14)⟩,
    ⟨(some 68), (some (65, true)), .bin .eql (.tmp 66) (.tmp 67)⟩,
    ⟨(some 69), none, .pick (.tmp 65) (.tmp 68) (.lit (.bool false))⟩,
    ⟨(some 70), none, .mov (.tmp 69)⟩,
    ⟨(some 71), (some (70, true)), .call (.fn 14) []⟩,
    ⟨(some 72), none, .pick (.tmp 70) (.tmp 71) (.lit (.bool false))⟩,
    ⟨(some 2), none, .mov (.tmp 72)⟩])
 (.ret)))))))
theorem k4 : FnC Try.prog 4 73 [] [] [.tmp 2] c4 1 := ⟨Try.f4, _, Try.func4, rfl, by decide, rfl, by decide, by kernel_rfl, by kernel_rfl⟩
/-- dipworks/dipworkslaw06.TowelProves -/
def c5 : AC :=
 .seq (.reg [⟨(some 1), none, .box (.tmp 0)⟩,
    ⟨(some 2), none, .mov (.lit (.bool false))⟩])
 (.seq (.seq (.reg [⟨(some 9), none, .load true 3 (.tmp 1)⟩,
     ⟨(some 10), none, .call (.fn 13) [(.tmp 9), (.lit (.int .i64 4))]⟩])
  (.cond (.tmp 10) (.seq (.reg [⟨(some 11), none, .call (.fn 14) []⟩,
      ⟨(some 2), none, .mov (.tmp 11)⟩])
   (.ret))
    (.skip)))
 (.seq (.reg [⟨(some 13), none, .load true 3 (.tmp 1)⟩,
    ⟨(some 14), none, .call (.fn 29) [(.tmp 13)]⟩,
    ⟨(some 12), none, .mov (.tmp 14)⟩,
    ⟨(some 15), none, .ext (.tmp 12) 0⟩,
    ⟨(some 16), none, .ext (.tmp 12) 1⟩,
    ⟨(some 17), none, .ext (.tmp 12) 2⟩,
    ⟨(some 3), none, .mov (.tmp 15)⟩,
    ⟨(some 4), none, .mov (.tmp 16)⟩,
    ⟨(some 5), none, .mov (.tmp 17)⟩])
 (.seq (.reg [⟨(some 19), none, .load true 3 (.tmp 1)⟩,
    ⟨(some 20), none, .call (.fn 30) [(.tmp 19)]⟩,
    ⟨(some 18), none, .mov (.tmp 20)⟩,
    ⟨(some 21), none, .ext (.tmp 18) 0⟩,
    ⟨(some 22), none, .ext (.tmp 18) 1⟩,
    ⟨(some 23), none, .ext (.tmp 18) 2⟩,
    ⟨(some 6), none, .mov (.tmp 21)⟩,
    ⟨(some 7), none, .mov (.tmp 22)⟩,
    ⟨(some 8), none, .mov (.tmp 23)⟩])
 (.seq (.reg [⟨(some 24), none, .mov (.tmp 3)⟩,
    ⟨(some 25), none, .mov (.tmp 6)⟩,
    ⟨(some 26), none, .bin .eql (.tmp 24) (.tmp 25)⟩,
    ⟨(some 27), none, .mov (.tmp 26)⟩,
    ⟨(some 28), (some (27, true)), .mov (.tmp 4)⟩,
    ⟨(some 29), (some (27, true)), .mov (.tmp 7)⟩,
    ⟨(some 30), (some (27, true)), .bin .eql (.tmp 28) (.tmp 29)⟩,
    ⟨(some 31), none, .pick (.tmp 27) (.tmp 30) (.lit (.bool false))⟩,
    ⟨(some 32), none, .mov (.tmp 31)⟩,
    ⟨(some 33), (some (32, true)), .mov (.tmp 5)⟩,
    ⟨(some 34), (some (32, true)), .mov (.tmp 8)⟩,
    ⟨(some 35), (some (32, true)), .bin .eql (.tmp 33) (.tmp 34)⟩,
    ⟨(some 36), none, .pick (.tmp 32) (.tmp 35) (.lit (.bool false))⟩,
    ⟨(some 37), none, .mov (.tmp 36)⟩,
    ⟨(some 38), (some (37, true)), .call (.fn 14) []⟩,
    ⟨(some 39), none, .pick (.tmp 37) (.tmp 38) (.lit (.bool false))⟩,
    ⟨(some 2), none, .mov (.tmp 39)⟩])
 (.ret)))))
theorem k5 : FnC Try.prog 5 40 [] [] [.tmp 2] c5 1 := ⟨Try.f5, _, Try.func5, rfl, by decide, rfl, by decide, by kernel_rfl, by kernel_rfl⟩
/-- dipworks/dipworkslaw06.heavy -/
def c13 : AC :=
 .seq (.reg [⟨(some 2), none, .box (.tmp 0)⟩,
    ⟨(some 4), none, .mov (.lit (.bool false))⟩])
 (.seq (.reg [⟨(some 5), none, .load true 3 (.tmp 2)⟩,
    ⟨(some 6), none, .call (.fn 34) [(.tmp 5)]⟩,
    ⟨(some 7), none, .mov (.tmp 6)⟩,
    ⟨(some 8), (some (7, false)), .load true 3 (.tmp 2)⟩,
    ⟨(some 9), (some (7, false)), .call (.fn 35) [(.tmp 8)]⟩,
    ⟨(some 10), (some (7, false)), .mov (.tmp 9)⟩,
    ⟨(some 11), (some (10, true)), .faddr 0 (.tmp 2)⟩,
    ⟨(some 12), (some (10, true)), .load false 1 (.tmp 11)⟩,
    ⟨(some 13), (some (10, true)), .len (.tmp 12)⟩,
    ⟨(some 14), (some (10, true)), .mov (.tmp 1)⟩,
    ⟨(some 15), (some (10, true)), .bin .gtr (.tmp 13) (.tmp 14)⟩,
    ⟨(some 16), (some (7, false)), .pick (.tmp 10) (.tmp 15) (.lit (.bool false))⟩,
    ⟨(some 17), none, .pick (.tmp 7) (.lit (.bool true)) (.tmp 16)⟩,
    ⟨(some 4), none, .mov (.tmp 17)⟩])
 (.ret))
theorem k13 : FnC Try.prog 13 18 [] [] [.tmp 4] c13 2 := ⟨Try.f13, _, Try.func13, rfl, by decide, rfl, by decide, by kernel_rfl, by kernel_rfl⟩
/-- dipworks/dipworkslaw06.awake -/
def c14 : AC :=
 .seq (.reg [⟨(some 0), none, .mov (.lit (.bool false))⟩])
 (.seq (.reg [⟨(some 22), none, .call (.fn 42) [(.lit (.int .i64 2)), (.lit (.int .i64 3))]⟩,
    ⟨(some 23), none, .call (.fn 45) [(.tmp 22)]⟩,
    ⟨(some 1), none, .alloc [(.slice none 0 0), (.slice none 0 0), (.slice none 0 0)]⟩,
    ⟨none, none, .store 3 (.tmp 1) (.tmp 23)⟩])
 (.seq (.reg [⟨(some 25), none, .load true 3 (.tmp 1)⟩,
    ⟨(some 26), none, .call (.fn 15) [(.tmp 25), (.lit (.int .i64 3))]⟩,
    ⟨(some 24), none, .mov (.tmp 26)⟩,
    ⟨(some 27), none, .ext (.tmp 24) 0⟩,
    ⟨(some 28), none, .ext (.tmp 24) 1⟩,
    ⟨(some 2), none, .alloc [(.int .i64 0), (.int .i64 0)]⟩,
    ⟨none, none, .store 2 (.tmp 2) (.tmp 27)⟩,
    ⟨(some 3), none, .mov (.tmp 28)⟩])
 (.seq (.reg [⟨(some 30), none, .load true 3 (.tmp 1)⟩,
    ⟨(some 31), none, .call (.fn 17) [(.tmp 30), (.lit (.int .i64 3))]⟩,
    ⟨(some 29), none, .mov (.tmp 31)⟩,
    ⟨(some 32), none, .ext (.tmp 29) 0⟩,
    ⟨(some 33), none, .ext (.tmp 29) 1⟩,
    ⟨(some 4), none, .alloc [(.int .i64 0), (.int .i64 0)]⟩,
    ⟨none, none, .store 2 (.tmp 4) (.tmp 32)⟩,
    ⟨(some 5), none, .mov (.tmp 33)⟩])
 (.seq (.reg [⟨(some 35), none, .load true 3 (.tmp 1)⟩,
    ⟨(some 36), none, .call (.fn 19) [(.tmp 35)]⟩,
    ⟨(some 34), none, .mov (.tmp 36)⟩,
    ⟨(some 37), none, .ext (.tmp 34) 0⟩,
    ⟨(some 38), none, .ext (.tmp 34) 1⟩,
    ⟨(some 39), none, .ext (.tmp 34) 2⟩,
    ⟨(some 6), none, .mov (.tmp 37)⟩,
    ⟨(some 7), none, .mov (.tmp 38)⟩,
    ⟨(some 8), none, .mov (.tmp 39)⟩])
 (.seq (.reg [⟨(some 41), none, .load true 3 (.tmp 1)⟩,
    ⟨(some 42), none, .call (.fn 21) [(.tmp 41)]⟩,
    ⟨(some 40), none, .mov (.tmp 42)⟩,
    ⟨(some 43), none, .ext (.tmp 40) 0⟩,
    ⟨(some 44), none, .ext (.tmp 40) 1⟩,
    ⟨(some 9), none, .alloc [(.int .i64 0), (.int .i64 0)]⟩,
    ⟨none, none, .store 2 (.tmp 9) (.tmp 43)⟩,
    ⟨(some 10), none, .mov (.tmp 44)⟩])
 (.seq (.reg [⟨(some 46), none, .load true 3 (.tmp 1)⟩,
    ⟨(some 47), none, .call (.fn 23) [(.tmp 46)]⟩,
    ⟨(some 45), none, .mov (.tmp 47)⟩,
    ⟨(some 48), none, .ext (.tmp 45) 0⟩,
    ⟨(some 49), none, .ext (.tmp 45) 1⟩,
    ⟨(some 11), none, .mov (.tmp 48)⟩,
    ⟨(some 12), none, .mov (.tmp 49)⟩])
 (.seq (.reg [⟨(some 51), none, .load true 3 (.tmp 1)⟩,
    ⟨(some 52), none, .call (.fn 25) [(.tmp 51)]⟩,
    ⟨(some 50), none, .mov (.tmp 52)⟩,
    ⟨(some 53), none, .ext (.tmp 50) 0⟩,
    ⟨(some 54), none, .ext (.tmp 50) 1⟩,
    ⟨(some 55), none, .ext (.tmp 50) 2⟩,
    ⟨(some 13), none, .mov (.tmp 53)⟩,
    ⟨(some 14), none, .mov (.tmp 54)⟩,
    ⟨(some 15), none, .mov (.tmp 55)⟩])
 (.seq (.reg [⟨(some 57), none, .load true 3 (.tmp 1)⟩,
    ⟨(some 58), none, .call (.fn 27) [(.tmp 57)]⟩,
    ⟨(some 56), none, .mov (.tmp 58)⟩,
    ⟨(some 59), none, .ext (.tmp 56) 0⟩,
    ⟨(some 60), none, .ext (.tmp 56) 1⟩,
    ⟨(some 61), none, .ext (.tmp 56) 2⟩,
    ⟨(some 16), none, .mov (.tmp 59)⟩,
    ⟨(some 17), none, .mov (.tmp 60)⟩,
    ⟨(some 18), none, .mov (.tmp 61)⟩])
 (.seq (.reg [⟨(some 63), none, .call (.fn 42) [(.lit (.int .i64 5)), (.lit (.int .i64 5))]⟩,
    ⟨(some 64), none, .call (.fn 45) [(.tmp 63)]⟩,
    ⟨(some 65), none, .call (.fn 29) [(.tmp 64)]⟩,
    ⟨(some 62), none, .mov (.tmp 65)⟩,
    ⟨(some 66), none, .ext (.tmp 62) 0⟩,
    ⟨(some 67), none, .ext (.tmp 62) 1⟩,
    ⟨(some 68), none, .ext (.tmp 62) 2⟩,
    ⟨(some 19), none, .mov (.tmp 66)⟩,
    ⟨(some 20), none, .mov (.tmp 67)⟩,
    ⟨(some 21), none, .mov (.tmp 68)⟩])
 (.seq (.seq (.draw (.step ⟨(some 69), none, .load true 2 (.tmp 2)⟩ (
     .ev ⟨(some 70), none, .call (.fn 42) [(.lit (.int .i64 0)), (.lit (.int .i64 3))]⟩ [⟨(some 69), none, .load true 2 (.tmp 2)⟩] (
     .step ⟨(some 71), none, .eqs true [(some .i64), (some .i64)] (.tmp 69) (.tmp 70)⟩ (
      .step ⟨(some 72), none, .mov (.tmp 71)⟩ (
      .step ⟨(some 73), (some (72, false)), .mov (.tmp 3)⟩ (
      .step ⟨(some 74), (some (72, false)), .bin .neq (.tmp 73) (.lit (.int .i64 0))⟩ (
      .step ⟨(some 75), none, .pick (.tmp 72) (.lit (.bool true)) (.tmp 74)⟩ (
      .step ⟨(some 76), none, .mov (.tmp 75)⟩ (
      .step ⟨(some 77), (some (76, false)), .load true 2 (.tmp 4)⟩ (
      .ev ⟨(some 78), (some (76, false)), .call (.fn 42) [(.lit (.int .i64 0)), (.lit (.int .i64 2))]⟩ [⟨(some 77), (some (76, false)), .load true 2 (.tmp 4)⟩, ⟨(some 71), none, .eqs true [(some .i64), (some .i64)] (.tmp 69) (.tmp 70)⟩, ⟨(some 69), none, .load true 2 (.tmp 2)⟩] (
      .step ⟨(some 79), (some (76, false)), .eqs true [(some .i64), (some .i64)] (.tmp 77) (.tmp 78)⟩ (
       .step ⟨(some 80), none, .pick (.tmp 76) (.lit (.bool true)) (.tmp 79)⟩ (
       .step ⟨(some 81), none, .mov (.tmp 80)⟩ (
       .step ⟨(some 82), (some (81, false)), .mov (.tmp 5)⟩ (
       .step ⟨(some 83), (some (81, false)), .bin .neq (.tmp 82) (.lit (.int .i64 0))⟩ (
       .step ⟨(some 84), none, .pick (.tmp 81) (.lit (.bool true)) (.tmp 83)⟩ (
       .step ⟨(some 85), none, .mov (.tmp 84)⟩ (
       .step ⟨(some 86), (some (85, false)), .mov (.tmp 6)⟩ (
       .step ⟨(some 87), (some (85, false)), .bin .neq (.tmp 86) (.lit (.int .i64 2))⟩ (
       .step ⟨(some 88), none, .pick (.tmp 85) (.lit (.bool true)) (.tmp 87)⟩ (
       .step ⟨(some 89), none, .mov (.tmp 88)⟩ (
       .step ⟨(some 90), (some (89, false)), .mov (.tmp 7)⟩ (
       .step ⟨(some 91), (some (89, false)), .bin .neq (.tmp 90) (.lit (.int .i64 15))⟩ (
       .step ⟨(some 92), none, .pick (.tmp 89) (.lit (.bool true)) (.tmp 91)⟩ (
       .step ⟨(some 93), none, .mov (.tmp 92)⟩ (
       .step ⟨(some 94), (some (93, false)), .mov (.tmp 8)⟩ (
       .step ⟨(some 95), (some (93, false)), .bin .neq (.tmp 94) (.lit (.int .i64 0))⟩ (
       .step ⟨(some 96), none, .pick (.tmp 93) (.lit (.bool true)) (.tmp 95)⟩ (
       .step ⟨(some 97), none, .mov (.tmp 96)⟩ (
       .step ⟨(some 98), (some (97, false)), .load true 2 (.tmp 9)⟩ (
       .ev ⟨(some 99), (some (97, false)), .call (.fn 42) [(.lit (.int .i64 3)), (.lit (.int .i64 4))]⟩ [⟨(some 98), (some (97, false)), .load true 2 (.tmp 9)⟩, ⟨(some 79), (some (76, false)), .eqs true [(some .i64), (some .i64)] (.tmp 77) (.tmp 78)⟩, ⟨(some 77), (some (76, false)), .load true 2 (.tmp 4)⟩, ⟨(some 71), none, .eqs true [(some .i64), (some .i64)] (.tmp 69) (.tmp 70)⟩, ⟨(some 69), none, .load true 2 (.tmp 2)⟩] (
       .step ⟨(some 100), (some (97, false)), .eqs true [(some .i64), (some .i64)] (.tmp 98) (.tmp 99)⟩ (
        .step ⟨(some 101), none, .pick (.tmp 97) (.lit (.bool true)) (.tmp 100)⟩ (
        .step ⟨(some 102), none, .mov (.tmp 101)⟩ (
        .step ⟨(some 103), (some (102, false)), .mov (.tmp 10)⟩ (
        .step ⟨(some 104), (some (102, false)), .bin .neq (.tmp 103) (.lit (.int .i64 0))⟩ (
        .step ⟨(some 105), none, .pick (.tmp 102) (.lit (.bool true)) (.tmp 104)⟩ (
        .step ⟨(some 106), none, .mov (.tmp 105)⟩ (
        .step ⟨(some 107), (some (106, false)), .mov (.tmp 11)⟩ (
        .step ⟨(some 108), (some (106, false)), .bin .neq (.tmp 107) (.lit (.int .i64 4))⟩ (
        .step ⟨(some 109), none, .pick (.tmp 106) (.lit (.bool true)) (.tmp 108)⟩ (
        .step ⟨(some 110), none, .mov (.tmp 109)⟩ (
        .step ⟨(some 111), (some (110, false)), .mov (.tmp 12)⟩ (
        .step ⟨(some 112), (some (110, false)), .bin .neq (.tmp 111) (.lit (.int .i64 0))⟩ (
        .step ⟨(some 113), none, .pick (.tmp 110) (.lit (.bool true)) (.tmp 112)⟩ (
        .done)))))))))))))))
       (.stop))))))))))))))))))))))
      (.stop)))))))))
     (.stop))))
  (.cond (.tmp 113) (.seq (.reg [⟨(some 0), none, .mov (.lit (.bool false))⟩])
   (.ret))
    (.skip)))
 (.seq (.reg [⟨(some 114), none, .mov (.tmp 13)⟩,
    ⟨(some 115), none, .bin .eql (.tmp 114) (.lit (.int .i64 2))⟩,
    ⟨(some 116), none, .mov (.tmp 115)⟩,
    ⟨(some 117), (some (116, true)), .mov (.tmp 14)⟩,
    ⟨(some 118), (some (116, true)), .bin .eql (.tmp 117) (.lit (.int .i64 6))⟩,
    ⟨(some 119), none, .pick (.tmp 116) (.tmp 118) (.lit (.bool false))⟩,
    ⟨(some 120), none, .mov (.tmp 119)⟩,
    ⟨(some 121), (some (120, true)), .mov (.tmp 15)⟩,
    ⟨(some 122), (some (120, true)), .bin .eql (.tmp 121) (.lit (.int .i64 0))⟩,
    ⟨(some 123), none, .pick (.tmp 120) (.tmp 122) (.lit (.bool false))⟩,
    ⟨(some 124), none, .mov (.tmp 123)⟩,
    ⟨(some 125), (some (124, true)), .mov (.tmp 16)⟩,
    ⟨(some 126), (some (124, true)), .bin .eql (.tmp 125) (.lit (.int .i64 0))⟩,
    ⟨(some 127), none, .pick (.tmp 124) (.tmp 126) (.lit (.bool false))⟩,
    ⟨(some 128), none, .mov (.tmp 127)⟩,
    ⟨(some 129), (some (128, true)), .mov (.tmp 17)⟩,
    ⟨(some 130), (some (128, true)), .bin .eql (.tmp 129) (.lit (.int .i64 2))⟩,
    ⟨(some 131), none, .pick (.tmp 128) (.tmp 130) (.lit (.bool false))⟩,
    ⟨(some 132), none, .mov (.tmp 131)⟩,
    ⟨(some 133), (some (132, true)), .mov (.tmp 18)⟩,
    ⟨(some 134), (some (132, true)), .bin .eql (.tmp 133) (.lit (.int .i64 0))⟩,
    ⟨(some 135), none, .pick (.tmp 132) (.tmp 134) (.lit (.bool false))⟩,
    ⟨(some 136), none, .mov (.tmp 135)⟩,
    ⟨(some 137), (some (136, true)), .mov (.tmp 19)⟩,
    ⟨(some 138), (some (136, true)), .bin .eql (.tmp 137) (.lit (.int .i64 2))⟩,
    ⟨(some 139), none, .pick (.tmp 136) (.tmp 138) (.lit (.bool false))⟩,
    ⟨(some 140), none, .mov (.tmp 139)⟩,
    ⟨(some 141), (some (140, true)), .mov (.tmp 20)⟩,
    ⟨(some 142), (some (140, true)), .bin .eql (.tmp 141) (.lit (.int .i64 2))⟩,
    ⟨(some 143), none, .pick (.tmp 140) (.tmp 142) (.lit (.bool false))⟩,
    ⟨(some 144), none, .mov (.tmp 143)⟩,
    ⟨(some 145), (some (144, true)), .mov (.tmp 21)⟩,
    ⟨(some 146), (some (144, true)), .bin .eql (.tmp 145) (.lit (.int .i64 0))⟩,
    ⟨(some 147), none, .pick (.tmp 144) (.tmp 146) (.lit (.bool false))⟩,
    ⟨(some 0), none, .mov (.tmp 147)⟩])
 (.ret))))))))))))
theorem k14 : FnC Try.prog 14 148 [] [] [.tmp 0] c14 0 := ⟨Try.f14, _, Try.func14, rfl, by decide, rfl, by decide, by kernel_rfl, by kernel_rfl⟩
/-- dipworks/dipworkslaw06.far -/
def c34 : AC :=
 .seq (.reg [⟨(some 1), none, .box (.tmp 0)⟩,
    ⟨(some 2), none, .mov (.lit (.bool false))⟩])
 (.seq (.reg [⟨(some 3), none, .faddr 0 (.tmp 1)⟩,
    ⟨(some 4), none, .load false 1 (.tmp 3)⟩,
    ⟨(some 5), none, .len (.tmp 4)⟩,
    ⟨(some 6), none, .faddr 1 (.tmp 1)⟩,
    ⟨(some 7), none, .load false 1 (.tmp 6)⟩,
    ⟨(some 8), none, .len (.tmp 7)⟩,
    ⟨(some 9), none, .faddr 2 (.tmp 1)⟩,
    ⟨(some 10), none, .load false 1 (.tmp 9)⟩,
    ⟨(some 11), none, .len (.tmp 10)⟩,
    ⟨(some 12), none, .mxmn true (.tmp 5) [(.tmp 8), (.tmp 11)]⟩,
    ⟨(some 13), none, .bin .gtr (.tmp 12) (.lit (.int .i64 40))⟩,
    ⟨(some 2), none, .mov (.tmp 13)⟩])
 (.ret))
theorem k34 : FnC Try.prog 34 14 [] [] [.tmp 2] c34 1 := ⟨Try.f34, _, Try.func34, rfl, by decide, rfl, by decide, by kernel_rfl, by kernel_rfl⟩
/-- dipworks/dipworkslaw06.span -/
def c42 : AC :=
 .seq (.reg [⟨(some 4), none, .alloc [(.int .i64 0), (.int .i64 0)]⟩])
 (.seq (.reg [⟨(some 5), none, .mov (.tmp 0)⟩,
    ⟨(some 6), none, .mov (.tmp 1)⟩,
    ⟨(some 7), none, .build [(.int .i64 0), (.int .i64 0)] [(0, 1, (.tmp 5)), (1, 1, (.tmp 6))]⟩,
    ⟨none, none, .store 2 (.tmp 4) (.tmp 7)⟩])
 (.ret))
theorem k42 : FnC Try.prog 42 8 [4] [] [.cell 4 true 2] c42 2 := ⟨Try.f42, _, Try.func42, rfl, by decide, rfl, by decide, by kernel_rfl, by kernel_rfl⟩
/-- dipworks/dipworkslaw06.bather -/
def c44 : AC :=
 .seq (.reg [⟨(some 6), none, .box (.tmp 2)⟩,
    ⟨(some 7), none, .box (.tmp 3)⟩,
    ⟨(some 8), none, .alloc [(.int .i64 0), (.int .i64 0), (.int .i64 0), (.int .i64 0), (.int .i64 0), (.int .i64 0)]⟩])
 (.seq (.reg [⟨(some 9), none, .mov (.tmp 0)⟩,
    ⟨(some 10), none, .mov (.tmp 1)⟩,
    ⟨(some 11), none, .load true 2 (.tmp 6)⟩,
    ⟨(some 12), none, .load true 2 (.tmp 7)⟩,
    ⟨(some 13), none, .build [(.int .i64 0), (.int .i64 0), (.int .i64 0), (.int .i64 0), (.int .i64 0), (.int .i64 0)] [(0, 1, (.tmp 9)), (1, 1, (.tmp 10)), (2, 2, (.tmp 11)), (4, 2, (.tmp 12))]⟩,
    ⟨none, none, .store 6 (.tmp 8) (.tmp 13)⟩])
 (.ret))
theorem k44 : FnC Try.prog 44 14 [8] [] [.cell 8 true 6] c44 4 := ⟨Try.f44, _, Try.func44, rfl, by decide, rfl, by decide, by kernel_rfl, by kernel_rfl⟩
/-- dipworks/dipworkslaw06.sample -/
def c45 : AC :=
 .seq (.reg [⟨(some 1), none, .box (.tmp 0)⟩,
    ⟨(some 2), none, .alloc [(.slice none 0 0), (.slice none 0 0), (.slice none 0 0)]⟩])
 (.seq (.draw (.step ⟨(some 20), none, .load true 2 (.tmp 1)⟩ (
    .ev ⟨(some 3), none, .call (.fn 42) [(.lit (.int .i64 2)), (.lit (.int .i64 2))]⟩ [⟨(some 20), none, .load true 2 (.tmp 1)⟩] (
    .ev ⟨(some 4), none, .call (.fn 42) [(.lit (.int .i64 1)), (.lit (.int .i64 2))]⟩ [⟨(some 20), none, .load true 2 (.tmp 1)⟩] (
     .ev ⟨(some 5), none, .call (.fn 44) [(.lit (.int .i64 0)), (.lit (.int .i64 0)), (.tmp 3), (.tmp 4)]⟩ [⟨(some 20), none, .load true 2 (.tmp 1)⟩] (
      .ev ⟨(some 6), none, .call (.fn 42) [(.lit (.int .i64 2)), (.lit (.int .i64 3))]⟩ [⟨(some 20), none, .load true 2 (.tmp 1)⟩] (
       .ev ⟨(some 7), none, .call (.fn 42) [(.lit (.int .i64 1)), (.lit (.int .i64 1))]⟩ [⟨(some 20), none, .load true 2 (.tmp 1)⟩] (
        .ev ⟨(some 8), none, .call (.fn 44) [(.lit (.int .i64 0)), (.lit (.int .i64 1)), (.tmp 6), (.tmp 7)]⟩ [⟨(some 20), none, .load true 2 (.tmp 1)⟩] (
         .ev ⟨(some 9), none, .call (.fn 42) [(.lit (.int .i64 1)), (.lit (.int .i64 1))]⟩ [⟨(some 20), none, .load true 2 (.tmp 1)⟩] (
          .ev ⟨(some 10), none, .call (.fn 42) [(.lit (.int .i64 0)), (.lit (.int .i64 1))]⟩ [⟨(some 20), none, .load true 2 (.tmp 1)⟩] (
           .ev ⟨(some 11), none, .call (.fn 44) [(.lit (.int .i64 1)), (.lit (.int .i64 0)), (.tmp 9), (.tmp 10)]⟩ [⟨(some 20), none, .load true 2 (.tmp 1)⟩] (
            .ev ⟨(some 12), none, .call (.fn 42) [(.lit (.int .i64 3)), (.lit (.int .i64 3))]⟩ [⟨(some 20), none, .load true 2 (.tmp 1)⟩] (
             .ev ⟨(some 13), none, .call (.fn 42) [(.lit (.int .i64 0)), (.lit (.int .i64 3))]⟩ [⟨(some 20), none, .load true 2 (.tmp 1)⟩] (
              .ev ⟨(some 14), none, .call (.fn 44) [(.lit (.int .i64 1)), (.lit (.int .i64 1)), (.tmp 12), (.tmp 13)]⟩ [⟨(some 20), none, .load true 2 (.tmp 1)⟩] (
               .ev ⟨(some 15), none, .bslice 6 (.agg #[(.int .i64 0), (.int .i64 0), (.int .i64 0), (.int .i64 0), (.int .i64 0), (.int .i64 0)]) 4 [(0, (.tmp 5)), (1, (.tmp 8)), (2, (.tmp 11)), (3, (.tmp 14))]⟩ [⟨(some 20), none, .load true 2 (.tmp 1)⟩] (
                .ev ⟨(some 16), none, .call (.fn 42) [(.lit (.int .i64 2)), (.lit (.int .i64 2))]⟩ [⟨(some 20), none, .load true 2 (.tmp 1)⟩] (
                 .ev ⟨(some 17), none, .call (.fn 42) [(.lit (.int .i64 1)), (.lit (.int .i64 2))]⟩ [⟨(some 20), none, .load true 2 (.tmp 1)⟩] (
                  .ev ⟨(some 18), none, .bslice 2 (.agg #[(.int .i64 0), (.int .i64 0)]) 2 [(0, (.tmp 16)), (1, (.tmp 17))]⟩ [⟨(some 20), none, .load true 2 (.tmp 1)⟩] (
                   .ev ⟨(some 19), none, .call (.fn 42) [(.lit (.int .i64 1)), (.lit (.int .i64 1))]⟩ [⟨(some 20), none, .load true 2 (.tmp 1)⟩] (
                    .ev ⟨(some 21), none, .bslice 2 (.agg #[(.int .i64 0), (.int .i64 0)]) 2 [(0, (.tmp 19)), (1, (.tmp 20))]⟩ [] (
                     .step ⟨(some 22), none, .build [(.slice none 0 0), (.slice none 0 0), (.slice none 0 0)] [(0, 1, (.tmp 15)), (1, 1, (.tmp 18)), (2, 1, (.tmp 21))]⟩ (
                      .ev ⟨none, none, .store 3 (.tmp 2) (.tmp 22)⟩ [] (
                      .done)
                      (.stop)))
                     (.stop))
                    (.stop))
                   (.ev ⟨(some 19), none, .call (.fn 42) [(.lit (.int .i64 1)), (.lit (.int .i64 1))]⟩ [⟨(some 20), none, .load true 2 (.tmp 1)⟩] (
                   .ev ⟨(some 18), none, .bslice 2 (.agg #[(.int .i64 0), (.int .i64 0)]) 2 [(0, (.tmp 16)), (1, (.tmp 17))]⟩ [⟨(some 20), none, .load true 2 (.tmp 1)⟩] (
                    .ev ⟨(some 21), none, .bslice 2 (.agg #[(.int .i64 0), (.int .i64 0)]) 2 [(0, (.tmp 19)), (1, (.tmp 20))]⟩ [] (
                     .step ⟨(some 22), none, .build [(.slice none 0 0), (.slice none 0 0), (.slice none 0 0)] [(0, 1, (.tmp 15)), (1, 1, (.tmp 18)), (2, 1, (.tmp 21))]⟩ (
                      .ev ⟨none, none, .store 3 (.tmp 2) (.tmp 22)⟩ [] (
                      .done)
                      (.stop)))
                     (.stop))
                    (.ev ⟨(some 21), none, .bslice 2 (.agg #[(.int .i64 0), (.int .i64 0)]) 2 [(0, (.tmp 19)), (1, (.tmp 20))]⟩ [] (
                    .ev ⟨(some 18), none, .bslice 2 (.agg #[(.int .i64 0), (.int .i64 0)]) 2 [(0, (.tmp 16)), (1, (.tmp 17))]⟩ [⟨(some 20), none, .load true 2 (.tmp 1)⟩] (
                     .step ⟨(some 22), none, .build [(.slice none 0 0), (.slice none 0 0), (.slice none 0 0)] [(0, 1, (.tmp 15)), (1, 1, (.tmp 18)), (2, 1, (.tmp 21))]⟩ (
                      .ev ⟨none, none, .store 3 (.tmp 2) (.tmp 22)⟩ [] (
                      .done)
                      (.stop)))
                     (.stop))
                    (.stop)))
                   (.stop)))
                  (.stop))
                 (.stop))
                (.ev ⟨(some 16), none, .call (.fn 42) [(.lit (.int .i64 2)), (.lit (.int .i64 2))]⟩ [⟨(some 20), none, .load true 2 (.tmp 1)⟩] (
                .ev ⟨(some 15), none, .bslice 6 (.agg #[(.int .i64 0), (.int .i64 0), (.int .i64 0), (.int .i64 0), (.int .i64 0), (.int .i64 0)]) 4 [(0, (.tmp 5)), (1, (.tmp 8)), (2, (.tmp 11)), (3, (.tmp 14))]⟩ [⟨(some 20), none, .load true 2 (.tmp 1)⟩] (
                 .ev ⟨(some 17), none, .call (.fn 42) [(.lit (.int .i64 1)), (.lit (.int .i64 2))]⟩ [⟨(some 20), none, .load true 2 (.tmp 1)⟩] (
                  .ev ⟨(some 18), none, .bslice 2 (.agg #[(.int .i64 0), (.int .i64 0)]) 2 [(0, (.tmp 16)), (1, (.tmp 17))]⟩ [⟨(some 20), none, .load true 2 (.tmp 1)⟩] (
                   .ev ⟨(some 19), none, .call (.fn 42) [(.lit (.int .i64 1)), (.lit (.int .i64 1))]⟩ [⟨(some 20), none, .load true 2 (.tmp 1)⟩] (
                    .ev ⟨(some 21), none, .bslice 2 (.agg #[(.int .i64 0), (.int .i64 0)]) 2 [(0, (.tmp 19)), (1, (.tmp 20))]⟩ [] (
                     .step ⟨(some 22), none, .build [(.slice none 0 0), (.slice none 0 0), (.slice none 0 0)] [(0, 1, (.tmp 15)), (1, 1, (.tmp 18)), (2, 1, (.tmp 21))]⟩ (
                      .ev ⟨none, none, .store 3 (.tmp 2) (.tmp 22)⟩ [] (
                      .done)
                      (.stop)))
                     (.stop))
                    (.stop))
                   (.ev ⟨(some 19), none, .call (.fn 42) [(.lit (.int .i64 1)), (.lit (.int .i64 1))]⟩ [⟨(some 20), none, .load true 2 (.tmp 1)⟩] (
                   .ev ⟨(some 18), none, .bslice 2 (.agg #[(.int .i64 0), (.int .i64 0)]) 2 [(0, (.tmp 16)), (1, (.tmp 17))]⟩ [⟨(some 20), none, .load true 2 (.tmp 1)⟩] (
                    .ev ⟨(some 21), none, .bslice 2 (.agg #[(.int .i64 0), (.int .i64 0)]) 2 [(0, (.tmp 19)), (1, (.tmp 20))]⟩ [] (
                     .step ⟨(some 22), none, .build [(.slice none 0 0), (.slice none 0 0), (.slice none 0 0)] [(0, 1, (.tmp 15)), (1, 1, (.tmp 18)), (2, 1, (.tmp 21))]⟩ (
                      .ev ⟨none, none, .store 3 (.tmp 2) (.tmp 22)⟩ [] (
                      .done)
                      (.stop)))
                     (.stop))
                    (.ev ⟨(some 21), none, .bslice 2 (.agg #[(.int .i64 0), (.int .i64 0)]) 2 [(0, (.tmp 19)), (1, (.tmp 20))]⟩ [] (
                    .ev ⟨(some 18), none, .bslice 2 (.agg #[(.int .i64 0), (.int .i64 0)]) 2 [(0, (.tmp 16)), (1, (.tmp 17))]⟩ [⟨(some 20), none, .load true 2 (.tmp 1)⟩] (
                     .step ⟨(some 22), none, .build [(.slice none 0 0), (.slice none 0 0), (.slice none 0 0)] [(0, 1, (.tmp 15)), (1, 1, (.tmp 18)), (2, 1, (.tmp 21))]⟩ (
                      .ev ⟨none, none, .store 3 (.tmp 2) (.tmp 22)⟩ [] (
                      .done)
                      (.stop)))
                     (.stop))
                    (.stop)))
                   (.stop)))
                  (.stop))
                 (.ev ⟨(some 17), none, .call (.fn 42) [(.lit (.int .i64 1)), (.lit (.int .i64 2))]⟩ [⟨(some 20), none, .load true 2 (.tmp 1)⟩] (
                 .ev ⟨(some 15), none, .bslice 6 (.agg #[(.int .i64 0), (.int .i64 0), (.int .i64 0), (.int .i64 0), (.int .i64 0), (.int .i64 0)]) 4 [(0, (.tmp 5)), (1, (.tmp 8)), (2, (.tmp 11)), (3, (.tmp 14))]⟩ [⟨(some 20), none, .load true 2 (.tmp 1)⟩] (
                  .ev ⟨(some 18), none, .bslice 2 (.agg #[(.int .i64 0), (.int .i64 0)]) 2 [(0, (.tmp 16)), (1, (.tmp 17))]⟩ [⟨(some 20), none, .load true 2 (.tmp 1)⟩] (
                   .ev ⟨(some 19), none, .call (.fn 42) [(.lit (.int .i64 1)), (.lit (.int .i64 1))]⟩ [⟨(some 20), none, .load true 2 (.tmp 1)⟩] (
                    .ev ⟨(some 21), none, .bslice 2 (.agg #[(.int .i64 0), (.int .i64 0)]) 2 [(0, (.tmp 19)), (1, (.tmp 20))]⟩ [] (
                     .step ⟨(some 22), none, .build [(.slice none 0 0), (.slice none 0 0), (.slice none 0 0)] [(0, 1, (.tmp 15)), (1, 1, (.tmp 18)), (2, 1, (.tmp 21))]⟩ (
                      .ev ⟨none, none, .store 3 (.tmp 2) (.tmp 22)⟩ [] (
                      .done)
                      (.stop)))
                     (.stop))
                    (.stop))
                   (.ev ⟨(some 19), none, .call (.fn 42) [(.lit (.int .i64 1)), (.lit (.int .i64 1))]⟩ [⟨(some 20), none, .load true 2 (.tmp 1)⟩] (
                   .ev ⟨(some 18), none, .bslice 2 (.agg #[(.int .i64 0), (.int .i64 0)]) 2 [(0, (.tmp 16)), (1, (.tmp 17))]⟩ [⟨(some 20), none, .load true 2 (.tmp 1)⟩] (
                    .ev ⟨(some 21), none, .bslice 2 (.agg #[(.int .i64 0), (.int .i64 0)]) 2 [(0, (.tmp 19)), (1, (.tmp 20))]⟩ [] (
                     .step ⟨(some 22), none, .build [(.slice none 0 0), (.slice none 0 0), (.slice none 0 0)] [(0, 1, (.tmp 15)), (1, 1, (.tmp 18)), (2, 1, (.tmp 21))]⟩ (
                      .ev ⟨none, none, .store 3 (.tmp 2) (.tmp 22)⟩ [] (
                      .done)
                      (.stop)))
                     (.stop))
                    (.ev ⟨(some 21), none, .bslice 2 (.agg #[(.int .i64 0), (.int .i64 0)]) 2 [(0, (.tmp 19)), (1, (.tmp 20))]⟩ [] (
                    .ev ⟨(some 18), none, .bslice 2 (.agg #[(.int .i64 0), (.int .i64 0)]) 2 [(0, (.tmp 16)), (1, (.tmp 17))]⟩ [⟨(some 20), none, .load true 2 (.tmp 1)⟩] (
                     .step ⟨(some 22), none, .build [(.slice none 0 0), (.slice none 0 0), (.slice none 0 0)] [(0, 1, (.tmp 15)), (1, 1, (.tmp 18)), (2, 1, (.tmp 21))]⟩ (
                      .ev ⟨none, none, .store 3 (.tmp 2) (.tmp 22)⟩ [] (
                      .done)
                      (.stop)))
                     (.stop))
                    (.stop)))
                   (.stop)))
                  (.ev ⟨(some 18), none, .bslice 2 (.agg #[(.int .i64 0), (.int .i64 0)]) 2 [(0, (.tmp 16)), (1, (.tmp 17))]⟩ [⟨(some 20), none, .load true 2 (.tmp 1)⟩] (
                  .ev ⟨(some 15), none, .bslice 6 (.agg #[(.int .i64 0), (.int .i64 0), (.int .i64 0), (.int .i64 0), (.int .i64 0), (.int .i64 0)]) 4 [(0, (.tmp 5)), (1, (.tmp 8)), (2, (.tmp 11)), (3, (.tmp 14))]⟩ [⟨(some 20), none, .load true 2 (.tmp 1)⟩] (
                   .ev ⟨(some 19), none, .call (.fn 42) [(.lit (.int .i64 1)), (.lit (.int .i64 1))]⟩ [⟨(some 20), none, .load true 2 (.tmp 1)⟩] (
                    .ev ⟨(some 21), none, .bslice 2 (.agg #[(.int .i64 0), (.int .i64 0)]) 2 [(0, (.tmp 19)), (1, (.tmp 20))]⟩ [] (
                     .step ⟨(some 22), none, .build [(.slice none 0 0), (.slice none 0 0), (.slice none 0 0)] [(0, 1, (.tmp 15)), (1, 1, (.tmp 18)), (2, 1, (.tmp 21))]⟩ (
                      .ev ⟨none, none, .store 3 (.tmp 2) (.tmp 22)⟩ [] (
                      .done)
                      (.stop)))
                     (.stop))
                    (.stop))
                   (.ev ⟨(some 19), none, .call (.fn 42) [(.lit (.int .i64 1)), (.lit (.int .i64 1))]⟩ [⟨(some 20), none, .load true 2 (.tmp 1)⟩] (
                   .ev ⟨(some 15), none, .bslice 6 (.agg #[(.int .i64 0), (.int .i64 0), (.int .i64 0), (.int .i64 0), (.int .i64 0), (.int .i64 0)]) 4 [(0, (.tmp 5)), (1, (.tmp 8)), (2, (.tmp 11)), (3, (.tmp 14))]⟩ [⟨(some 20), none, .load true 2 (.tmp 1)⟩] (
                    .ev ⟨(some 21), none, .bslice 2 (.agg #[(.int .i64 0), (.int .i64 0)]) 2 [(0, (.tmp 19)), (1, (.tmp 20))]⟩ [] (
                     .step ⟨(some 22), none, .build [(.slice none 0 0), (.slice none 0 0), (.slice none 0 0)] [(0, 1, (.tmp 15)), (1, 1, (.tmp 18)), (2, 1, (.tmp 21))]⟩ (
                      .ev ⟨none, none, .store 3 (.tmp 2) (.tmp 22)⟩ [] (
                      .done)
                      (.stop)))
                     (.stop))
                    (.ev ⟨(some 21), none, .bslice 2 (.agg #[(.int .i64 0), (.int .i64 0)]) 2 [(0, (.tmp 19)), (1, (.tmp 20))]⟩ [] (
                    .ev ⟨(some 15), none, .bslice 6 (.agg #[(.int .i64 0), (.int .i64 0), (.int .i64 0), (.int .i64 0), (.int .i64 0), (.int .i64 0)]) 4 [(0, (.tmp 5)), (1, (.tmp 8)), (2, (.tmp 11)), (3, (.tmp 14))]⟩ [⟨(some 20), none, .load true 2 (.tmp 1)⟩] (
                     .step ⟨(some 22), none, .build [(.slice none 0 0), (.slice none 0 0), (.slice none 0 0)] [(0, 1, (.tmp 15)), (1, 1, (.tmp 18)), (2, 1, (.tmp 21))]⟩ (
                      .ev ⟨none, none, .store 3 (.tmp 2) (.tmp 22)⟩ [] (
                      .done)
                      (.stop)))
                     (.stop))
                    (.stop)))
                   (.stop)))
                  (.ev ⟨(some 19), none, .call (.fn 42) [(.lit (.int .i64 1)), (.lit (.int .i64 1))]⟩ [⟨(some 20), none, .load true 2 (.tmp 1)⟩] (
                  .ev ⟨(some 15), none, .bslice 6 (.agg #[(.int .i64 0), (.int .i64 0), (.int .i64 0), (.int .i64 0), (.int .i64 0), (.int .i64 0)]) 4 [(0, (.tmp 5)), (1, (.tmp 8)), (2, (.tmp 11)), (3, (.tmp 14))]⟩ [⟨(some 20), none, .load true 2 (.tmp 1)⟩] (
                   .ev ⟨(some 18), none, .bslice 2 (.agg #[(.int .i64 0), (.int .i64 0)]) 2 [(0, (.tmp 16)), (1, (.tmp 17))]⟩ [⟨(some 20), none, .load true 2 (.tmp 1)⟩] (
                    .ev ⟨(some 21), none, .bslice 2 (.agg #[(.int .i64 0), (.int .i64 0)]) 2 [(0, (.tmp 19)), (1, (.tmp 20))]⟩ [] (
                     .step ⟨(some 22), none, .build [(.slice none 0 0), (.slice none 0 0), (.slice none 0 0)] [(0, 1, (.tmp 15)), (1, 1, (.tmp 18)), (2, 1, (.tmp 21))]⟩ (
                      .ev ⟨none, none, .store 3 (.tmp 2) (.tmp 22)⟩ [] (
                      .done)
                      (.stop)))
                     (.stop))
                    (.ev ⟨(some 21), none, .bslice 2 (.agg #[(.int .i64 0), (.int .i64 0)]) 2 [(0, (.tmp 19)), (1, (.tmp 20))]⟩ [] (
                    .ev ⟨(some 18), none, .bslice 2 (.agg #[(.int .i64 0), (.int .i64 0)]) 2 [(0, (.tmp 16)), (1, (.tmp 17))]⟩ [⟨(some 20), none, .load true 2 (.tmp 1)⟩] (
                     .step ⟨(some 22), none, .build [(.slice none 0 0), (.slice none 0 0), (.slice none 0 0)] [(0, 1, (.tmp 15)), (1, 1, (.tmp 18)), (2, 1, (.tmp 21))]⟩ (
                      .ev ⟨none, none, .store 3 (.tmp 2) (.tmp 22)⟩ [] (
                      .done)
                      (.stop)))
                     (.stop))
                    (.stop)))
                   (.ev ⟨(some 18), none, .bslice 2 (.agg #[(.int .i64 0), (.int .i64 0)]) 2 [(0, (.tmp 16)), (1, (.tmp 17))]⟩ [⟨(some 20), none, .load true 2 (.tmp 1)⟩] (
                   .ev ⟨(some 15), none, .bslice 6 (.agg #[(.int .i64 0), (.int .i64 0), (.int .i64 0), (.int .i64 0), (.int .i64 0), (.int .i64 0)]) 4 [(0, (.tmp 5)), (1, (.tmp 8)), (2, (.tmp 11)), (3, (.tmp 14))]⟩ [⟨(some 20), none, .load true 2 (.tmp 1)⟩] (
                    .ev ⟨(some 21), none, .bslice 2 (.agg #[(.int .i64 0), (.int .i64 0)]) 2 [(0, (.tmp 19)), (1, (.tmp 20))]⟩ [] (
                     .step ⟨(some 22), none, .build [(.slice none 0 0), (.slice none 0 0), (.slice none 0 0)] [(0, 1, (.tmp 15)), (1, 1, (.tmp 18)), (2, 1, (.tmp 21))]⟩ (
                      .ev ⟨none, none, .store 3 (.tmp 2) (.tmp 22)⟩ [] (
                      .done)
                      (.stop)))
                     (.stop))
                    (.ev ⟨(some 21), none, .bslice 2 (.agg #[(.int .i64 0), (.int .i64 0)]) 2 [(0, (.tmp 19)), (1, (.tmp 20))]⟩ [] (
                    .ev ⟨(some 15), none, .bslice 6 (.agg #[(.int .i64 0), (.int .i64 0), (.int .i64 0), (.int .i64 0), (.int .i64 0), (.int .i64 0)]) 4 [(0, (.tmp 5)), (1, (.tmp 8)), (2, (.tmp 11)), (3, (.tmp 14))]⟩ [⟨(some 20), none, .load true 2 (.tmp 1)⟩] (
                     .step ⟨(some 22), none, .build [(.slice none 0 0), (.slice none 0 0), (.slice none 0 0)] [(0, 1, (.tmp 15)), (1, 1, (.tmp 18)), (2, 1, (.tmp 21))]⟩ (
                      .ev ⟨none, none, .store 3 (.tmp 2) (.tmp 22)⟩ [] (
                      .done)
                      (.stop)))
                     (.stop))
                    (.stop)))
                   (.ev ⟨(some 21), none, .bslice 2 (.agg #[(.int .i64 0), (.int .i64 0)]) 2 [(0, (.tmp 19)), (1, (.tmp 20))]⟩ [] (
                   .ev ⟨(some 15), none, .bslice 6 (.agg #[(.int .i64 0), (.int .i64 0), (.int .i64 0), (.int .i64 0), (.int .i64 0), (.int .i64 0)]) 4 [(0, (.tmp 5)), (1, (.tmp 8)), (2, (.tmp 11)), (3, (.tmp 14))]⟩ [⟨(some 20), none, .load true 2 (.tmp 1)⟩] (
                    .ev ⟨(some 18), none, .bslice 2 (.agg #[(.int .i64 0), (.int .i64 0)]) 2 [(0, (.tmp 16)), (1, (.tmp 17))]⟩ [⟨(some 20), none, .load true 2 (.tmp 1)⟩] (
                     .step ⟨(some 22), none, .build [(.slice none 0 0), (.slice none 0 0), (.slice none 0 0)] [(0, 1, (.tmp 15)), (1, 1, (.tmp 18)), (2, 1, (.tmp 21))]⟩ (
                      .ev ⟨none, none, .store 3 (.tmp 2) (.tmp 22)⟩ [] (
                      .done)
                      (.stop)))
                     (.stop))
                    (.ev ⟨(some 18), none, .bslice 2 (.agg #[(.int .i64 0), (.int .i64 0)]) 2 [(0, (.tmp 16)), (1, (.tmp 17))]⟩ [⟨(some 20), none, .load true 2 (.tmp 1)⟩] (
                    .ev ⟨(some 15), none, .bslice 6 (.agg #[(.int .i64 0), (.int .i64 0), (.int .i64 0), (.int .i64 0), (.int .i64 0), (.int .i64 0)]) 4 [(0, (.tmp 5)), (1, (.tmp 8)), (2, (.tmp 11)), (3, (.tmp 14))]⟩ [⟨(some 20), none, .load true 2 (.tmp 1)⟩] (
                     .step ⟨(some 22), none, .build [(.slice none 0 0), (.slice none 0 0), (.slice none 0 0)] [(0, 1, (.tmp 15)), (1, 1, (.tmp 18)), (2, 1, (.tmp 21))]⟩ (
                      .ev ⟨none, none, .store 3 (.tmp 2) (.tmp 22)⟩ [] (
                      .done)
                      (.stop)))
                     (.stop))
                    (.stop)))
                   (.stop))))
                  (.stop))))
                 (.stop)))
                (.stop)))
               (.stop))
              (.stop))
             (.stop))
            (.stop))
           (.stop))
          (.stop))
         (.stop))
        (.stop))
       (.stop))
      (.stop))
     (.stop))
    (.stop))))
 (.ret))
theorem k45 : FnC Try.prog 45 23 [2] [] [.cell 2 true 3] c45 1 := ⟨Try.f45, _, Try.func45, rfl, by decide, rfl, by decide, by kernel_rfl, by kernel_rfl⟩
end Go.Proofs.Yticdacdflemoiaa

/- What the document fixes: the answers at its sample. -/
namespace Go.Proofs.Yticdacdflemoiaa
open Go Go.Ab

/-- The document's towels T, or N. -/
def smp (x y : Int) : Tw := { bs := [⟨0, 0, 2, 2, 1, 2⟩, ⟨0, 1, 2, 3, 1, 1⟩, ⟨1, 0, 1, 1, 0, 1⟩, ⟨1, 1, 3, 3, 0, 3⟩], hs := [(2, 2), (1, 2)], vs := [(1, 1), (x, y)] }

theorem smp_own : specOwn (smp 2 3) 3 = ((0, 3), 0) := by decide +kernel
theorem smp_kept : specKept (smp 2 3) 3 = ((0, 2), 0) := by decide +kernel
theorem smp_who : specWho (smp 2 3) = (2, 15, 0) := by decide +kernel
theorem smp_all : specAll (smp 2 3) = ((3, 4), 0) := by decide +kernel
theorem smp_count : specCount (smp 2 3) = (4, 0) := by decide +kernel
theorem smp_fewest : specFewest (smp 2 3) = (2, 6, 0) := by decide +kernel
theorem smp_search : specSearch (smp 2 3) = (0, 2, 0) := by decide +kernel
theorem smp_clash : specClash (smp 5 5) = (2, 2, 0) := by decide +kernel
end Go.Proofs.Yticdacdflemoiaa

/- The statements' own functions. -/
namespace Go.Proofs.Yticdacdflemoiaa
open Go Go.Ab

theorem span_ok (lo hi : Int) : ACall Try.prog 42 [.t (vi lo), .t (vi hi)] [] (ret (.agg [vi lo, vi hi])) := by
  refine ACall.walk k42 ?_
  unfold c42
  simp only [go_sem, Nat.reduceEqDiff, Nat.reduceAdd, Nat.reduceSub, Nat.reduceMul, Nat.reduceLT, Nat.reduceLeDiff, Nat.reduceMod, Nat.reduceDiv, Int.reduceToNat, Int.reduceLT, Int.reduceLE, Bool.not_true, Bool.not_false, reduceIte]
  exact finL_ret [] ⟨rfl, rfl, rfl, rfl, _, rfl, res_mk rfl⟩

theorem bather_ok (hut half ll lh bl bh : Int) : ACall Try.prog 44 [.t (vi hut), .t (vi half), .t (.agg [vi ll, vi lh]), .t (.agg [vi bl, vi bh])] [] (ret (.agg [vi hut, vi half, vi ll, vi lh, vi bl, vi bh])) := by
  refine ACall.walk k44 ?_
  unfold c44
  simp only [go_sem, Nat.reduceEqDiff, Nat.reduceAdd, Nat.reduceSub, Nat.reduceMul, Nat.reduceLT, Nat.reduceLeDiff, Nat.reduceMod, Nat.reduceDiv, Int.reduceToNat, Int.reduceLT, Int.reduceLE, Bool.not_true, Bool.not_false, reduceIte]
  exact finL_ret [] ⟨rfl, rfl, rfl, rfl, _, rfl, res_mk rfl⟩

def farB (t : Tw) : Bool := decide (max (max (t.bs.length : Int) t.hs.length) t.vs.length > 40)
theorem far_ok (t : Tw) : ACall Try.prog 34 [.t (.agg (tw3 t))] [] (ret (vb (farB t))) := by
  refine ACall.walk k34 ?_
  unfold c34 tw3
  simp only [go_sem, Nat.reduceEqDiff, Nat.reduceAdd, Nat.reduceSub, Nat.reduceMul, Nat.reduceLT, Nat.reduceLeDiff, Nat.reduceMod, Nat.reduceDiv, Int.reduceToNat, Int.reduceLT, Int.reduceLE, Bool.not_true, Bool.not_false, reduceIte, List.length_map]
  exact finL_ret [] ⟨rfl, rfl, rfl, rfl, _, rfl, res_mk rfl⟩

def heavyB (t : Tw) (most : Int) : Bool := farB t || (t.ok && decide ((t.bs.length : Int) > most))
theorem heavy_ok (t : Tw) (most : Int) : ACall Try.prog 13 [.t (.agg (tw3 t)), .t (vi most)] [] (ret (vb (heavyB t most))) := by
  refine ACall.walk k13 ?_
  unfold c13 tw3
  simp only [go_sem, Nat.reduceEqDiff, Nat.reduceAdd, Nat.reduceSub, Nat.reduceMul, Nat.reduceLT, Nat.reduceLeDiff, Nat.reduceMod, Nat.reduceDiv, Int.reduceToNat, Int.reduceLT, Int.reduceLE, Bool.not_true, Bool.not_false, reduceIte]
  refine ACallL.quiet1 (far_ok t) rfl rfl rfl ?_
  cases hF : farB t
  · simp only [go_sem, Nat.reduceEqDiff, Nat.reduceAdd, Nat.reduceSub, Nat.reduceMul, Nat.reduceLT, Nat.reduceLeDiff, Nat.reduceMod, Nat.reduceDiv, Int.reduceToNat, Int.reduceLT, Int.reduceLE, Bool.not_true, Bool.not_false, reduceIte, undef]
    refine ACallL.quiet1 (rtowels_ok t) rfl rfl rfl ?_
    cases hok : t.ok
    · simp only [go_sem, Nat.reduceEqDiff, Nat.reduceAdd, Nat.reduceSub, Nat.reduceMul, Nat.reduceLT, Nat.reduceLeDiff, Nat.reduceMod, Nat.reduceDiv, Int.reduceToNat, Int.reduceLT, Int.reduceLE, Bool.not_true, Bool.not_false, reduceIte, undef]
      exact finL_ret [] ⟨rfl, rfl, rfl, rfl, _, rfl, res_mk (by simp only [heavyB, hF, hok]; rfl)⟩
    · simp only [go_sem, Nat.reduceEqDiff, Nat.reduceAdd, Nat.reduceSub, Nat.reduceMul, Nat.reduceLT, Nat.reduceLeDiff, Nat.reduceMod, Nat.reduceDiv, Int.reduceToNat, Int.reduceLT, Int.reduceLE, Bool.not_true, Bool.not_false, reduceIte, undef, List.length_map]
      exact finL_ret [] ⟨rfl, rfl, rfl, rfl, _, rfl, res_mk (by simp only [heavyB, hF, hok]; rfl)⟩
  · simp only [go_sem, Nat.reduceEqDiff, Nat.reduceAdd, Nat.reduceSub, Nat.reduceMul, Nat.reduceLT, Nat.reduceLeDiff, Nat.reduceMod, Nat.reduceDiv, Int.reduceToNat, Int.reduceLT, Int.reduceLE, Bool.not_true, Bool.not_false, reduceIte, undef]
    exact finL_ret [] ⟨rfl, rfl, rfl, rfl, _, rfl, res_mk (by simp only [heavyB, hF]; rfl)⟩

set_option maxRecDepth 4000 in
set_option maxHeartbeats 4000000 in
theorem sample_ok (x y : Int) : ACall Try.prog 45 [.t (.agg [vi x, vi y])] [] (ret (.agg (tw3 (smp x y)))) := by
  refine ACall.walk k45 ?_
  unfold c45
  simp only [go_sem, Nat.reduceEqDiff, Nat.reduceAdd, Nat.reduceSub, Nat.reduceMul, Nat.reduceLT, Nat.reduceLeDiff, Nat.reduceMod, Nat.reduceDiv, Int.reduceToNat, Int.reduceLT, Int.reduceLE, Bool.not_true, Bool.not_false, reduceIte]
  repeat' (first
    | refine AndL.mk ?_ ?_
    | refine ACallL.quiet1 (span_ok _ _) rfl rfl rfl ?_
    | refine ACallL.quiet1 (bather_ok _ _ _ _ _ _) rfl rfl rfl ?_
    | exact finL_ret [] ⟨rfl, rfl, rfl, rfl, _, rfl, res_mk rfl⟩
    | simp only [go_sem, Nat.reduceEqDiff, Nat.reduceAdd, Nat.reduceSub, Nat.reduceMul, Nat.reduceLT, Nat.reduceLeDiff, Nat.reduceMod, Nat.reduceDiv, Int.reduceToNat, Int.reduceLT, Int.reduceLE, Bool.not_true, Bool.not_false, reduceIte])
end Go.Proofs.Yticdacdflemoiaa

/- The document's examples hold. -/
namespace Go.Proofs.Yticdacdflemoiaa
open Go Go.Ab

theorem toKey2 (a b : Int) : toKey (some [some .i64, some .i64], none) (.t (.agg [vi a, vi b])) = some [a, b] := by
  simp [toKey, cellKeys, cellKey]
theorem kEq2 (a b c d : Int) : kEq [some .i64, some .i64] [a, b] [c, d] = ((a == c) && (b == d)) := by
  simp [kEq, cellEq]

set_option maxRecDepth 8000 in
set_option maxHeartbeats 4000000 in
theorem awake_ok : ACall Try.prog 14 [] [] (ret (vb true)) := by
  have hs1 := sample_ok 2 3
  have hs2 := sample_ok 5 5
  have h15 := Own_ok (smp 2 3) 3 (by decide)
  have h17 := Kept_ok (smp 2 3) 3 (by decide)
  have h19 := Who_ok (smp 2 3)
  have h21 := All_ok (smp 2 3)
  have h23 := Count_ok (smp 2 3)
  have h25 := Fewest_ok (smp 2 3)
  have h27 := Search_ok (smp 2 3)
  have h29 := Clash_ok (smp 5 5)
  rw [smp_own] at h15
  rw [smp_kept] at h17
  rw [smp_who] at h19
  rw [smp_all] at h21
  rw [smp_count] at h23
  rw [smp_fewest] at h25
  rw [smp_search] at h27
  rw [smp_clash] at h29
  simp only [spanE, twoE, oneE, tS] at h15 h17 h19 h21 h23 h25 h27 h29
  generalize smp 2 3 = t at *
  generalize smp 5 5 = u at *
  refine ACall.walk k14 ?_
  unfold c14
  simp only [go_sem, Nat.reduceEqDiff, Nat.reduceAdd, Nat.reduceSub, Nat.reduceMul, Nat.reduceLT, Nat.reduceLeDiff, Nat.reduceMod, Nat.reduceDiv, Int.reduceToNat, Int.reduceLT, Int.reduceLE, Bool.not_true, Bool.not_false, reduceIte]
  refine ACallL.quiet1 (span_ok 2 3) rfl rfl rfl ?_
  simp only [go_sem, Nat.reduceEqDiff, Nat.reduceAdd, Nat.reduceSub, Nat.reduceMul, Nat.reduceLT, Nat.reduceLeDiff, Nat.reduceMod, Nat.reduceDiv, Int.reduceToNat, Int.reduceLT, Int.reduceLE, Bool.not_true, Bool.not_false, reduceIte]
  refine ACallL.fresh1 hs1 rfl ?_
  simp only [tw3, go_sem, Nat.reduceEqDiff, Nat.reduceAdd, Nat.reduceSub, Nat.reduceMul, Nat.reduceLT, Nat.reduceLeDiff, Nat.reduceMod, Nat.reduceDiv, Int.reduceToNat, Int.reduceLT, Int.reduceLE, Bool.not_true, Bool.not_false, reduceIte]
  refine ACallL.fresh1 h15 rfl ?_
  simp only [go_sem, Nat.reduceEqDiff, Nat.reduceAdd, Nat.reduceSub, Nat.reduceMul, Nat.reduceLT, Nat.reduceLeDiff, Nat.reduceMod, Nat.reduceDiv, Int.reduceToNat, Int.reduceLT, Int.reduceLE, Bool.not_true, Bool.not_false, reduceIte]
  refine ACallL.fresh1 h17 rfl ?_
  simp only [go_sem, Nat.reduceEqDiff, Nat.reduceAdd, Nat.reduceSub, Nat.reduceMul, Nat.reduceLT, Nat.reduceLeDiff, Nat.reduceMod, Nat.reduceDiv, Int.reduceToNat, Int.reduceLT, Int.reduceLE, Bool.not_true, Bool.not_false, reduceIte]
  refine ACallL.fresh1 h19 rfl ?_
  simp only [go_sem, Nat.reduceEqDiff, Nat.reduceAdd, Nat.reduceSub, Nat.reduceMul, Nat.reduceLT, Nat.reduceLeDiff, Nat.reduceMod, Nat.reduceDiv, Int.reduceToNat, Int.reduceLT, Int.reduceLE, Bool.not_true, Bool.not_false, reduceIte]
  refine ACallL.fresh1 h21 rfl ?_
  simp only [go_sem, Nat.reduceEqDiff, Nat.reduceAdd, Nat.reduceSub, Nat.reduceMul, Nat.reduceLT, Nat.reduceLeDiff, Nat.reduceMod, Nat.reduceDiv, Int.reduceToNat, Int.reduceLT, Int.reduceLE, Bool.not_true, Bool.not_false, reduceIte]
  refine ACallL.fresh1 h23 rfl ?_
  simp only [go_sem, Nat.reduceEqDiff, Nat.reduceAdd, Nat.reduceSub, Nat.reduceMul, Nat.reduceLT, Nat.reduceLeDiff, Nat.reduceMod, Nat.reduceDiv, Int.reduceToNat, Int.reduceLT, Int.reduceLE, Bool.not_true, Bool.not_false, reduceIte]
  refine ACallL.fresh1 h25 rfl ?_
  simp only [go_sem, Nat.reduceEqDiff, Nat.reduceAdd, Nat.reduceSub, Nat.reduceMul, Nat.reduceLT, Nat.reduceLeDiff, Nat.reduceMod, Nat.reduceDiv, Int.reduceToNat, Int.reduceLT, Int.reduceLE, Bool.not_true, Bool.not_false, reduceIte]
  refine ACallL.fresh1 h27 rfl ?_
  simp only [go_sem, Nat.reduceEqDiff, Nat.reduceAdd, Nat.reduceSub, Nat.reduceMul, Nat.reduceLT, Nat.reduceLeDiff, Nat.reduceMod, Nat.reduceDiv, Int.reduceToNat, Int.reduceLT, Int.reduceLE, Bool.not_true, Bool.not_false, reduceIte]
  refine ACallL.quiet1 (span_ok 5 5) rfl rfl rfl ?_
  simp only [go_sem, Nat.reduceEqDiff, Nat.reduceAdd, Nat.reduceSub, Nat.reduceMul, Nat.reduceLT, Nat.reduceLeDiff, Nat.reduceMod, Nat.reduceDiv, Int.reduceToNat, Int.reduceLT, Int.reduceLE, Bool.not_true, Bool.not_false, reduceIte]
  refine ACallL.fresh1 hs2 rfl ?_
  simp only [tw3, go_sem, Nat.reduceEqDiff, Nat.reduceAdd, Nat.reduceSub, Nat.reduceMul, Nat.reduceLT, Nat.reduceLeDiff, Nat.reduceMod, Nat.reduceDiv, Int.reduceToNat, Int.reduceLT, Int.reduceLE, Bool.not_true, Bool.not_false, reduceIte]
  refine ACallL.fresh1 h29 rfl ?_
  simp only [go_sem, Nat.reduceEqDiff, Nat.reduceAdd, Nat.reduceSub, Nat.reduceMul, Nat.reduceLT, Nat.reduceLeDiff, Nat.reduceMod, Nat.reduceDiv, Int.reduceToNat, Int.reduceLT, Int.reduceLE, Bool.not_true, Bool.not_false, reduceIte]
  refine ACallL.quiet1 (span_ok 0 3) rfl rfl rfl ?_
  simp only [go_sem, Nat.reduceEqDiff, Nat.reduceAdd, Nat.reduceSub, Nat.reduceMul, Nat.reduceLT, Nat.reduceLeDiff, Nat.reduceMod, Nat.reduceDiv, Int.reduceToNat, Int.reduceLT, Int.reduceLE, Bool.not_true, Bool.not_false, reduceIte, undef, toKey2, kEq2, beq_self_eq_true, bne_self_eq_false, Bool.and_true, Bool.not_true, Bool.not_false]
  refine ACallL.quiet1 (span_ok 0 2) rfl rfl rfl ?_
  simp only [go_sem, Nat.reduceEqDiff, Nat.reduceAdd, Nat.reduceSub, Nat.reduceMul, Nat.reduceLT, Nat.reduceLeDiff, Nat.reduceMod, Nat.reduceDiv, Int.reduceToNat, Int.reduceLT, Int.reduceLE, Bool.not_true, Bool.not_false, reduceIte, undef, toKey2, kEq2, beq_self_eq_true, bne_self_eq_false, Bool.and_true, Bool.not_true, Bool.not_false]
  refine ACallL.quiet1 (span_ok 3 4) rfl rfl rfl ?_
  simp only [go_sem, Nat.reduceEqDiff, Nat.reduceAdd, Nat.reduceSub, Nat.reduceMul, Nat.reduceLT, Nat.reduceLeDiff, Nat.reduceMod, Nat.reduceDiv, Int.reduceToNat, Int.reduceLT, Int.reduceLE, Bool.not_true, Bool.not_false, reduceIte, undef, toKey2, kEq2, beq_self_eq_true, bne_self_eq_false, Bool.and_true, Bool.not_true, Bool.not_false]
  exact finL_ret [] ⟨rfl, rfl, rfl, rfl, _, rfl, res_mk rfl⟩
end Go.Proofs.Yticdacdflemoiaa
