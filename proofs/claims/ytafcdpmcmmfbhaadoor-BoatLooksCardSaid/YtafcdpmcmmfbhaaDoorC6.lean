/- Proved here: laws that the statements need (BoC3r, BoYB). No conditions but those that each law states. -/
import Derived.Test.YtafcdpmcmmfbhaaDoorFL
import Derived.Test.YtafcdpmcmmfbhaaDoorProg
import Derived.Test.YtafcdpmcmmfbhaaDoorC5

set_option linter.unusedSimpArgs false
set_option linter.unusedVariables false

/- Compiled code of functions, printed by program; each is checked to be the program's. No conditions. -/
namespace Go.Proofs.YtafcdpmcmmfbhaaDoor
open Go Go.Ab
/-- dipworks/dipworkslaw12.BoatReads -/
def c3 : AC :=
 .seq (.reg [⟨(some 4), none, .box (.tmp 0)⟩,
 ⟨(some 8), none, .mov (.lit (.bool false))⟩])
 (.seq (.seq (.reg [⟨(some 25), none, .load true 5 (.tmp 4)⟩,
 ⟨(some 26), none, .call (.fn 14) [(.tmp 25)]⟩])
 (.cond (.tmp 26) (.seq (.reg [⟨(some 27), none, .call (.fn 15) []⟩,
 ⟨(some 8), none, .mov (.tmp 27)⟩])
 (.ret))
 (.skip)))
 (.seq (.reg [⟨(some 29), none, .load true 5 (.tmp 4)⟩,
 ⟨(some 30), none, .mov (.tmp 1)⟩,
 ⟨(some 31), none, .mov (.tmp 2)⟩,
 ⟨(some 32), none, .call (.fn 16) [(.tmp 29), (.tmp 30), (.tmp 31)]⟩,
 ⟨(some 28), none, .mov (.tmp 32)⟩,
 ⟨(some 33), none, .ext (.tmp 28) 0⟩,
 ⟨(some 34), none, .ext (.tmp 28) 1⟩,
 ⟨(some 9), none, .mov (.tmp 33)⟩,
 ⟨(some 10), none, .mov (.tmp 34)⟩])
 (.seq (.reg [⟨(some 36), none, .load true 5 (.tmp 4)⟩,
 ⟨(some 37), none, .mov (.tmp 1)⟩,
 ⟨(some 38), none, .mov (.tmp 2)⟩,
 ⟨(some 39), none, .call (.fn 17) [(.tmp 36), (.tmp 37), (.tmp 38)]⟩,
 ⟨(some 35), none, .mov (.tmp 39)⟩,
 ⟨(some 40), none, .ext (.tmp 35) 0⟩,
 ⟨(some 41), none, .ext (.tmp 35) 1⟩,
 ⟨(some 11), none, .mov (.tmp 40)⟩,
 ⟨(some 12), none, .mov (.tmp 41)⟩])
 (.seq (.reg [⟨(some 43), none, .load true 5 (.tmp 4)⟩,
 ⟨(some 44), none, .mov (.tmp 1)⟩,
 ⟨(some 45), none, .mov (.tmp 2)⟩,
 ⟨(some 46), none, .call (.fn 18) [(.tmp 43), (.tmp 44), (.tmp 45)]⟩,
 ⟨(some 42), none, .mov (.tmp 46)⟩,
 ⟨(some 47), none, .ext (.tmp 42) 0⟩,
 ⟨(some 48), none, .ext (.tmp 42) 1⟩,
 ⟨(some 13), none, .alloc [(.int .i64 0), (.int .i64 0)]⟩,
 ⟨none, none, .store 2 (.tmp 13) (.tmp 47)⟩,
 ⟨(some 14), none, .mov (.tmp 48)⟩])
 (.seq (.reg [⟨(some 50), none, .load true 5 (.tmp 4)⟩,
 ⟨(some 51), none, .mov (.tmp 1)⟩,
 ⟨(some 52), none, .mov (.tmp 2)⟩,
 ⟨(some 53), none, .call (.fn 19) [(.tmp 50), (.tmp 51), (.tmp 52)]⟩,
 ⟨(some 49), none, .mov (.tmp 53)⟩,
 ⟨(some 54), none, .ext (.tmp 49) 0⟩,
 ⟨(some 55), none, .ext (.tmp 49) 1⟩,
 ⟨(some 15), none, .alloc [(.int .i64 0), (.int .i64 0)]⟩,
 ⟨none, none, .store 2 (.tmp 15) (.tmp 54)⟩,
 ⟨(some 16), none, .mov (.tmp 55)⟩])
 (.seq (.reg [⟨(some 57), none, .load true 5 (.tmp 4)⟩,
 ⟨(some 58), none, .mov (.tmp 1)⟩,
 ⟨(some 59), none, .call (.fn 20) [(.tmp 57), (.tmp 58)]⟩,
 ⟨(some 56), none, .mov (.tmp 59)⟩,
 ⟨(some 60), none, .ext (.tmp 56) 0⟩,
 ⟨(some 61), none, .ext (.tmp 56) 1⟩,
 ⟨(some 17), none, .alloc [(.int .i64 0), (.int .i64 0)]⟩,
 ⟨none, none, .store 2 (.tmp 17) (.tmp 60)⟩,
 ⟨(some 18), none, .mov (.tmp 61)⟩])
 (.seq (.reg [⟨(some 63), none, .load true 5 (.tmp 4)⟩,
 ⟨(some 64), none, .mov (.tmp 1)⟩,
 ⟨(some 65), none, .call (.fn 21) [(.tmp 63), (.tmp 64)]⟩,
 ⟨(some 62), none, .mov (.tmp 65)⟩,
 ⟨(some 66), none, .ext (.tmp 62) 0⟩,
 ⟨(some 67), none, .ext (.tmp 62) 1⟩,
 ⟨(some 19), none, .alloc [(.int .i64 0), (.int .i64 0)]⟩,
 ⟨none, none, .store 2 (.tmp 19) (.tmp 66)⟩,
 ⟨(some 20), none, .mov (.tmp 67)⟩])
 (.seq (.reg [⟨(some 69), none, .load true 5 (.tmp 4)⟩,
 ⟨(some 70), none, .mov (.tmp 1)⟩,
 ⟨(some 71), none, .mov (.tmp 3)⟩,
 ⟨(some 72), none, .call (.fn 22) [(.tmp 69), (.tmp 70), (.tmp 71)]⟩,
 ⟨(some 68), none, .mov (.tmp 72)⟩,
 ⟨(some 73), none, .ext (.tmp 68) 0⟩,
 ⟨(some 74), none, .ext (.tmp 68) 1⟩,
 ⟨(some 21), none, .mov (.tmp 73)⟩,
 ⟨(some 22), none, .mov (.tmp 74)⟩])
 (.seq (.reg [⟨(some 76), none, .load true 5 (.tmp 4)⟩,
 ⟨(some 77), none, .mov (.tmp 1)⟩,
 ⟨(some 78), none, .mov (.tmp 3)⟩,
 ⟨(some 79), none, .call (.fn 23) [(.tmp 76), (.tmp 77), (.tmp 78)]⟩,
 ⟨(some 75), none, .mov (.tmp 79)⟩,
 ⟨(some 80), none, .ext (.tmp 75) 0⟩,
 ⟨(some 81), none, .ext (.tmp 75) 1⟩,
 ⟨(some 23), none, .mov (.tmp 80)⟩,
 ⟨(some 24), none, .mov (.tmp 81)⟩])
 (.seq (.reg [⟨(some 82), none, .mov (.tmp 9)⟩,
 ⟨(some 83), none, .mov (.tmp 11)⟩,
 ⟨(some 84), none, .bin .eql (.tmp 82) (.tmp 83)⟩,
 ⟨(some 85), none, .mov (.tmp 84)⟩,
 ⟨(some 86), (some (85, true)), .mov (.tmp 10)⟩,
 ⟨(some 87), (some (85, true)), .mov (.tmp 12)⟩,
 ⟨(some 88), (some (85, true)), .bin .eql (.tmp 86) (.tmp 87)⟩,
 ⟨(some 89), none, .pick (.tmp 85) (.tmp 88) (.lit (.bool false))⟩,
 ⟨(some 90), none, .mov (.tmp 89)⟩,
 ⟨(some 91), (some (90, true)), .load true 2 (.tmp 13)⟩,
 ⟨(some 92), (some (90, true)), .load true 2 (.tmp 15)⟩,
 ⟨(some 93), (some (90, true)), .eqs false [(some .i64), (some .i64)] (.tmp 91) (.tmp 92)⟩,
 ⟨(some 94), none, .pick (.tmp 90) (.tmp 93) (.lit (.bool false))⟩,
 ⟨(some 95), none, .mov (.tmp 94)⟩,
 ⟨(some 96), (some (95, true)), .mov (.tmp 14)⟩,
 ⟨(some 97), (some (95, true)), .mov (.tmp 16)⟩,
 ⟨(some 98), (some (95, true)), .bin .eql (.tmp 96) (.tmp 97)⟩,
 ⟨(some 99), none, .pick (.tmp 95) (.tmp 98) (.lit (.bool false))⟩,
 ⟨(some 100), none, .mov (.tmp 99)⟩,
 ⟨(some 101), (some (100, true)), .load true 2 (.tmp 17)⟩,
 ⟨(some 102), (some (100, true)), .load true 2 (.tmp 19)⟩,
 ⟨(some 103), (some (100, true)), .eqs false [(some .i64), (some .i64)] (.tmp 101) (.tmp 102)⟩,
 ⟨(some 104), none, .pick (.tmp 100) (.tmp 103) (.lit (.bool false))⟩,
 ⟨(some 105), none, .mov (.tmp 104)⟩,
 ⟨(some 106), (some (105, true)), .mov (.tmp 18)⟩,
 ⟨(some 107), (some (105, true)), .mov (.tmp 20)⟩,
 ⟨(some 108), (some (105, true)), .bin .eql (.tmp 106) (.tmp 107)⟩,
 ⟨(some 109), none, .pick (.tmp 105) (.tmp 108) (.lit (.bool false))⟩,
 ⟨(some 110), none, .mov (.tmp 109)⟩,
 ⟨(some 111), (some (110, true)), .mov (.tmp 21)⟩,
 ⟨(some 112), (some (110, true)), .mov (.tmp 23)⟩,
 ⟨(some 113), (some (110, true)), .bin .eql (.tmp 111) (.tmp 112)⟩,
 ⟨(some 114), none, .pick (.tmp 110) (.tmp 113) (.lit (.bool false))⟩,
 ⟨(some 115), none, .mov (.tmp 114)⟩,
 ⟨(some 116), (some (115, true)), .mov (.tmp 22)⟩,
 ⟨(some 117), (some (115, true)), .mov (.tmp 24)⟩,
 ⟨(some 118), (some (115, true)), .bin .eql (.tmp 116) (.tmp 117)⟩,
 ⟨(some 119), none, .pick (.tmp 115) (.tmp 118) (.lit (.bool false))⟩,
 ⟨(some 120), none, .mov (.tmp 119)⟩,
 ⟨(some 121), (some (120, true)), .call (.fn 15) []⟩,
 ⟨(some 122), none, .pick (.tmp 120) (.tmp 121) (.lit (.bool false))⟩,
 ⟨(some 8), none, .mov (.tmp 122)⟩])
 (.ret)))))))))))
theorem k3 : FnC Tryd.prog 3 123 [] [] [.tmp 8] c3 4 := ⟨Tryd.f3, _, Tryd.func3, rfl, by decide, rfl, by decide, by kernel_rfl, by kernel_rfl⟩
/-- dipworks/dipworkslaw12.BoatLooks -/
def c4 : AC :=
 .seq (.reg [⟨(some 5), none, .box (.tmp 0)⟩,
 ⟨(some 10), none, .mov (.lit (.bool false))⟩])
 (.seq (.seq (.reg [⟨(some 25), none, .load true 5 (.tmp 5)⟩,
 ⟨(some 26), none, .call (.fn 14) [(.tmp 25)]⟩])
 (.cond (.tmp 26) (.seq (.reg [⟨(some 27), none, .call (.fn 15) []⟩,
 ⟨(some 10), none, .mov (.tmp 27)⟩])
 (.ret))
 (.skip)))
 (.seq (.reg [⟨(some 29), none, .load true 5 (.tmp 5)⟩,
 ⟨(some 30), none, .mov (.tmp 1)⟩,
 ⟨(some 31), none, .mov (.tmp 2)⟩,
 ⟨(some 32), none, .call (.fn 24) [(.tmp 29), (.tmp 30), (.tmp 31)]⟩,
 ⟨(some 28), none, .mov (.tmp 32)⟩,
 ⟨(some 33), none, .ext (.tmp 28) 0⟩,
 ⟨(some 34), none, .ext (.tmp 28) 1⟩,
 ⟨(some 11), none, .mov (.tmp 33)⟩,
 ⟨(some 12), none, .mov (.tmp 34)⟩])
 (.seq (.reg [⟨(some 36), none, .load true 5 (.tmp 5)⟩,
 ⟨(some 37), none, .mov (.tmp 1)⟩,
 ⟨(some 38), none, .mov (.tmp 2)⟩,
 ⟨(some 39), none, .call (.fn 25) [(.tmp 36), (.tmp 37), (.tmp 38)]⟩,
 ⟨(some 35), none, .mov (.tmp 39)⟩,
 ⟨(some 40), none, .ext (.tmp 35) 0⟩,
 ⟨(some 41), none, .ext (.tmp 35) 1⟩,
 ⟨(some 13), none, .mov (.tmp 40)⟩,
 ⟨(some 14), none, .mov (.tmp 41)⟩])
 (.seq (.reg [⟨(some 43), none, .load true 5 (.tmp 5)⟩,
 ⟨(some 44), none, .mov (.tmp 3)⟩,
 ⟨(some 45), none, .mov (.tmp 4)⟩,
 ⟨(some 46), none, .call (.fn 26) [(.tmp 43), (.tmp 44), (.tmp 45)]⟩,
 ⟨(some 42), none, .mov (.tmp 46)⟩,
 ⟨(some 47), none, .ext (.tmp 42) 0⟩,
 ⟨(some 48), none, .ext (.tmp 42) 1⟩,
 ⟨(some 49), none, .ext (.tmp 42) 2⟩,
 ⟨(some 15), none, .mov (.tmp 47)⟩,
 ⟨(some 16), none, .mov (.tmp 48)⟩,
 ⟨(some 17), none, .mov (.tmp 49)⟩])
 (.seq (.reg [⟨(some 51), none, .load true 5 (.tmp 5)⟩,
 ⟨(some 52), none, .mov (.tmp 3)⟩,
 ⟨(some 53), none, .mov (.tmp 4)⟩,
 ⟨(some 54), none, .call (.fn 27) [(.tmp 51), (.tmp 52), (.tmp 53)]⟩,
 ⟨(some 50), none, .mov (.tmp 54)⟩,
 ⟨(some 55), none, .ext (.tmp 50) 0⟩,
 ⟨(some 56), none, .ext (.tmp 50) 1⟩,
 ⟨(some 57), none, .ext (.tmp 50) 2⟩,
 ⟨(some 18), none, .mov (.tmp 55)⟩,
 ⟨(some 19), none, .mov (.tmp 56)⟩,
 ⟨(some 20), none, .mov (.tmp 57)⟩])
 (.seq (.reg [⟨(some 59), none, .load true 5 (.tmp 5)⟩,
 ⟨(some 60), none, .mov (.tmp 1)⟩,
 ⟨(some 61), none, .call (.fn 28) [(.tmp 59), (.tmp 60)]⟩,
 ⟨(some 58), none, .mov (.tmp 61)⟩,
 ⟨(some 62), none, .ext (.tmp 58) 0⟩,
 ⟨(some 63), none, .ext (.tmp 58) 1⟩,
 ⟨(some 21), none, .mov (.tmp 62)⟩,
 ⟨(some 22), none, .mov (.tmp 63)⟩])
 (.seq (.reg [⟨(some 65), none, .load true 5 (.tmp 5)⟩,
 ⟨(some 66), none, .mov (.tmp 1)⟩,
 ⟨(some 67), none, .call (.fn 29) [(.tmp 65), (.tmp 66)]⟩,
 ⟨(some 64), none, .mov (.tmp 67)⟩,
 ⟨(some 68), none, .ext (.tmp 64) 0⟩,
 ⟨(some 69), none, .ext (.tmp 64) 1⟩,
 ⟨(some 23), none, .mov (.tmp 68)⟩,
 ⟨(some 24), none, .mov (.tmp 69)⟩])
 (.seq (.reg [⟨(some 70), none, .mov (.tmp 11)⟩,
 ⟨(some 71), none, .mov (.tmp 13)⟩,
 ⟨(some 72), none, .bin .eql (.tmp 70) (.tmp 71)⟩,
 ⟨(some 73), none, .mov (.tmp 72)⟩,
 ⟨(some 74), (some (73, true)), .mov (.tmp 12)⟩,
 ⟨(some 75), (some (73, true)), .mov (.tmp 14)⟩,
 ⟨(some 76), (some (73, true)), .bin .eql (.tmp 74) (.tmp 75)⟩,
 ⟨(some 77), none, .pick (.tmp 73) (.tmp 76) (.lit (.bool false))⟩,
 ⟨(some 78), none, .mov (.tmp 77)⟩,
 ⟨(some 79), (some (78, true)), .mov (.tmp 15)⟩,
 ⟨(some 80), (some (78, true)), .mov (.tmp 18)⟩,
 ⟨(some 81), (some (78, true)), .bin .eql (.tmp 79) (.tmp 80)⟩,
 ⟨(some 82), none, .pick (.tmp 78) (.tmp 81) (.lit (.bool false))⟩,
 ⟨(some 83), none, .mov (.tmp 82)⟩,
 ⟨(some 84), (some (83, true)), .mov (.tmp 16)⟩,
 ⟨(some 85), (some (83, true)), .mov (.tmp 19)⟩,
 ⟨(some 86), (some (83, true)), .bin .eql (.tmp 84) (.tmp 85)⟩,
 ⟨(some 87), none, .pick (.tmp 83) (.tmp 86) (.lit (.bool false))⟩,
 ⟨(some 88), none, .mov (.tmp 87)⟩,
 ⟨(some 89), (some (88, true)), .mov (.tmp 17)⟩,
 ⟨(some 90), (some (88, true)), .mov (.tmp 20)⟩,
 ⟨(some 91), (some (88, true)), .bin .eql (.tmp 89) (.tmp 90)⟩,
 ⟨(some 92), none, .pick (.tmp 88) (.tmp 91) (.lit (.bool false))⟩,
 ⟨(some 93), none, .mov (.tmp 92)⟩,
 ⟨(some 94), (some (93, true)), .mov (.tmp 21)⟩,
 ⟨(some 95), (some (93, true)), .mov (.tmp 23)⟩,
 ⟨(some 96), (some (93, true)), .bin .eql (.tmp 94) (.tmp 95)⟩,
 ⟨(some 97), none, .pick (.tmp 93) (.tmp 96) (.lit (.bool false))⟩,
 ⟨(some 98), none, .mov (.tmp 97)⟩,
 ⟨(some 99), (some (98, true)), .mov (.tmp 22)⟩,
 ⟨(some 100), (some (98, true)), .mov (.tmp 24)⟩,
 ⟨(some 101), (some (98, true)), .bin .eql (.tmp 99) (.tmp 100)⟩,
 ⟨(some 102), none, .pick (.tmp 98) (.tmp 101) (.lit (.bool false))⟩,
 ⟨(some 103), none, .mov (.tmp 102)⟩,
 ⟨(some 104), (some (103, true)), .call (.fn 15) []⟩,
 ⟨(some 105), none, .pick (.tmp 103) (.tmp 104) (.lit (.bool false))⟩,
 ⟨(some 10), none, .mov (.tmp 105)⟩])
 (.ret)))))))))
theorem k4 : FnC Tryd.prog 4 106 [] [] [.tmp 10] c4 5 := ⟨Tryd.f4, _, Tryd.func4, rfl, by decide, rfl, by decide, by kernel_rfl, by kernel_rfl⟩
/-- dipworks/dipworkslaw12.BoatProves -/
def c5 : AC :=
 .seq (.reg [⟨(some 2), none, .box (.tmp 0)⟩,
 ⟨(some 4), none, .mov (.lit (.bool false))⟩])
 (.seq (.seq (.reg [⟨(some 9), none, .load true 5 (.tmp 2)⟩,
 ⟨(some 10), none, .call (.fn 14) [(.tmp 9)]⟩])
 (.cond (.tmp 10) (.seq (.reg [⟨(some 11), none, .call (.fn 15) []⟩,
 ⟨(some 4), none, .mov (.tmp 11)⟩])
 (.ret))
 (.skip)))
 (.seq (.reg [⟨(some 13), none, .load true 5 (.tmp 2)⟩,
 ⟨(some 14), none, .mov (.tmp 1)⟩,
 ⟨(some 15), none, .call (.fn 30) [(.tmp 13), (.tmp 14)]⟩,
 ⟨(some 12), none, .mov (.tmp 15)⟩,
 ⟨(some 16), none, .ext (.tmp 12) 0⟩,
 ⟨(some 17), none, .ext (.tmp 12) 1⟩,
 ⟨(some 5), none, .mov (.tmp 16)⟩,
 ⟨(some 6), none, .mov (.tmp 17)⟩])
 (.seq (.reg [⟨(some 19), none, .load true 5 (.tmp 2)⟩,
 ⟨(some 20), none, .mov (.tmp 1)⟩,
 ⟨(some 21), none, .call (.fn 31) [(.tmp 19), (.tmp 20)]⟩,
 ⟨(some 18), none, .mov (.tmp 21)⟩,
 ⟨(some 22), none, .ext (.tmp 18) 0⟩,
 ⟨(some 23), none, .ext (.tmp 18) 1⟩,
 ⟨(some 7), none, .mov (.tmp 22)⟩,
 ⟨(some 8), none, .mov (.tmp 23)⟩])
 (.seq (.reg [⟨(some 24), none, .mov (.tmp 5)⟩,
 ⟨(some 25), none, .mov (.tmp 7)⟩,
 ⟨(some 26), none, .bin .eql (.tmp 24) (.tmp 25)⟩,
 ⟨(some 27), none, .mov (.tmp 26)⟩,
 ⟨(some 28), (some (27, true)), .mov (.tmp 6)⟩,
 ⟨(some 29), (some (27, true)), .mov (.tmp 8)⟩,
 ⟨(some 30), (some (27, true)), .bin .eql (.tmp 28) (.tmp 29)⟩,
 ⟨(some 31), none, .pick (.tmp 27) (.tmp 30) (.lit (.bool false))⟩,
 ⟨(some 32), none, .mov (.tmp 31)⟩,
 ⟨(some 33), (some (32, true)), .call (.fn 15) []⟩,
 ⟨(some 34), none, .pick (.tmp 32) (.tmp 33) (.lit (.bool false))⟩,
 ⟨(some 4), none, .mov (.tmp 34)⟩])
 (.ret)))))
theorem k5 : FnC Tryd.prog 5 35 [] [] [.tmp 4] c5 2 := ⟨Tryd.f5, _, Tryd.func5, rfl, by decide, rfl, by decide, by kernel_rfl, by kernel_rfl⟩
end Go.Proofs.YtafcdpmcmmfbhaaDoor

/- BoatReads, BoatLooks, BoatProves. -/
namespace Go.Proofs.YtafcdpmcmmfbhaaDoor
open Go Go.Ab

set_option maxRecDepth 8000 in
set_option maxHeartbeats 8000000 in
theorem BoatReads_ok (b : Bo) (hL : Lens b) (one m row : Int) : ACall Tryd.prog 3 [.t (.agg (bo5 b)), .t (vi one), .t (vi m), .t (vi row)] [] (res (.ret (.t (vb true)))) := by
  refine ACall.walk k3 ?_
  unfold c3
  have h14 := far_ok b hL
  have p0 := Can_ok b hL one m
  have r0 := rCan_ok b hL one m
  have p1 := Rows_ok b hL one m
  have r1 := rRows_ok b hL one m
  have p2 := Nearest_ok b hL one
  have r2 := rNearest_ok b hL one
  have p3 := Broke_ok b hL one row
  have r3 := rBroke_ok b hL one row
  generalize specCan b one m = z0 at *
  obtain ⟨z0a, z0b⟩ := z0
  generalize specRows b one m = z1 at *
  obtain ⟨⟨z1a, z1b⟩, z1c⟩ := z1
  generalize specNearest b one = z2 at *
  obtain ⟨⟨z2a, z2b⟩, z2c⟩ := z2
  generalize specBroke b one row = z3 at *
  obtain ⟨z3a, z3b⟩ := z3
  generalize farB b = fa at *
  simp only [bo5, oneE, spanE, tSp] at h14 p0 r0 p1 r1 p2 r2 p3 r3
  simp only [bo5, go_sem, Nat.reduceEqDiff, Nat.reduceAdd]
  refine ACallL.quiet1 h14 rfl rfl rfl ?_
  cases fa
  rotate_left
  · simp only [go_sem, Nat.reduceEqDiff]
    refine ACallL.quiet1 awake_ok rfl rfl rfl ?_
    simp only [go_sem, Nat.reduceEqDiff]
    exact finL_ret [] ⟨rfl, rfl, rfl, rfl, _, rfl, res_mk rfl⟩
  simp only [go_sem, Nat.reduceEqDiff, Nat.reduceAdd]
  refine ACallL.quiet1 p0 rfl rfl rfl ?_
  simp only [go_sem, Nat.reduceEqDiff, Nat.reduceAdd]
  refine ACallL.quiet1 r0 rfl rfl rfl ?_
  simp only [go_sem, Nat.reduceEqDiff, Nat.reduceAdd]
  refine ACallL.quiet1 p1 rfl rfl rfl ?_
  simp only [go_sem, Nat.reduceEqDiff, Nat.reduceAdd, undef, undef]
  refine ACallL.quiet1 r1 rfl rfl rfl ?_
  simp only [go_sem, Nat.reduceEqDiff, Nat.reduceAdd, undef, undef]
  refine ACallL.quiet1 p2 rfl rfl rfl ?_
  simp only [go_sem, Nat.reduceEqDiff, Nat.reduceAdd, undef, undef]
  refine ACallL.quiet1 r2 rfl rfl rfl ?_
  simp only [go_sem, Nat.reduceEqDiff, Nat.reduceAdd, undef, undef]
  refine ACallL.quiet1 p3 rfl rfl rfl ?_
  simp only [go_sem, Nat.reduceEqDiff, Nat.reduceAdd]
  refine ACallL.quiet1 r3 rfl rfl rfl ?_
  simp only [go_sem, Nat.reduceEqDiff, Nat.reduceAdd, Bool.not_true, beq_self_eq_true, Bool.and_true, toKey2, kEq2]
  refine ACallL.quiet1 awake_ok rfl rfl rfl ?_
  simp only [go_sem, Nat.reduceEqDiff]
  exact finL_ret [] ⟨rfl, rfl, rfl, rfl, _, rfl, res_mk rfl⟩
set_option maxRecDepth 8000 in
set_option maxHeartbeats 8000000 in
theorem BoatLooks_ok (b : Bo) (hL : Lens b) (one two m p : Int) : ACall Tryd.prog 4 [.t (.agg (bo5 b)), .t (vi one), .t (vi two), .t (vi m), .t (vi p)] [] (res (.ret (.t (vb true)))) := by
  refine ACall.walk k4 ?_
  unfold c4
  have h14 := far_ok b hL
  have p0 := Met_ok b hL one two
  have r0 := rMet_ok b hL one two
  have p1 := Who_ok b hL m p
  have r1 := rWho_ok b hL m p
  have p2 := Speed_ok b hL one
  have r2 := rSpeed_ok b hL one
  generalize specMet b one two = z0 at *
  obtain ⟨z0a, z0b⟩ := z0
  generalize specWho b m p = z1 at *
  obtain ⟨z1a, z1b, z1c⟩ := z1
  generalize specSpeed b one = z2 at *
  obtain ⟨z2a, z2b⟩ := z2
  generalize farB b = fa at *
  simp only [bo5, oneE, twoE] at h14 p0 r0 p1 r1 p2 r2
  simp only [bo5, go_sem, Nat.reduceEqDiff, Nat.reduceAdd]
  refine ACallL.quiet1 h14 rfl rfl rfl ?_
  cases fa
  rotate_left
  · simp only [go_sem, Nat.reduceEqDiff]
    refine ACallL.quiet1 awake_ok rfl rfl rfl ?_
    simp only [go_sem, Nat.reduceEqDiff]
    exact finL_ret [] ⟨rfl, rfl, rfl, rfl, _, rfl, res_mk rfl⟩
  simp only [go_sem, Nat.reduceEqDiff, Nat.reduceAdd]
  refine ACallL.quiet1 p0 rfl rfl rfl ?_
  simp only [go_sem, Nat.reduceEqDiff, Nat.reduceAdd]
  refine ACallL.quiet1 r0 rfl rfl rfl ?_
  simp only [go_sem, Nat.reduceEqDiff, Nat.reduceAdd]
  refine ACallL.quiet1 p1 rfl rfl rfl ?_
  simp only [go_sem, Nat.reduceEqDiff, Nat.reduceAdd]
  refine ACallL.quiet1 r1 rfl rfl rfl ?_
  simp only [go_sem, Nat.reduceEqDiff, Nat.reduceAdd]
  refine ACallL.quiet1 p2 rfl rfl rfl ?_
  simp only [go_sem, Nat.reduceEqDiff, Nat.reduceAdd]
  refine ACallL.quiet1 r2 rfl rfl rfl ?_
  simp only [go_sem, Nat.reduceEqDiff, beq_self_eq_true]
  refine ACallL.quiet1 awake_ok rfl rfl rfl ?_
  simp only [go_sem, Nat.reduceEqDiff]
  exact finL_ret [] ⟨rfl, rfl, rfl, rfl, _, rfl, res_mk rfl⟩
set_option maxRecDepth 8000 in
set_option maxHeartbeats 8000000 in
theorem BoatProves_ok (b : Bo) (hL : Lens b) (one : Int) : ACall Tryd.prog 5 [.t (.agg (bo5 b)), .t (vi one)] [] (res (.ret (.t (vb true)))) := by
  refine ACall.walk k5 ?_
  unfold c5
  have h14 := far_ok b hL
  have p0 := Wrong_ok b hL one
  have r0 := rWrong_ok b hL one
  generalize specWrong b one = z0 at *
  obtain ⟨z0a, z0b⟩ := z0
  generalize farB b = fa at *
  simp only [bo5, oneE] at h14 p0 r0
  simp only [bo5, go_sem, Nat.reduceEqDiff, Nat.reduceAdd]
  refine ACallL.quiet1 h14 rfl rfl rfl ?_
  cases fa
  rotate_left
  · simp only [go_sem, Nat.reduceEqDiff]
    refine ACallL.quiet1 awake_ok rfl rfl rfl ?_
    simp only [go_sem, Nat.reduceEqDiff]
    exact finL_ret [] ⟨rfl, rfl, rfl, rfl, _, rfl, res_mk rfl⟩
  simp only [go_sem, Nat.reduceEqDiff, Nat.reduceAdd]
  refine ACallL.quiet1 p0 rfl rfl rfl ?_
  simp only [go_sem, Nat.reduceEqDiff, Nat.reduceAdd]
  refine ACallL.quiet1 r0 rfl rfl rfl ?_
  simp only [go_sem, Nat.reduceEqDiff, beq_self_eq_true]
  refine ACallL.quiet1 awake_ok rfl rfl rfl ?_
  simp only [go_sem, Nat.reduceEqDiff]
  exact finL_ret [] ⟨rfl, rfl, rfl, rfl, _, rfl, res_mk rfl⟩
end Go.Proofs.YtafcdpmcmmfbhaaDoor
