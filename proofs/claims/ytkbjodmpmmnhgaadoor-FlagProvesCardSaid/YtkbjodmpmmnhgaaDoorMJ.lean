/- Proved here: laws that the statements need (FlC3r, FlU1). No conditions but those that each law states. -/
import Derived.Test.YtkbjodmpmmnhgaaDoorFL
import Derived.Test.YtkbjodmpmmnhgaaDoorProg
import Derived.Test.YtkbjodmpmmnhgaaDoorMI

set_option linter.unusedSimpArgs false
set_option linter.unusedVariables false

/- Compiled code of functions, printed by program; each is checked to be the program's. No conditions. -/
namespace Go.Proofs.YtkbjodmpmmnhgaaDoor
open Go Go.Ab
/-- dipworks/dipworkslaw10.FlagReads -/
def c3 : AC :=
 .seq (.reg [⟨(some 2), none, .box (.tmp 0)⟩,
    ⟨(some 4), none, .mov (.lit (.bool false))⟩])
 (.seq (.seq (.reg [⟨(some 23), none, .load true 5 (.tmp 2)⟩,
     ⟨(some 24), none, .call (.fn 13) [(.tmp 23), (.lit (.int .i64 6)), (.lit (.int .i64 8))]⟩])
  (.cond (.tmp 24) (.seq (.reg [⟨(some 25), none, .call (.fn 14) []⟩,
      ⟨(some 4), none, .mov (.tmp 25)⟩])
   (.ret))
    (.skip)))
 (.seq (.reg [⟨(some 27), none, .load true 5 (.tmp 2)⟩,
    ⟨(some 28), none, .mov (.tmp 1)⟩,
    ⟨(some 29), none, .call (.fn 15) [(.tmp 27), (.tmp 28)]⟩,
    ⟨(some 26), none, .mov (.tmp 29)⟩,
    ⟨(some 30), none, .ext (.tmp 26) 0⟩,
    ⟨(some 31), none, .ext (.tmp 26) 1⟩,
    ⟨(some 5), none, .mov (.tmp 30)⟩,
    ⟨(some 6), none, .mov (.tmp 31)⟩])
 (.seq (.reg [⟨(some 33), none, .load true 5 (.tmp 2)⟩,
    ⟨(some 34), none, .mov (.tmp 1)⟩,
    ⟨(some 35), none, .call (.fn 16) [(.tmp 33), (.tmp 34)]⟩,
    ⟨(some 32), none, .mov (.tmp 35)⟩,
    ⟨(some 36), none, .ext (.tmp 32) 0⟩,
    ⟨(some 37), none, .ext (.tmp 32) 1⟩,
    ⟨(some 7), none, .mov (.tmp 36)⟩,
    ⟨(some 8), none, .mov (.tmp 37)⟩])
 (.seq (.reg [⟨(some 39), none, .load true 5 (.tmp 2)⟩,
    ⟨(some 40), none, .call (.fn 17) [(.tmp 39)]⟩,
    ⟨(some 38), none, .mov (.tmp 40)⟩,
    ⟨(some 41), none, .ext (.tmp 38) 0⟩,
    ⟨(some 42), none, .ext (.tmp 38) 1⟩,
    ⟨(some 43), none, .ext (.tmp 38) 2⟩,
    ⟨(some 9), none, .mov (.tmp 41)⟩,
    ⟨(some 10), none, .mov (.tmp 42)⟩,
    ⟨(some 11), none, .mov (.tmp 43)⟩])
 (.seq (.reg [⟨(some 45), none, .load true 5 (.tmp 2)⟩,
    ⟨(some 46), none, .call (.fn 18) [(.tmp 45)]⟩,
    ⟨(some 44), none, .mov (.tmp 46)⟩,
    ⟨(some 47), none, .ext (.tmp 44) 0⟩,
    ⟨(some 48), none, .ext (.tmp 44) 1⟩,
    ⟨(some 49), none, .ext (.tmp 44) 2⟩,
    ⟨(some 12), none, .mov (.tmp 47)⟩,
    ⟨(some 13), none, .mov (.tmp 48)⟩,
    ⟨(some 14), none, .mov (.tmp 49)⟩])
 (.seq (.reg [⟨(some 51), none, .load true 5 (.tmp 2)⟩,
    ⟨(some 52), none, .call (.fn 19) [(.tmp 51)]⟩,
    ⟨(some 50), none, .mov (.tmp 52)⟩,
    ⟨(some 53), none, .ext (.tmp 50) 0⟩,
    ⟨(some 54), none, .ext (.tmp 50) 1⟩,
    ⟨(some 15), none, .mov (.tmp 53)⟩,
    ⟨(some 16), none, .mov (.tmp 54)⟩])
 (.seq (.reg [⟨(some 56), none, .load true 5 (.tmp 2)⟩,
    ⟨(some 57), none, .call (.fn 20) [(.tmp 56)]⟩,
    ⟨(some 55), none, .mov (.tmp 57)⟩,
    ⟨(some 58), none, .ext (.tmp 55) 0⟩,
    ⟨(some 59), none, .ext (.tmp 55) 1⟩,
    ⟨(some 17), none, .mov (.tmp 58)⟩,
    ⟨(some 18), none, .mov (.tmp 59)⟩])
 (.seq (.reg [⟨(some 61), none, .load true 5 (.tmp 2)⟩,
    ⟨(some 62), none, .call (.fn 21) [(.tmp 61)]⟩,
    ⟨(some 60), none, .mov (.tmp 62)⟩,
    ⟨(some 63), none, .ext (.tmp 60) 0⟩,
    ⟨(some 64), none, .ext (.tmp 60) 1⟩,
    ⟨(some 19), none, .alloc [(.int .i64 0), (.int .i64 0)]⟩,
    ⟨none, none, .store 2 (.tmp 19) (.tmp 63)⟩,
    ⟨(some 20), none, .mov (.tmp 64)⟩])
 (.seq (.reg [⟨(some 66), none, .load true 5 (.tmp 2)⟩,
    ⟨(some 67), none, .call (.fn 22) [(.tmp 66)]⟩,
    ⟨(some 65), none, .mov (.tmp 67)⟩,
    ⟨(some 68), none, .ext (.tmp 65) 0⟩,
    ⟨(some 69), none, .ext (.tmp 65) 1⟩,
    ⟨(some 21), none, .alloc [(.int .i64 0), (.int .i64 0)]⟩,
    ⟨none, none, .store 2 (.tmp 21) (.tmp 68)⟩,
    ⟨(some 22), none, .mov (.tmp 69)⟩])
 (.seq (.reg [⟨(some 70), none, .mov (.tmp 5)⟩,
    ⟨(some 71), none, .mov (.tmp 7)⟩,
    ⟨(some 72), none, .bin .eql (.tmp 70) (.tmp 71)⟩,
    ⟨(some 73), none, .mov (.tmp 72)⟩,
    ⟨(some 74), (some (73, true)), .mov (.tmp 6)⟩,
    ⟨(some 75), (some (73, true)), .mov (.tmp 8)⟩,
    ⟨(some 76), (some (73, true)), .bin .eql (.tmp 74) (.tmp 75)⟩,
    ⟨(some 77), none, .pick (.tmp 73) (.tmp 76) (.lit (.bool false))⟩,
    ⟨(some 78), none, .mov (.tmp 77)⟩,
    ⟨(some 79), (some (78, true)), .mov (.tmp 9)⟩,
    ⟨(some 80), (some (78, true)), .mov (.tmp 12)⟩,
    ⟨(some 81), (some (78, true)), .bin .eql (.tmp 79) (.tmp 80)⟩,
    ⟨(some 82), none, .pick (.tmp 78) (.tmp 81) (.lit (.bool false))⟩,
    ⟨(some 83), none, .mov (.tmp 82)⟩,
    ⟨(some 84), (some (83, true)), .mov (.tmp 10)⟩,
    ⟨(some 85), (some (83, true)), .mov (.tmp 13)⟩,
    ⟨(some 86), (some (83, true)), .bin .eql (.tmp 84) (.tmp 85)⟩,
    ⟨(some 87), none, .pick (.tmp 83) (.tmp 86) (.lit (.bool false))⟩,
    ⟨(some 88), none, .mov (.tmp 87)⟩,
    ⟨(some 89), (some (88, true)), .mov (.tmp 11)⟩,
    ⟨(some 90), (some (88, true)), .mov (.tmp 14)⟩,
    ⟨(some 91), (some (88, true)), .bin .eql (.tmp 89) (.tmp 90)⟩,
    ⟨(some 92), none, .pick (.tmp 88) (.tmp 91) (.lit (.bool false))⟩,
    ⟨(some 93), none, .mov (.tmp 92)⟩,
    ⟨(some 94), (some (93, true)), .mov (.tmp 15)⟩,
    ⟨(some 95), (some (93, true)), .mov (.tmp 17)⟩,
    ⟨(some 96), (some (93, true)), .bin .eql (.tmp 94) (.tmp 95)⟩,
    ⟨(some 97), none, .pick (.tmp 93) (.tmp 96) (.lit (.bool false))⟩,
    ⟨(some 98), none, .mov (.tmp 97)⟩,
    ⟨(some 99), (some (98, true)), .mov (.tmp 16)⟩,
    ⟨(some 100), (some (98, true)), .mov (.tmp 18)⟩,
    ⟨(some 101), (some (98, true)), .bin .eql (.tmp 99) (.tmp 100)⟩,
    ⟨(some 102), none, .pick (.tmp 98) (.tmp 101) (.lit (.bool false))⟩,
    ⟨(some 103), none, .mov (.tmp 102)⟩,
    ⟨(some 104), (some (103, true)), .load true 2 (.tmp 19)⟩,
    ⟨(some 105), (some (103, true)), .load true 2 (.tmp 21)⟩,
    ⟨(some 106), (some (103, true)), .eqs false [(some .i64), (some .i64)] (.tmp 104) (.tmp 105)⟩,
    ⟨(some 107), none, .pick (.tmp 103) (.tmp 106) (.lit (.bool false))⟩,
    ⟨(some 108), none, .mov (.tmp 107)⟩,
    ⟨(some 109), (some (108, true)), .mov (.tmp 20)⟩,
    ⟨(some 110), (some (108, true)), .mov (.tmp 22)⟩,
    ⟨(some 111), (some (108, true)), .bin .eql (.tmp 109) (.tmp 110)⟩,
    ⟨(some 112), none, .pick (.tmp 108) (.tmp 111) (.lit (.bool false))⟩,
    ⟨(some 113), none, .mov (.tmp 112)⟩,
    ⟨(some 114), (some (113, true)), .call (.fn 14) []⟩,
    ⟨(some 115), none, .pick (.tmp 113) (.tmp 114) (.lit (.bool false))⟩,
    ⟨(some 4), none, .mov (.tmp 115)⟩])
 (.ret)))))))))))
theorem k3 : FnC Tryd.prog 3 116 [] [] [.tmp 4] c3 2 := ⟨Tryd.f3, _, Tryd.func3, rfl, by decide, rfl, by decide, by kernel_rfl, by kernel_rfl⟩
/-- dipworks/dipworkslaw10.FlagLooks -/
def c4 : AC :=
 .seq (.reg [⟨(some 3), none, .box (.tmp 0)⟩,
    ⟨(some 6), none, .mov (.lit (.bool false))⟩])
 (.seq (.seq (.reg [⟨(some 21), none, .load true 5 (.tmp 3)⟩,
     ⟨(some 22), none, .call (.fn 13) [(.tmp 21), (.lit (.int .i64 6)), (.lit (.int .i64 8))]⟩])
  (.cond (.tmp 22) (.seq (.reg [⟨(some 23), none, .call (.fn 14) []⟩,
      ⟨(some 6), none, .mov (.tmp 23)⟩])
   (.ret))
    (.skip)))
 (.seq (.reg [⟨(some 25), none, .load true 5 (.tmp 3)⟩,
    ⟨(some 26), none, .mov (.tmp 1)⟩,
    ⟨(some 27), none, .mov (.tmp 2)⟩,
    ⟨(some 28), none, .call (.fn 23) [(.tmp 25), (.tmp 26), (.tmp 27)]⟩,
    ⟨(some 24), none, .mov (.tmp 28)⟩,
    ⟨(some 29), none, .ext (.tmp 24) 0⟩,
    ⟨(some 30), none, .ext (.tmp 24) 1⟩,
    ⟨(some 7), none, .mov (.tmp 29)⟩,
    ⟨(some 8), none, .mov (.tmp 30)⟩])
 (.seq (.reg [⟨(some 32), none, .load true 5 (.tmp 3)⟩,
    ⟨(some 33), none, .mov (.tmp 1)⟩,
    ⟨(some 34), none, .mov (.tmp 2)⟩,
    ⟨(some 35), none, .call (.fn 24) [(.tmp 32), (.tmp 33), (.tmp 34)]⟩,
    ⟨(some 31), none, .mov (.tmp 35)⟩,
    ⟨(some 36), none, .ext (.tmp 31) 0⟩,
    ⟨(some 37), none, .ext (.tmp 31) 1⟩,
    ⟨(some 9), none, .mov (.tmp 36)⟩,
    ⟨(some 10), none, .mov (.tmp 37)⟩])
 (.seq (.reg [⟨(some 39), none, .load true 5 (.tmp 3)⟩,
    ⟨(some 40), none, .mov (.tmp 1)⟩,
    ⟨(some 41), none, .call (.fn 25) [(.tmp 39), (.tmp 40)]⟩,
    ⟨(some 38), none, .mov (.tmp 41)⟩,
    ⟨(some 42), none, .ext (.tmp 38) 0⟩,
    ⟨(some 43), none, .ext (.tmp 38) 1⟩,
    ⟨(some 11), none, .mov (.tmp 42)⟩,
    ⟨(some 12), none, .mov (.tmp 43)⟩])
 (.seq (.reg [⟨(some 45), none, .load true 5 (.tmp 3)⟩,
    ⟨(some 46), none, .mov (.tmp 1)⟩,
    ⟨(some 47), none, .call (.fn 26) [(.tmp 45), (.tmp 46)]⟩,
    ⟨(some 44), none, .mov (.tmp 47)⟩,
    ⟨(some 48), none, .ext (.tmp 44) 0⟩,
    ⟨(some 49), none, .ext (.tmp 44) 1⟩,
    ⟨(some 13), none, .mov (.tmp 48)⟩,
    ⟨(some 14), none, .mov (.tmp 49)⟩])
 (.seq (.reg [⟨(some 51), none, .load true 5 (.tmp 3)⟩,
    ⟨(some 52), none, .call (.fn 27) [(.tmp 51)]⟩,
    ⟨(some 50), none, .mov (.tmp 52)⟩,
    ⟨(some 53), none, .ext (.tmp 50) 0⟩,
    ⟨(some 54), none, .ext (.tmp 50) 1⟩,
    ⟨(some 55), none, .ext (.tmp 50) 2⟩,
    ⟨(some 15), none, .mov (.tmp 53)⟩,
    ⟨(some 16), none, .mov (.tmp 54)⟩,
    ⟨(some 17), none, .mov (.tmp 55)⟩])
 (.seq (.reg [⟨(some 57), none, .load true 5 (.tmp 3)⟩,
    ⟨(some 58), none, .call (.fn 28) [(.tmp 57)]⟩,
    ⟨(some 56), none, .mov (.tmp 58)⟩,
    ⟨(some 59), none, .ext (.tmp 56) 0⟩,
    ⟨(some 60), none, .ext (.tmp 56) 1⟩,
    ⟨(some 61), none, .ext (.tmp 56) 2⟩,
    ⟨(some 18), none, .mov (.tmp 59)⟩,
    ⟨(some 19), none, .mov (.tmp 60)⟩,
    ⟨(some 20), none, .mov (.tmp 61)⟩])
 (.seq (.reg [⟨(some 62), none, .mov (.tmp 7)⟩,
    ⟨(some 63), none, .mov (.tmp 9)⟩,
    ⟨(some 64), none, .bin .eql (.tmp 62) (.tmp 63)⟩,
    ⟨(some 65), none, .mov (.tmp 64)⟩,
    ⟨(some 66), (some (65, true)), .mov (.tmp 8)⟩,
    ⟨(some 67), (some (65, true)), .mov (.tmp 10)⟩,
    ⟨(some 68), (some (65, true)), .bin .eql (.tmp 66) (.tmp 67)⟩,
    ⟨(some 69), none, .pick (.tmp 65) (.tmp 68) (.lit (.bool false))⟩,
    ⟨(some 70), none, .mov (.tmp 69)⟩,
    ⟨(some 71), (some (70, true)), .mov (.tmp 11)⟩,
    ⟨(some 72), (some (70, true)), .mov (.tmp 13)⟩,
    ⟨(some 73), (some (70, true)), .bin .eql (.tmp 71) (.tmp 72)⟩,
    ⟨(some 74), none, .pick (.tmp 70) (.tmp 73) (.lit (.bool false))⟩,
    ⟨(some 75), none, .mov (.tmp 74)⟩,
    ⟨(some 76), (some (75, true)), .mov (.tmp 12)⟩,
    ⟨(some 77), (some (75, true)), .mov (.tmp 14)⟩,
    ⟨(some 78), (some (75, true)), .bin .eql (.tmp 76) (.tmp 77)⟩,
    ⟨(some 79), none, .pick (.tmp 75) (.tmp 78) (.lit (.bool false))⟩,
    ⟨(some 80), none, .mov (.tmp 79)⟩,
    ⟨(some 81), (some (80, true)), .mov (.tmp 15)⟩,
    ⟨(some 82), (some (80, true)), .mov (.tmp 18)⟩,
    ⟨(some 83), (some (80, true)), .bin .eql (.tmp 81) (.tmp 82)⟩,
    ⟨(some 84), none, .pick (.tmp 80) (.tmp 83) (.lit (.bool false))⟩,
    ⟨(some 85), none, .mov (.tmp 84)⟩,
    ⟨(some 86), (some (85, true)), .mov (.tmp 16)⟩,
    ⟨(some 87), (some (85, true)), .mov (.tmp 19)⟩,
    ⟨(some 88), (some (85, true)), .bin .eql (.tmp 86) (.tmp 87)⟩,
    ⟨(some 89), none, .pick (.tmp 85) (.tmp 88) (.lit (.bool false))⟩,
    ⟨(some 90), none, .mov (.tmp 89)⟩,
    ⟨(some 91), (some (90, true)), .mov (.tmp 17)⟩,
    ⟨(some 92), (some (90, true)), .mov (.tmp 20)⟩,
    ⟨(some 93), (some (90, true)), .bin .eql (.tmp 91) (.tmp 92)⟩,
    ⟨(some 94), none, .pick (.tmp 90) (.tmp 93) (.lit (.bool false))⟩,
    ⟨(some 95), none, .mov (.tmp 94)⟩,
    ⟨(some 96), (some (95, true)), .call (.fn 14) []⟩,
    ⟨(some 97), none, .pick (.tmp 95) (.tmp 96) (.lit (.bool false))⟩,
    ⟨(some 6), none, .mov (.tmp 97)⟩])
 (.ret)))))))))
theorem k4 : FnC Tryd.prog 4 98 [] [] [.tmp 6] c4 3 := ⟨Tryd.f4, _, Tryd.func4, rfl, by decide, rfl, by decide, by kernel_rfl, by kernel_rfl⟩
/-- dipworks/dipworkslaw10.FlagProves -/
def c5 : AC :=
 .seq (.reg [⟨(some 1), none, .box (.tmp 0)⟩,
    ⟨(some 2), none, .mov (.lit (.bool false))⟩])
 (.seq (.seq (.reg [⟨(some 7), none, .load true 5 (.tmp 1)⟩,
     ⟨(some 8), none, .call (.fn 13) [(.tmp 7), (.lit (.int .i64 5)), (.lit (.int .i64 5))]⟩])
  (.cond (.tmp 8) (.seq (.reg [⟨(some 9), none, .call (.fn 14) []⟩,
      ⟨(some 2), none, .mov (.tmp 9)⟩])
   (.ret))
    (.skip)))
 (.seq (.reg [⟨(some 11), none, .load true 5 (.tmp 1)⟩,
    ⟨(some 12), none, .call (.fn 29) [(.tmp 11)]⟩,
    ⟨(some 10), none, .mov (.tmp 12)⟩,
    ⟨(some 13), none, .ext (.tmp 10) 0⟩,
    ⟨(some 14), none, .ext (.tmp 10) 1⟩,
    ⟨(some 3), none, .mov (.tmp 13)⟩,
    ⟨(some 4), none, .mov (.tmp 14)⟩])
 (.seq (.reg [⟨(some 16), none, .load true 5 (.tmp 1)⟩,
    ⟨(some 17), none, .call (.fn 30) [(.tmp 16)]⟩,
    ⟨(some 15), none, .mov (.tmp 17)⟩,
    ⟨(some 18), none, .ext (.tmp 15) 0⟩,
    ⟨(some 19), none, .ext (.tmp 15) 1⟩,
    ⟨(some 5), none, .mov (.tmp 18)⟩,
    ⟨(some 6), none, .mov (.tmp 19)⟩])
 (.seq (.reg [⟨(some 20), none, .mov (.tmp 3)⟩,
    ⟨(some 21), none, .mov (.tmp 5)⟩,
    ⟨(some 22), none, .bin .eql (.tmp 20) (.tmp 21)⟩,
    ⟨(some 23), none, .mov (.tmp 22)⟩,
    ⟨(some 24), (some (23, true)), .mov (.tmp 4)⟩,
    ⟨(some 25), (some (23, true)), .mov (.tmp 6)⟩,
    ⟨(some 26), (some (23, true)), .bin .eql (.tmp 24) (.tmp 25)⟩,
    ⟨(some 27), none, .pick (.tmp 23) (.tmp 26) (.lit (.bool false))⟩,
    ⟨(some 28), none, .mov (.tmp 27)⟩,
    ⟨(some 29), (some (28, true)), .call (.fn 14) []⟩,
    ⟨(some 30), none, .pick (.tmp 28) (.tmp 29) (.lit (.bool false))⟩,
    ⟨(some 2), none, .mov (.tmp 30)⟩])
 (.ret)))))
theorem k5 : FnC Tryd.prog 5 31 [] [] [.tmp 2] c5 1 := ⟨Tryd.f5, _, Tryd.func5, rfl, by decide, rfl, by decide, by kernel_rfl, by kernel_rfl⟩
end Go.Proofs.YtkbjodmpmmnhgaaDoor

/- FlagReads, FlagLooks, FlagProves. -/
namespace Go.Proofs.YtkbjodmpmmnhgaaDoor
open Go Go.Ab

set_option maxRecDepth 8000 in
set_option maxHeartbeats 4000000 in
theorem FlagReads_ok (f : Fl) (hL : Lens f) (i : Int) : ACall Tryd.prog 3 [.t (.agg (fl5 f)), .t (vi i)] [] (res (.ret (.t (vb true)))) := by
  have h13 := heavy_ok f hL 6 8
  have h15 := Kinds_ok f i hL
  have h16 := rKinds_ok f i hL
  have h17 := Up_ok f hL
  have h18 := rUp_ok f hL
  have h19 := Count_ok f hL
  have h20 := rCount_ok f hL
  have h21 := Long_ok f hL
  have h22 := rLong_ok f hL
  obtain ⟨a, b, h0⟩ : ∃ a b, specKinds f i = (a, b) := ⟨_, _, rfl⟩
  obtain ⟨c, d, e, h1⟩ : ∃ a b c, specUp f = (a, b, c) := ⟨_, _, _, rfl⟩
  obtain ⟨g, h, h2⟩ : ∃ a b, specCount f = (a, b) := ⟨_, _, rfl⟩
  obtain ⟨l, m, n, h3⟩ : ∃ a b c, specLong f = ((a, b), c) := ⟨_, _, _, rfl⟩
  rw [h0] at h15 h16
  rw [h1] at h17 h18
  rw [h2] at h19 h20
  rw [h3] at h21 h22
  clear h0 h1 h2 h3
  simp only [spanE, twoE, oneE, fl5] at h13 h15 h16 h17 h18 h19 h20 h21 h22
  refine ACall.walk k3 ?_
  unfold c3 fl5
  simp only [go_sem, Nat.reduceEqDiff, Nat.reduceAdd, Nat.reduceSub, Nat.reduceMul, Nat.reduceLT, Nat.reduceLeDiff, Nat.reduceMod, Nat.reduceDiv, Int.reduceToNat, Int.reduceLT, Int.reduceLE, Bool.not_true, Bool.not_false, reduceIte, Int.reduceEq, Int.reduceBEq, Int.reduceBNe, Int.reduceGT, Int.reduceGE, Int.reduceNeg, Int.reduceAdd, Int.reduceSub, Nat.reduceBEq, decide_true, decide_false, undef, beq_self_eq_true, bne_self_eq_false, Bool.and_true, Bool.true_and, Bool.and_false, Bool.false_and, Bool.or_true, Bool.true_or, Bool.or_false, Bool.false_or]
  refine ACallL.quiet1 h13 rfl rfl rfl ?_
  cases heavyB f 6 8
  · simp only [go_sem, Nat.reduceEqDiff, Nat.reduceAdd, Nat.reduceSub, Nat.reduceMul, Nat.reduceLT, Nat.reduceLeDiff, Nat.reduceMod, Nat.reduceDiv, Int.reduceToNat, Int.reduceLT, Int.reduceLE, Bool.not_true, Bool.not_false, reduceIte, Int.reduceEq, Int.reduceBEq, Int.reduceBNe, Int.reduceGT, Int.reduceGE, Int.reduceNeg, Int.reduceAdd, Int.reduceSub, Nat.reduceBEq, decide_true, decide_false, undef, beq_self_eq_true, bne_self_eq_false, Bool.and_true, Bool.true_and, Bool.and_false, Bool.false_and, Bool.or_true, Bool.true_or, Bool.or_false, Bool.false_or, undef]
    refine ACallL.fresh1 h15 rfl ?_
    simp only [go_sem, Nat.reduceEqDiff, Nat.reduceAdd, Nat.reduceSub, Nat.reduceMul, Nat.reduceLT, Nat.reduceLeDiff, Nat.reduceMod, Nat.reduceDiv, Int.reduceToNat, Int.reduceLT, Int.reduceLE, Bool.not_true, Bool.not_false, reduceIte, Int.reduceEq, Int.reduceBEq, Int.reduceBNe, Int.reduceGT, Int.reduceGE, Int.reduceNeg, Int.reduceAdd, Int.reduceSub, Nat.reduceBEq, decide_true, decide_false, undef, beq_self_eq_true, bne_self_eq_false, Bool.and_true, Bool.true_and, Bool.and_false, Bool.false_and, Bool.or_true, Bool.true_or, Bool.or_false, Bool.false_or]
    refine ACallL.fresh1 h16 rfl ?_
    simp only [go_sem, Nat.reduceEqDiff, Nat.reduceAdd, Nat.reduceSub, Nat.reduceMul, Nat.reduceLT, Nat.reduceLeDiff, Nat.reduceMod, Nat.reduceDiv, Int.reduceToNat, Int.reduceLT, Int.reduceLE, Bool.not_true, Bool.not_false, reduceIte, Int.reduceEq, Int.reduceBEq, Int.reduceBNe, Int.reduceGT, Int.reduceGE, Int.reduceNeg, Int.reduceAdd, Int.reduceSub, Nat.reduceBEq, decide_true, decide_false, undef, beq_self_eq_true, bne_self_eq_false, Bool.and_true, Bool.true_and, Bool.and_false, Bool.false_and, Bool.or_true, Bool.true_or, Bool.or_false, Bool.false_or]
    refine ACallL.fresh1 h17 rfl ?_
    simp only [go_sem, Nat.reduceEqDiff, Nat.reduceAdd, Nat.reduceSub, Nat.reduceMul, Nat.reduceLT, Nat.reduceLeDiff, Nat.reduceMod, Nat.reduceDiv, Int.reduceToNat, Int.reduceLT, Int.reduceLE, Bool.not_true, Bool.not_false, reduceIte, Int.reduceEq, Int.reduceBEq, Int.reduceBNe, Int.reduceGT, Int.reduceGE, Int.reduceNeg, Int.reduceAdd, Int.reduceSub, Nat.reduceBEq, decide_true, decide_false, undef, beq_self_eq_true, bne_self_eq_false, Bool.and_true, Bool.true_and, Bool.and_false, Bool.false_and, Bool.or_true, Bool.true_or, Bool.or_false, Bool.false_or]
    refine ACallL.fresh1 h18 rfl ?_
    simp only [go_sem, Nat.reduceEqDiff, Nat.reduceAdd, Nat.reduceSub, Nat.reduceMul, Nat.reduceLT, Nat.reduceLeDiff, Nat.reduceMod, Nat.reduceDiv, Int.reduceToNat, Int.reduceLT, Int.reduceLE, Bool.not_true, Bool.not_false, reduceIte, Int.reduceEq, Int.reduceBEq, Int.reduceBNe, Int.reduceGT, Int.reduceGE, Int.reduceNeg, Int.reduceAdd, Int.reduceSub, Nat.reduceBEq, decide_true, decide_false, undef, beq_self_eq_true, bne_self_eq_false, Bool.and_true, Bool.true_and, Bool.and_false, Bool.false_and, Bool.or_true, Bool.true_or, Bool.or_false, Bool.false_or]
    refine ACallL.fresh1 h19 rfl ?_
    simp only [go_sem, Nat.reduceEqDiff, Nat.reduceAdd, Nat.reduceSub, Nat.reduceMul, Nat.reduceLT, Nat.reduceLeDiff, Nat.reduceMod, Nat.reduceDiv, Int.reduceToNat, Int.reduceLT, Int.reduceLE, Bool.not_true, Bool.not_false, reduceIte, Int.reduceEq, Int.reduceBEq, Int.reduceBNe, Int.reduceGT, Int.reduceGE, Int.reduceNeg, Int.reduceAdd, Int.reduceSub, Nat.reduceBEq, decide_true, decide_false, undef, beq_self_eq_true, bne_self_eq_false, Bool.and_true, Bool.true_and, Bool.and_false, Bool.false_and, Bool.or_true, Bool.true_or, Bool.or_false, Bool.false_or]
    refine ACallL.fresh1 h20 rfl ?_
    simp only [go_sem, Nat.reduceEqDiff, Nat.reduceAdd, Nat.reduceSub, Nat.reduceMul, Nat.reduceLT, Nat.reduceLeDiff, Nat.reduceMod, Nat.reduceDiv, Int.reduceToNat, Int.reduceLT, Int.reduceLE, Bool.not_true, Bool.not_false, reduceIte, Int.reduceEq, Int.reduceBEq, Int.reduceBNe, Int.reduceGT, Int.reduceGE, Int.reduceNeg, Int.reduceAdd, Int.reduceSub, Nat.reduceBEq, decide_true, decide_false, undef, beq_self_eq_true, bne_self_eq_false, Bool.and_true, Bool.true_and, Bool.and_false, Bool.false_and, Bool.or_true, Bool.true_or, Bool.or_false, Bool.false_or]
    refine ACallL.fresh1 h21 rfl ?_
    simp only [go_sem, Nat.reduceEqDiff, Nat.reduceAdd, Nat.reduceSub, Nat.reduceMul, Nat.reduceLT, Nat.reduceLeDiff, Nat.reduceMod, Nat.reduceDiv, Int.reduceToNat, Int.reduceLT, Int.reduceLE, Bool.not_true, Bool.not_false, reduceIte, Int.reduceEq, Int.reduceBEq, Int.reduceBNe, Int.reduceGT, Int.reduceGE, Int.reduceNeg, Int.reduceAdd, Int.reduceSub, Nat.reduceBEq, decide_true, decide_false, undef, beq_self_eq_true, bne_self_eq_false, Bool.and_true, Bool.true_and, Bool.and_false, Bool.false_and, Bool.or_true, Bool.true_or, Bool.or_false, Bool.false_or]
    refine ACallL.fresh1 h22 rfl ?_
    simp only [go_sem, Nat.reduceEqDiff, Nat.reduceAdd, Nat.reduceSub, Nat.reduceMul, Nat.reduceLT, Nat.reduceLeDiff, Nat.reduceMod, Nat.reduceDiv, Int.reduceToNat, Int.reduceLT, Int.reduceLE, Bool.not_true, Bool.not_false, reduceIte, Int.reduceEq, Int.reduceBEq, Int.reduceBNe, Int.reduceGT, Int.reduceGE, Int.reduceNeg, Int.reduceAdd, Int.reduceSub, Nat.reduceBEq, decide_true, decide_false, undef, beq_self_eq_true, bne_self_eq_false, Bool.and_true, Bool.true_and, Bool.and_false, Bool.false_and, Bool.or_true, Bool.true_or, Bool.or_false, Bool.false_or, undef, toKey2, kEq2, beq_self_eq_true, bne_self_eq_false, Bool.and_true, Bool.not_true, Bool.not_false]
    refine ACallL.quiet1 awake_ok rfl rfl rfl ?_
    simp only [go_sem, Nat.reduceEqDiff, Nat.reduceAdd, Nat.reduceSub, Nat.reduceMul, Nat.reduceLT, Nat.reduceLeDiff, Nat.reduceMod, Nat.reduceDiv, Int.reduceToNat, Int.reduceLT, Int.reduceLE, Bool.not_true, Bool.not_false, reduceIte, Int.reduceEq, Int.reduceBEq, Int.reduceBNe, Int.reduceGT, Int.reduceGE, Int.reduceNeg, Int.reduceAdd, Int.reduceSub, Nat.reduceBEq, decide_true, decide_false, undef, beq_self_eq_true, bne_self_eq_false, Bool.and_true, Bool.true_and, Bool.and_false, Bool.false_and, Bool.or_true, Bool.true_or, Bool.or_false, Bool.false_or, undef, toKey2, kEq2, beq_self_eq_true, bne_self_eq_false, Bool.and_true, Bool.not_true, Bool.not_false]
    exact finL_ret [] ⟨rfl, rfl, rfl, rfl, _, rfl, res_mk rfl⟩
  · simp only [go_sem, Nat.reduceEqDiff, Nat.reduceAdd, Nat.reduceSub, Nat.reduceMul, Nat.reduceLT, Nat.reduceLeDiff, Nat.reduceMod, Nat.reduceDiv, Int.reduceToNat, Int.reduceLT, Int.reduceLE, Bool.not_true, Bool.not_false, reduceIte, Int.reduceEq, Int.reduceBEq, Int.reduceBNe, Int.reduceGT, Int.reduceGE, Int.reduceNeg, Int.reduceAdd, Int.reduceSub, Nat.reduceBEq, decide_true, decide_false, undef, beq_self_eq_true, bne_self_eq_false, Bool.and_true, Bool.true_and, Bool.and_false, Bool.false_and, Bool.or_true, Bool.true_or, Bool.or_false, Bool.false_or, undef]
    refine ACallL.quiet1 awake_ok rfl rfl rfl ?_
    simp only [go_sem, Nat.reduceEqDiff, Nat.reduceAdd, Nat.reduceSub, Nat.reduceMul, Nat.reduceLT, Nat.reduceLeDiff, Nat.reduceMod, Nat.reduceDiv, Int.reduceToNat, Int.reduceLT, Int.reduceLE, Bool.not_true, Bool.not_false, reduceIte, Int.reduceEq, Int.reduceBEq, Int.reduceBNe, Int.reduceGT, Int.reduceGE, Int.reduceNeg, Int.reduceAdd, Int.reduceSub, Nat.reduceBEq, decide_true, decide_false, undef, beq_self_eq_true, bne_self_eq_false, Bool.and_true, Bool.true_and, Bool.and_false, Bool.false_and, Bool.or_true, Bool.true_or, Bool.or_false, Bool.false_or, undef]
    exact finL_ret [] ⟨rfl, rfl, rfl, rfl, _, rfl, res_mk rfl⟩

set_option maxRecDepth 8000 in
set_option maxHeartbeats 4000000 in
theorem FlagLooks_ok (f : Fl) (hL : Lens f) (i j : Int) : ACall Tryd.prog 4 [.t (.agg (fl5 f)), .t (vi i), .t (vi j)] [] (res (.ret (.t (vb true)))) := by
  have h13 := heavy_ok f hL 6 8
  have h15 := Under_ok f i j hL
  have h16 := rUnder_ok f i j hL
  have h17 := Down_ok f i hL
  have h18 := rDown_ok f i hL
  have h19 := Ask_ok f hL
  have h20 := rAsk_ok f hL
  obtain ⟨a, b, h0⟩ : ∃ a b, specUnder f i j = (a, b) := ⟨_, _, rfl⟩
  obtain ⟨c, d, h1⟩ : ∃ a b, specDown f i = (a, b) := ⟨_, _, rfl⟩
  obtain ⟨l, m, n, h3⟩ : ∃ a b c, specAsk f = (a, b, c) := ⟨_, _, _, rfl⟩
  rw [h0] at h15 h16
  rw [h1] at h17 h18
  rw [h3] at h19 h20
  clear h0 h1 h3
  simp only [spanE, twoE, oneE, fl5] at h13 h15 h16 h17 h18 h19 h20
  refine ACall.walk k4 ?_
  unfold c4 fl5
  simp only [go_sem, Nat.reduceEqDiff, Nat.reduceAdd, Nat.reduceSub, Nat.reduceMul, Nat.reduceLT, Nat.reduceLeDiff, Nat.reduceMod, Nat.reduceDiv, Int.reduceToNat, Int.reduceLT, Int.reduceLE, Bool.not_true, Bool.not_false, reduceIte, Int.reduceEq, Int.reduceBEq, Int.reduceBNe, Int.reduceGT, Int.reduceGE, Int.reduceNeg, Int.reduceAdd, Int.reduceSub, Nat.reduceBEq, decide_true, decide_false, undef, beq_self_eq_true, bne_self_eq_false, Bool.and_true, Bool.true_and, Bool.and_false, Bool.false_and, Bool.or_true, Bool.true_or, Bool.or_false, Bool.false_or]
  refine ACallL.quiet1 h13 rfl rfl rfl ?_
  cases heavyB f 6 8
  · simp only [go_sem, Nat.reduceEqDiff, Nat.reduceAdd, Nat.reduceSub, Nat.reduceMul, Nat.reduceLT, Nat.reduceLeDiff, Nat.reduceMod, Nat.reduceDiv, Int.reduceToNat, Int.reduceLT, Int.reduceLE, Bool.not_true, Bool.not_false, reduceIte, Int.reduceEq, Int.reduceBEq, Int.reduceBNe, Int.reduceGT, Int.reduceGE, Int.reduceNeg, Int.reduceAdd, Int.reduceSub, Nat.reduceBEq, decide_true, decide_false, undef, beq_self_eq_true, bne_self_eq_false, Bool.and_true, Bool.true_and, Bool.and_false, Bool.false_and, Bool.or_true, Bool.true_or, Bool.or_false, Bool.false_or, undef]
    refine ACallL.fresh1 h15 rfl ?_
    simp only [go_sem, Nat.reduceEqDiff, Nat.reduceAdd, Nat.reduceSub, Nat.reduceMul, Nat.reduceLT, Nat.reduceLeDiff, Nat.reduceMod, Nat.reduceDiv, Int.reduceToNat, Int.reduceLT, Int.reduceLE, Bool.not_true, Bool.not_false, reduceIte, Int.reduceEq, Int.reduceBEq, Int.reduceBNe, Int.reduceGT, Int.reduceGE, Int.reduceNeg, Int.reduceAdd, Int.reduceSub, Nat.reduceBEq, decide_true, decide_false, undef, beq_self_eq_true, bne_self_eq_false, Bool.and_true, Bool.true_and, Bool.and_false, Bool.false_and, Bool.or_true, Bool.true_or, Bool.or_false, Bool.false_or]
    refine ACallL.fresh1 h16 rfl ?_
    simp only [go_sem, Nat.reduceEqDiff, Nat.reduceAdd, Nat.reduceSub, Nat.reduceMul, Nat.reduceLT, Nat.reduceLeDiff, Nat.reduceMod, Nat.reduceDiv, Int.reduceToNat, Int.reduceLT, Int.reduceLE, Bool.not_true, Bool.not_false, reduceIte, Int.reduceEq, Int.reduceBEq, Int.reduceBNe, Int.reduceGT, Int.reduceGE, Int.reduceNeg, Int.reduceAdd, Int.reduceSub, Nat.reduceBEq, decide_true, decide_false, undef, beq_self_eq_true, bne_self_eq_false, Bool.and_true, Bool.true_and, Bool.and_false, Bool.false_and, Bool.or_true, Bool.true_or, Bool.or_false, Bool.false_or]
    refine ACallL.fresh1 h17 rfl ?_
    simp only [go_sem, Nat.reduceEqDiff, Nat.reduceAdd, Nat.reduceSub, Nat.reduceMul, Nat.reduceLT, Nat.reduceLeDiff, Nat.reduceMod, Nat.reduceDiv, Int.reduceToNat, Int.reduceLT, Int.reduceLE, Bool.not_true, Bool.not_false, reduceIte, Int.reduceEq, Int.reduceBEq, Int.reduceBNe, Int.reduceGT, Int.reduceGE, Int.reduceNeg, Int.reduceAdd, Int.reduceSub, Nat.reduceBEq, decide_true, decide_false, undef, beq_self_eq_true, bne_self_eq_false, Bool.and_true, Bool.true_and, Bool.and_false, Bool.false_and, Bool.or_true, Bool.true_or, Bool.or_false, Bool.false_or]
    refine ACallL.fresh1 h18 rfl ?_
    simp only [go_sem, Nat.reduceEqDiff, Nat.reduceAdd, Nat.reduceSub, Nat.reduceMul, Nat.reduceLT, Nat.reduceLeDiff, Nat.reduceMod, Nat.reduceDiv, Int.reduceToNat, Int.reduceLT, Int.reduceLE, Bool.not_true, Bool.not_false, reduceIte, Int.reduceEq, Int.reduceBEq, Int.reduceBNe, Int.reduceGT, Int.reduceGE, Int.reduceNeg, Int.reduceAdd, Int.reduceSub, Nat.reduceBEq, decide_true, decide_false, undef, beq_self_eq_true, bne_self_eq_false, Bool.and_true, Bool.true_and, Bool.and_false, Bool.false_and, Bool.or_true, Bool.true_or, Bool.or_false, Bool.false_or]
    refine ACallL.fresh1 h19 rfl ?_
    simp only [go_sem, Nat.reduceEqDiff, Nat.reduceAdd, Nat.reduceSub, Nat.reduceMul, Nat.reduceLT, Nat.reduceLeDiff, Nat.reduceMod, Nat.reduceDiv, Int.reduceToNat, Int.reduceLT, Int.reduceLE, Bool.not_true, Bool.not_false, reduceIte, Int.reduceEq, Int.reduceBEq, Int.reduceBNe, Int.reduceGT, Int.reduceGE, Int.reduceNeg, Int.reduceAdd, Int.reduceSub, Nat.reduceBEq, decide_true, decide_false, undef, beq_self_eq_true, bne_self_eq_false, Bool.and_true, Bool.true_and, Bool.and_false, Bool.false_and, Bool.or_true, Bool.true_or, Bool.or_false, Bool.false_or]
    refine ACallL.fresh1 h20 rfl ?_
    simp only [go_sem, Nat.reduceEqDiff, Nat.reduceAdd, Nat.reduceSub, Nat.reduceMul, Nat.reduceLT, Nat.reduceLeDiff, Nat.reduceMod, Nat.reduceDiv, Int.reduceToNat, Int.reduceLT, Int.reduceLE, Bool.not_true, Bool.not_false, reduceIte, Int.reduceEq, Int.reduceBEq, Int.reduceBNe, Int.reduceGT, Int.reduceGE, Int.reduceNeg, Int.reduceAdd, Int.reduceSub, Nat.reduceBEq, decide_true, decide_false, undef, beq_self_eq_true, bne_self_eq_false, Bool.and_true, Bool.true_and, Bool.and_false, Bool.false_and, Bool.or_true, Bool.true_or, Bool.or_false, Bool.false_or, undef, toKey2, kEq2, beq_self_eq_true, bne_self_eq_false, Bool.and_true, Bool.not_true, Bool.not_false]
    refine ACallL.quiet1 awake_ok rfl rfl rfl ?_
    simp only [go_sem, Nat.reduceEqDiff, Nat.reduceAdd, Nat.reduceSub, Nat.reduceMul, Nat.reduceLT, Nat.reduceLeDiff, Nat.reduceMod, Nat.reduceDiv, Int.reduceToNat, Int.reduceLT, Int.reduceLE, Bool.not_true, Bool.not_false, reduceIte, Int.reduceEq, Int.reduceBEq, Int.reduceBNe, Int.reduceGT, Int.reduceGE, Int.reduceNeg, Int.reduceAdd, Int.reduceSub, Nat.reduceBEq, decide_true, decide_false, undef, beq_self_eq_true, bne_self_eq_false, Bool.and_true, Bool.true_and, Bool.and_false, Bool.false_and, Bool.or_true, Bool.true_or, Bool.or_false, Bool.false_or, undef, toKey2, kEq2, beq_self_eq_true, bne_self_eq_false, Bool.and_true, Bool.not_true, Bool.not_false]
    exact finL_ret [] ⟨rfl, rfl, rfl, rfl, _, rfl, res_mk rfl⟩
  · simp only [go_sem, Nat.reduceEqDiff, Nat.reduceAdd, Nat.reduceSub, Nat.reduceMul, Nat.reduceLT, Nat.reduceLeDiff, Nat.reduceMod, Nat.reduceDiv, Int.reduceToNat, Int.reduceLT, Int.reduceLE, Bool.not_true, Bool.not_false, reduceIte, Int.reduceEq, Int.reduceBEq, Int.reduceBNe, Int.reduceGT, Int.reduceGE, Int.reduceNeg, Int.reduceAdd, Int.reduceSub, Nat.reduceBEq, decide_true, decide_false, undef, beq_self_eq_true, bne_self_eq_false, Bool.and_true, Bool.true_and, Bool.and_false, Bool.false_and, Bool.or_true, Bool.true_or, Bool.or_false, Bool.false_or, undef]
    refine ACallL.quiet1 awake_ok rfl rfl rfl ?_
    simp only [go_sem, Nat.reduceEqDiff, Nat.reduceAdd, Nat.reduceSub, Nat.reduceMul, Nat.reduceLT, Nat.reduceLeDiff, Nat.reduceMod, Nat.reduceDiv, Int.reduceToNat, Int.reduceLT, Int.reduceLE, Bool.not_true, Bool.not_false, reduceIte, Int.reduceEq, Int.reduceBEq, Int.reduceBNe, Int.reduceGT, Int.reduceGE, Int.reduceNeg, Int.reduceAdd, Int.reduceSub, Nat.reduceBEq, decide_true, decide_false, undef, beq_self_eq_true, bne_self_eq_false, Bool.and_true, Bool.true_and, Bool.and_false, Bool.false_and, Bool.or_true, Bool.true_or, Bool.or_false, Bool.false_or, undef]
    exact finL_ret [] ⟨rfl, rfl, rfl, rfl, _, rfl, res_mk rfl⟩

set_option maxRecDepth 8000 in
set_option maxHeartbeats 4000000 in
theorem FlagProves_ok (f : Fl) (hL : Lens f) : ACall Tryd.prog 5 [.t (.agg (fl5 f))] [] (res (.ret (.t (vb true)))) := by
  have h13 := heavy_ok f hL 5 5
  have h19 := Wrong_ok f hL
  have h20 := rWrong_ok f hL
  obtain ⟨a, b, h0⟩ : ∃ a b, specWrong f = (a, b) := ⟨_, _, rfl⟩
  rw [h0] at h19 h20
  clear h0
  simp only [spanE, twoE, oneE, fl5] at h13 h19 h20
  refine ACall.walk k5 ?_
  unfold c5 fl5
  simp only [go_sem, Nat.reduceEqDiff, Nat.reduceAdd, Nat.reduceSub, Nat.reduceMul, Nat.reduceLT, Nat.reduceLeDiff, Nat.reduceMod, Nat.reduceDiv, Int.reduceToNat, Int.reduceLT, Int.reduceLE, Bool.not_true, Bool.not_false, reduceIte, Int.reduceEq, Int.reduceBEq, Int.reduceBNe, Int.reduceGT, Int.reduceGE, Int.reduceNeg, Int.reduceAdd, Int.reduceSub, Nat.reduceBEq, decide_true, decide_false, undef, beq_self_eq_true, bne_self_eq_false, Bool.and_true, Bool.true_and, Bool.and_false, Bool.false_and, Bool.or_true, Bool.true_or, Bool.or_false, Bool.false_or]
  refine ACallL.quiet1 h13 rfl rfl rfl ?_
  cases heavyB f 5 5
  · simp only [go_sem, Nat.reduceEqDiff, Nat.reduceAdd, Nat.reduceSub, Nat.reduceMul, Nat.reduceLT, Nat.reduceLeDiff, Nat.reduceMod, Nat.reduceDiv, Int.reduceToNat, Int.reduceLT, Int.reduceLE, Bool.not_true, Bool.not_false, reduceIte, Int.reduceEq, Int.reduceBEq, Int.reduceBNe, Int.reduceGT, Int.reduceGE, Int.reduceNeg, Int.reduceAdd, Int.reduceSub, Nat.reduceBEq, decide_true, decide_false, undef, beq_self_eq_true, bne_self_eq_false, Bool.and_true, Bool.true_and, Bool.and_false, Bool.false_and, Bool.or_true, Bool.true_or, Bool.or_false, Bool.false_or, undef]
    refine ACallL.fresh1 h19 rfl ?_
    simp only [go_sem, Nat.reduceEqDiff, Nat.reduceAdd, Nat.reduceSub, Nat.reduceMul, Nat.reduceLT, Nat.reduceLeDiff, Nat.reduceMod, Nat.reduceDiv, Int.reduceToNat, Int.reduceLT, Int.reduceLE, Bool.not_true, Bool.not_false, reduceIte, Int.reduceEq, Int.reduceBEq, Int.reduceBNe, Int.reduceGT, Int.reduceGE, Int.reduceNeg, Int.reduceAdd, Int.reduceSub, Nat.reduceBEq, decide_true, decide_false, undef, beq_self_eq_true, bne_self_eq_false, Bool.and_true, Bool.true_and, Bool.and_false, Bool.false_and, Bool.or_true, Bool.true_or, Bool.or_false, Bool.false_or]
    refine ACallL.fresh1 h20 rfl ?_
    simp only [go_sem, Nat.reduceEqDiff, Nat.reduceAdd, Nat.reduceSub, Nat.reduceMul, Nat.reduceLT, Nat.reduceLeDiff, Nat.reduceMod, Nat.reduceDiv, Int.reduceToNat, Int.reduceLT, Int.reduceLE, Bool.not_true, Bool.not_false, reduceIte, Int.reduceEq, Int.reduceBEq, Int.reduceBNe, Int.reduceGT, Int.reduceGE, Int.reduceNeg, Int.reduceAdd, Int.reduceSub, Nat.reduceBEq, decide_true, decide_false, undef, beq_self_eq_true, bne_self_eq_false, Bool.and_true, Bool.true_and, Bool.and_false, Bool.false_and, Bool.or_true, Bool.true_or, Bool.or_false, Bool.false_or, undef, toKey2, kEq2, beq_self_eq_true, bne_self_eq_false, Bool.and_true, Bool.not_true, Bool.not_false]
    refine ACallL.quiet1 awake_ok rfl rfl rfl ?_
    simp only [go_sem, Nat.reduceEqDiff, Nat.reduceAdd, Nat.reduceSub, Nat.reduceMul, Nat.reduceLT, Nat.reduceLeDiff, Nat.reduceMod, Nat.reduceDiv, Int.reduceToNat, Int.reduceLT, Int.reduceLE, Bool.not_true, Bool.not_false, reduceIte, Int.reduceEq, Int.reduceBEq, Int.reduceBNe, Int.reduceGT, Int.reduceGE, Int.reduceNeg, Int.reduceAdd, Int.reduceSub, Nat.reduceBEq, decide_true, decide_false, undef, beq_self_eq_true, bne_self_eq_false, Bool.and_true, Bool.true_and, Bool.and_false, Bool.false_and, Bool.or_true, Bool.true_or, Bool.or_false, Bool.false_or, undef, toKey2, kEq2, beq_self_eq_true, bne_self_eq_false, Bool.and_true, Bool.not_true, Bool.not_false]
    exact finL_ret [] ⟨rfl, rfl, rfl, rfl, _, rfl, res_mk rfl⟩
  · simp only [go_sem, Nat.reduceEqDiff, Nat.reduceAdd, Nat.reduceSub, Nat.reduceMul, Nat.reduceLT, Nat.reduceLeDiff, Nat.reduceMod, Nat.reduceDiv, Int.reduceToNat, Int.reduceLT, Int.reduceLE, Bool.not_true, Bool.not_false, reduceIte, Int.reduceEq, Int.reduceBEq, Int.reduceBNe, Int.reduceGT, Int.reduceGE, Int.reduceNeg, Int.reduceAdd, Int.reduceSub, Nat.reduceBEq, decide_true, decide_false, undef, beq_self_eq_true, bne_self_eq_false, Bool.and_true, Bool.true_and, Bool.and_false, Bool.false_and, Bool.or_true, Bool.true_or, Bool.or_false, Bool.false_or, undef]
    refine ACallL.quiet1 awake_ok rfl rfl rfl ?_
    simp only [go_sem, Nat.reduceEqDiff, Nat.reduceAdd, Nat.reduceSub, Nat.reduceMul, Nat.reduceLT, Nat.reduceLeDiff, Nat.reduceMod, Nat.reduceDiv, Int.reduceToNat, Int.reduceLT, Int.reduceLE, Bool.not_true, Bool.not_false, reduceIte, Int.reduceEq, Int.reduceBEq, Int.reduceBNe, Int.reduceGT, Int.reduceGE, Int.reduceNeg, Int.reduceAdd, Int.reduceSub, Nat.reduceBEq, decide_true, decide_false, undef, beq_self_eq_true, bne_self_eq_false, Bool.and_true, Bool.true_and, Bool.and_false, Bool.false_and, Bool.or_true, Bool.true_or, Bool.or_false, Bool.false_or, undef]
    exact finL_ret [] ⟨rfl, rfl, rfl, rfl, _, rfl, res_mk rfl⟩
end Go.Proofs.YtkbjodmpmmnhgaaDoor
