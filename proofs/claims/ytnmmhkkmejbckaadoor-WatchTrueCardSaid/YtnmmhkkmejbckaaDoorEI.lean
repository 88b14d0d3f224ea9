/- Proved here: laws that the statements need (WaC35, WaU3). No conditions but those that each law states. -/
import Derived.Test.YtnmmhkkmejbckaaDoorFL
import Derived.Test.YtnmmhkkmejbckaaDoorFP
import Derived.Test.YtnmmhkkmejbckaaDoorProg
import Derived.Test.YtnmmhkkmejbckaaDoorEH

set_option linter.unusedSimpArgs false
set_option linter.unusedVariables false

/- Compiled code of functions, printed by program; each is checked to be the program's. No conditions. -/
namespace Go.Proofs.YtnmmhkkmejbckaaDoor
open Go Go.Ab
/-- dipworks/dipworkslaw07.WatchShows -/
def c5 : AC :=
 .seq (.reg [⟨(some 3), none, .box (.tmp 0)⟩,
 ⟨(some 6), none, .mov (.lit (.bool false))⟩])
 (.seq (.seq (.reg [⟨(some 28), none, .load true 2 (.tmp 3)⟩,
 ⟨(some 29), none, .call (.fn 26) [(.tmp 28)]⟩,
 ⟨(some 30), none, .mov (.tmp 29)⟩,
 ⟨(some 31), (some (30, false)), .load true 2 (.tmp 3)⟩,
 ⟨(some 32), (some (30, false)), .call (.fn 27) [(.tmp 31)]⟩,
 ⟨(some 33), (some (30, false)), .un .not (.tmp 32)⟩,
 ⟨(some 34), none, .pick (.tmp 30) (.lit (.bool true)) (.tmp 33)⟩,
 ⟨(some 35), none, .mov (.tmp 34)⟩,
 ⟨(some 36), (some (35, false)), .faddr 0 (.tmp 3)⟩,
 ⟨(some 37), (some (35, false)), .load false 1 (.tmp 36)⟩,
 ⟨(some 38), (some (35, false)), .len (.tmp 37)⟩,
 ⟨(some 39), (some (35, false)), .bin .eql (.tmp 38) (.lit (.int .i64 0))⟩,
 ⟨(some 40), none, .pick (.tmp 35) (.lit (.bool true)) (.tmp 39)⟩])
 (.cond (.tmp 40) (.seq (.reg [⟨(some 41), none, .call (.fn 20) []⟩,
 ⟨(some 6), none, .mov (.tmp 41)⟩])
 (.ret))
 (.skip)))
 (.seq (.reg [⟨(some 42), none, .mov (.tmp 1)⟩,
 ⟨(some 43), none, .conv .i64 (.tmp 42)⟩,
 ⟨(some 44), none, .faddr 0 (.tmp 3)⟩,
 ⟨(some 45), none, .load false 1 (.tmp 44)⟩,
 ⟨(some 46), none, .len (.tmp 45)⟩,
 ⟨(some 47), none, .bin .rem (.tmp 43) (.tmp 46)⟩,
 ⟨(some 48), none, .mov (.tmp 2)⟩,
 ⟨(some 49), none, .conv .i64 (.tmp 48)⟩,
 ⟨(some 50), none, .bin .rem (.tmp 49) (.lit (.int .i64 1441))⟩,
 ⟨(some 7), none, .mov (.tmp 47)⟩,
 ⟨(some 8), none, .mov (.tmp 50)⟩])
 (.seq (.reg [⟨(some 51), none, .faddr 0 (.tmp 3)⟩,
 ⟨(some 52), none, .load false 1 (.tmp 51)⟩,
 ⟨(some 53), none, .mov (.tmp 7)⟩,
 ⟨(some 54), none, .iaddr 4 (.tmp 52) (.tmp 53)⟩,
 ⟨(some 55), none, .load true 4 (.tmp 54)⟩,
 ⟨(some 9), none, .alloc [(.int .i64 0), (.int .i64 0), (.int .i64 0), (.int .i64 0)]⟩,
 ⟨none, none, .store 4 (.tmp 9) (.tmp 55)⟩])
 (.seq (.reg [⟨(some 57), none, .load true 2 (.tmp 3)⟩,
 ⟨(some 58), none, .mov (.tmp 7)⟩,
 ⟨(some 59), none, .mov (.tmp 8)⟩,
 ⟨(some 60), none, .call (.fn 12) [(.tmp 57), (.tmp 58), (.tmp 59)]⟩,
 ⟨(some 56), none, .mov (.tmp 60)⟩,
 ⟨(some 61), none, .ext (.tmp 56) 0⟩,
 ⟨(some 62), none, .ext (.tmp 56) 1⟩,
 ⟨(some 10), none, .mov (.tmp 61)⟩,
 ⟨(some 11), none, .mov (.tmp 62)⟩])
 (.seq (.reg [⟨(some 64), none, .load true 2 (.tmp 3)⟩,
 ⟨(some 65), none, .faddr 0 (.tmp 3)⟩,
 ⟨(some 66), none, .load false 1 (.tmp 65)⟩,
 ⟨(some 67), none, .len (.tmp 66)⟩,
 ⟨(some 68), none, .mov (.tmp 8)⟩,
 ⟨(some 69), none, .call (.fn 12) [(.tmp 64), (.tmp 67), (.tmp 68)]⟩,
 ⟨(some 63), none, .mov (.tmp 69)⟩,
 ⟨(some 70), none, .ext (.tmp 63) 0⟩,
 ⟨(some 71), none, .ext (.tmp 63) 1⟩,
 ⟨(some 12), none, .mov (.tmp 70)⟩,
 ⟨(some 13), none, .mov (.tmp 71)⟩])
 (.seq (.reg [⟨(some 73), none, .load true 2 (.tmp 3)⟩,
 ⟨(some 74), none, .mov (.tmp 8)⟩,
 ⟨(some 75), none, .call (.fn 12) [(.tmp 73), (.lit (.int .i64 (-1))), (.tmp 74)]⟩,
 ⟨(some 72), none, .mov (.tmp 75)⟩,
 ⟨(some 76), none, .ext (.tmp 72) 0⟩,
 ⟨(some 77), none, .ext (.tmp 72) 1⟩,
 ⟨(some 14), none, .mov (.tmp 76)⟩,
 ⟨(some 15), none, .mov (.tmp 77)⟩])
 (.seq (.reg [⟨(some 79), none, .load true 2 (.tmp 3)⟩,
 ⟨(some 80), none, .mov (.tmp 7)⟩,
 ⟨(some 81), none, .call (.fn 12) [(.tmp 79), (.tmp 80), (.lit (.int .i64 1441))]⟩,
 ⟨(some 78), none, .mov (.tmp 81)⟩,
 ⟨(some 82), none, .ext (.tmp 78) 0⟩,
 ⟨(some 83), none, .ext (.tmp 78) 1⟩,
 ⟨(some 16), none, .mov (.tmp 82)⟩,
 ⟨(some 17), none, .mov (.tmp 83)⟩])
 (.seq (.reg [⟨(some 85), none, .load true 2 (.tmp 3)⟩,
 ⟨(some 86), none, .mov (.tmp 7)⟩,
 ⟨(some 87), none, .call (.fn 12) [(.tmp 85), (.tmp 86), (.lit (.int .i64 (-1)))]⟩,
 ⟨(some 84), none, .mov (.tmp 87)⟩,
 ⟨(some 88), none, .ext (.tmp 84) 0⟩,
 ⟨(some 89), none, .ext (.tmp 84) 1⟩,
 ⟨(some 18), none, .mov (.tmp 88)⟩,
 ⟨(some 19), none, .mov (.tmp 89)⟩])
 (.seq (.seq (.reg [⟨(some 90), none, .mov (.tmp 13)⟩,
 ⟨(some 91), none, .bin .neq (.tmp 90) (.lit (.int .i64 2))⟩,
 ⟨(some 92), none, .mov (.tmp 91)⟩,
 ⟨(some 93), (some (92, false)), .mov (.tmp 15)⟩,
 ⟨(some 94), (some (92, false)), .mov (.tmp 13)⟩,
 ⟨(some 95), (some (92, false)), .bin .neq (.tmp 93) (.tmp 94)⟩,
 ⟨(some 96), none, .pick (.tmp 92) (.lit (.bool true)) (.tmp 95)⟩,
 ⟨(some 97), none, .mov (.tmp 96)⟩,
 ⟨(some 98), (some (97, false)), .mov (.tmp 17)⟩,
 ⟨(some 99), (some (97, false)), .mov (.tmp 13)⟩,
 ⟨(some 100), (some (97, false)), .bin .neq (.tmp 98) (.tmp 99)⟩,
 ⟨(some 101), none, .pick (.tmp 97) (.lit (.bool true)) (.tmp 100)⟩,
 ⟨(some 102), none, .mov (.tmp 101)⟩,
 ⟨(some 103), (some (102, false)), .mov (.tmp 19)⟩,
 ⟨(some 104), (some (102, false)), .mov (.tmp 13)⟩,
 ⟨(some 105), (some (102, false)), .bin .neq (.tmp 103) (.tmp 104)⟩,
 ⟨(some 106), none, .pick (.tmp 102) (.lit (.bool true)) (.tmp 105)⟩])
 (.cond (.tmp 106) (.seq (.reg [⟨(some 6), none, .mov (.lit (.bool false))⟩])
 (.ret))
 (.skip)))
 (.seq (.seq (.reg [⟨(some 107), none, .mov (.tmp 8)⟩,
 ⟨(some 108), none, .faddr 0 (.tmp 9)⟩,
 ⟨(some 109), none, .load false 1 (.tmp 108)⟩,
 ⟨(some 110), none, .bin .lss (.tmp 107) (.tmp 109)⟩])
 (.cond (.tmp 110) (.seq (.reg [⟨(some 111), none, .mov (.tmp 11)⟩,
 ⟨(some 112), none, .bin .eql (.tmp 111) (.lit (.int .i64 11))⟩,
 ⟨(some 113), none, .mov (.tmp 112)⟩,
 ⟨(some 114), (some (113, true)), .mov (.tmp 10)⟩,
 ⟨(some 115), (some (113, true)), .len (.tmp 114)⟩,
 ⟨(some 116), (some (113, true)), .bin .eql (.tmp 115) (.lit (.int .i64 0))⟩,
 ⟨(some 117), none, .pick (.tmp 113) (.tmp 116) (.lit (.bool false))⟩,
 ⟨(some 118), none, .mov (.tmp 117)⟩,
 ⟨(some 119), (some (118, true)), .call (.fn 20) []⟩,
 ⟨(some 120), none, .pick (.tmp 118) (.tmp 119) (.lit (.bool false))⟩,
 ⟨(some 6), none, .mov (.tmp 120)⟩])
 (.ret))
 (.skip)))
 (.seq (.seq (.reg [⟨(some 121), none, .mov (.tmp 11)⟩,
 ⟨(some 122), none, .bin .neq (.tmp 121) (.lit (.int .i64 0))⟩,
 ⟨(some 123), none, .mov (.tmp 122)⟩,
 ⟨(some 124), (some (123, false)), .mov (.tmp 10)⟩,
 ⟨(some 125), (some (123, false)), .len (.tmp 124)⟩,
 ⟨(some 126), (some (123, false)), .bin .eql (.tmp 125) (.lit (.int .i64 0))⟩,
 ⟨(some 127), none, .pick (.tmp 123) (.lit (.bool true)) (.tmp 126)⟩,
 ⟨(some 128), none, .mov (.tmp 127)⟩,
 ⟨(some 129), (some (128, false)), .mov (.tmp 10)⟩,
 ⟨(some 130), (some (128, false)), .len (.tmp 129)⟩,
 ⟨(some 131), (some (128, false)), .faddr 1 (.tmp 9)⟩,
 ⟨(some 132), (some (128, false)), .faddr 1 (.tmp 131)⟩,
 ⟨(some 133), (some (128, false)), .load false 1 (.tmp 132)⟩,
 ⟨(some 134), (some (128, false)), .faddr 1 (.tmp 9)⟩,
 ⟨(some 135), (some (128, false)), .faddr 0 (.tmp 134)⟩,
 ⟨(some 136), (some (128, false)), .load false 1 (.tmp 135)⟩,
 ⟨(some 137), (some (128, false)), .bin .sub (.tmp 133) (.tmp 136)⟩,
 ⟨(some 138), (some (128, false)), .bin .add (.tmp 137) (.lit (.int .i64 1))⟩,
 ⟨(some 139), (some (128, false)), .bin .gtr (.tmp 130) (.tmp 138)⟩,
 ⟨(some 140), none, .pick (.tmp 128) (.lit (.bool true)) (.tmp 139)⟩])
 (.cond (.tmp 140) (.seq (.reg [⟨(some 6), none, .mov (.lit (.bool false))⟩])
 (.ret))
 (.skip)))
 (.seq (.seq (.reg [⟨(some 141), none, .mov (.tmp 10)⟩,
 ⟨(some 142), none, .len (.tmp 141)⟩,
 ⟨(some 143), none, .mov (.lit (.int .i64 0))⟩])
 (.block 0 (.loop (.seq (.reg [⟨(some 144), none, .bin .lss (.tmp 143) (.tmp 142)⟩])
 (.seq (.cond (.tmp 144) (.skip)
 (.exit 0))
 (.seq (.block 1 (.seq (.reg [⟨(some 145), none, .mov (.tmp 143)⟩,
 ⟨(some 146), none, .iaddr 1 (.tmp 141) (.tmp 143)⟩,
 ⟨(some 147), none, .load false 1 (.tmp 146)⟩,
 ⟨(some 20), none, .mov (.tmp 145)⟩,
 ⟨(some 21), none, .mov (.tmp 147)⟩])
 (.seq (.reg [⟨(some 22), none, .mov (.lit (.bool false))⟩])
 (.seq (.seq (.reg [⟨(some 148), none, .faddr 1 (.tmp 9)⟩,
 ⟨(some 149), none, .faddr 0 (.tmp 148)⟩,
 ⟨(some 150), none, .load false 1 (.tmp 149)⟩,
 ⟨(some 23), none, .mov (.tmp 150)⟩])
 (.block 2 (.loop (.seq (.seq (.reg [⟨(some 151), none, .mov (.tmp 23)⟩,
 ⟨(some 152), none, .faddr 1 (.tmp 9)⟩,
 ⟨(some 153), none, .faddr 1 (.tmp 152)⟩,
 ⟨(some 154), none, .load false 1 (.tmp 153)⟩,
 ⟨(some 155), none, .bin .leq (.tmp 151) (.tmp 154)⟩])
 (.cond (.tmp 155) (.skip)
 (.exit 2)))
 (.seq (.block 3 (.reg [⟨(some 158), none, .mov (.tmp 22)⟩,
 ⟨(some 159), none, .mov (.tmp 158)⟩,
 ⟨(some 160), (some (159, false)), .load true 4 (.tmp 9)⟩,
 ⟨(some 161), (some (159, false)), .mov (.tmp 8)⟩,
 ⟨(some 162), (some (159, false)), .mov (.tmp 23)⟩,
 ⟨(some 163), (some (159, false)), .call (.fn 28) [(.tmp 160), (.tmp 161), (.tmp 162)]⟩,
 ⟨(some 164), (some (159, false)), .mov (.tmp 21)⟩,
 ⟨(some 165), (some (159, false)), .bin .eql (.tmp 163) (.tmp 164)⟩,
 ⟨(some 166), none, .pick (.tmp 159) (.lit (.bool true)) (.tmp 165)⟩,
 ⟨(some 22), none, .mov (.tmp 166)⟩]))
 (.reg [⟨(some 156), none, .mov (.tmp 23)⟩,
 ⟨(some 157), none, .bin .add (.tmp 156) (.lit (.int .i64 1))⟩,
 ⟨(some 23), none, .mov (.tmp 157)⟩]))))))
 (.seq (.reg [⟨(some 167), none, .mov (.tmp 22)⟩,
 ⟨(some 168), none, .un .not (.tmp 167)⟩,
 ⟨(some 169), none, .mov (.tmp 168)⟩,
 ⟨(some 170), (some (169, false)), .mov (.tmp 21)⟩,
 ⟨(some 171), (some (169, false)), .bin .lss (.tmp 170) (.lit (.int .i64 0))⟩,
 ⟨(some 172), none, .pick (.tmp 169) (.lit (.bool true)) (.tmp 171)⟩,
 ⟨(some 173), none, .mov (.tmp 172)⟩,
 ⟨(some 174), (some (173, false)), .mov (.tmp 21)⟩,
 ⟨(some 175), (some (173, false)), .bin .geq (.tmp 174) (.lit (.int .i64 720))⟩,
 ⟨(some 176), none, .pick (.tmp 173) (.lit (.bool true)) (.tmp 175)⟩,
 ⟨(some 177), none, .mov (.tmp 176)⟩,
 ⟨(some 178), (some (177, false)), .mov (.tmp 20)⟩,
 ⟨(some 179), (some (177, false)), .bin .gtr (.tmp 178) (.lit (.int .i64 0))⟩,
 ⟨(some 180), (some (177, false)), .mov (.tmp 179)⟩,
 ⟨(some 181), (some (180, true)), .mov (.tmp 21)⟩,
 ⟨(some 182), (some (180, true)), .mov (.tmp 10)⟩,
 ⟨(some 183), (some (180, true)), .mov (.tmp 20)⟩,
 ⟨(some 184), (some (180, true)), .bin .sub (.tmp 183) (.lit (.int .i64 1))⟩,
 ⟨(some 185), (some (180, true)), .iaddr 1 (.tmp 182) (.tmp 184)⟩,
 ⟨(some 186), (some (180, true)), .load false 1 (.tmp 185)⟩,
 ⟨(some 187), (some (180, true)), .bin .leq (.tmp 181) (.tmp 186)⟩,
 ⟨(some 188), (some (177, false)), .pick (.tmp 180) (.tmp 187) (.lit (.bool false))⟩,
 ⟨(some 189), none, .pick (.tmp 177) (.lit (.bool true)) (.tmp 188)⟩])
 (.cond (.tmp 189) (.seq (.reg [⟨(some 6), none, .mov (.lit (.bool false))⟩])
 (.ret))
 (.skip)))))))
 (.reg [⟨(some 190), none, .bin .add (.tmp 143) (.lit (.int .i64 1))⟩,
 ⟨(some 143), none, .mov (.tmp 190)⟩])))))))
 (.seq (.seq (.reg [⟨(some 191), none, .faddr 1 (.tmp 9)⟩,
 ⟨(some 192), none, .faddr 0 (.tmp 191)⟩,
 ⟨(some 193), none, .load false 1 (.tmp 192)⟩,
 ⟨(some 24), none, .mov (.tmp 193)⟩])
 (.block 4 (.loop (.seq (.seq (.reg [⟨(some 194), none, .mov (.tmp 24)⟩,
 ⟨(some 195), none, .faddr 1 (.tmp 9)⟩,
 ⟨(some 196), none, .faddr 1 (.tmp 195)⟩,
 ⟨(some 197), none, .load false 1 (.tmp 196)⟩,
 ⟨(some 198), none, .bin .leq (.tmp 194) (.tmp 197)⟩])
 (.cond (.tmp 198) (.skip)
 (.exit 4)))
 (.seq (.block 5 (.seq (.reg [⟨(some 25), none, .mov (.lit (.bool false))⟩])
 (.seq (.seq (.reg [⟨(some 201), none, .mov (.tmp 10)⟩,
 ⟨(some 202), none, .len (.tmp 201)⟩,
 ⟨(some 203), none, .mov (.lit (.int .i64 0))⟩])
 (.block 6 (.loop (.seq (.reg [⟨(some 204), none, .bin .lss (.tmp 203) (.tmp 202)⟩])
 (.seq (.cond (.tmp 204) (.skip)
 (.exit 6))
 (.seq (.block 7 (.seq (.reg [⟨(some 205), none, .iaddr 1 (.tmp 201) (.tmp 203)⟩,
 ⟨(some 206), none, .load false 1 (.tmp 205)⟩,
 ⟨(some 27), none, .mov (.tmp 206)⟩])
 (.reg [⟨(some 207), none, .mov (.tmp 25)⟩,
 ⟨(some 208), none, .mov (.tmp 207)⟩,
 ⟨(some 209), (some (208, false)), .load true 4 (.tmp 9)⟩,
 ⟨(some 210), (some (208, false)), .mov (.tmp 8)⟩,
 ⟨(some 211), (some (208, false)), .mov (.tmp 24)⟩,
 ⟨(some 212), (some (208, false)), .call (.fn 28) [(.tmp 209), (.tmp 210), (.tmp 211)]⟩,
 ⟨(some 213), (some (208, false)), .mov (.tmp 27)⟩,
 ⟨(some 214), (some (208, false)), .bin .eql (.tmp 212) (.tmp 213)⟩,
 ⟨(some 215), none, .pick (.tmp 208) (.lit (.bool true)) (.tmp 214)⟩,
 ⟨(some 25), none, .mov (.tmp 215)⟩])))
 (.reg [⟨(some 216), none, .bin .add (.tmp 203) (.lit (.int .i64 1))⟩,
 ⟨(some 203), none, .mov (.tmp 216)⟩])))))))
 (.seq (.reg [⟨(some 217), none, .mov (.tmp 25)⟩,
 ⟨(some 218), none, .un .not (.tmp 217)⟩])
 (.cond (.tmp 218) (.seq (.reg [⟨(some 6), none, .mov (.lit (.bool false))⟩])
 (.ret))
 (.skip))))))
 (.reg [⟨(some 199), none, .mov (.tmp 24)⟩,
 ⟨(some 200), none, .bin .add (.tmp 199) (.lit (.int .i64 1))⟩,
 ⟨(some 24), none, .mov (.tmp 200)⟩]))))))
 (.seq (.reg [⟨(some 219), none, .faddr 1 (.tmp 9)⟩,
 ⟨(some 220), none, .load true 2 (.tmp 219)⟩,
 ⟨(some 221), none, .build [(.int .i64 0), (.int .i64 0)] []⟩,
 ⟨(some 222), none, .eqs true [(some .i64), (some .i64)] (.tmp 220) (.tmp 221)⟩,
 ⟨(some 223), none, .mov (.tmp 222)⟩,
 ⟨(some 224), (some (223, false)), .mov (.tmp 10)⟩,
 ⟨(some 225), (some (223, false)), .iaddr 1 (.tmp 224) (.lit (.int .i64 0))⟩,
 ⟨(some 226), (some (223, false)), .load false 1 (.tmp 225)⟩,
 ⟨(some 227), (some (223, false)), .mov (.tmp 8)⟩,
 ⟨(some 228), (some (223, false)), .bin .rem (.tmp 227) (.lit (.int .i64 720))⟩,
 ⟨(some 229), (some (223, false)), .bin .eql (.tmp 226) (.tmp 228)⟩,
 ⟨(some 230), none, .pick (.tmp 223) (.lit (.bool true)) (.tmp 229)⟩,
 ⟨(some 231), none, .mov (.tmp 230)⟩,
 ⟨(some 232), (some (231, true)), .call (.fn 20) []⟩,
 ⟨(some 233), none, .pick (.tmp 231) (.tmp 232) (.lit (.bool false))⟩,
 ⟨(some 6), none, .mov (.tmp 233)⟩])
 (.ret)))))))))))))))
theorem k5 : FnC Tryd.prog 5 234 [] [] [.tmp 6] c5 3 := ⟨Tryd.f5, _, Tryd.func5, rfl, by decide, rfl, by decide, by kernel_rfl, by kernel_rfl⟩
end Go.Proofs.YtnmmhkkmejbckaaDoor

/- WatchShows. -/
namespace Go.Proofs.YtnmmhkkmejbckaaDoor
open Go Go.Ab

/-! ### What is told is what there is, in order, once each -/
def ShowP (L S : List Int) : Prop := (∀ x, x ∈ S ↔ x ∈ L) ∧ S.Pairwise (· < ·) ∧ S.length ≤ L.length ∧ S ≠ []
theorem srt2 (a b : Int) : srtN [a, b] 2 = if b < a then [b, a] else [a, b] := by
  by_cases h : b < a <;> simp [srtN, swapDown, h]
theorem srt3 (a b c : Int) : srtN [a, b, c] 3 = if b < a then (if c < a then (if c < b then [c, b, a] else [b, c, a]) else [b, a, c]) else (if c < b then (if c < a then [c, a, b] else [a, c, b]) else [a, b, c]) := by
  by_cases h : b < a
  · by_cases h2 : c < a
    · by_cases h3 : c < b <;> simp [srtN, swapDown, h, h2, h3]
    · simp [srtN, swapDown, h, h2]
  · by_cases h2 : c < b
    · by_cases h3 : c < a <;> simp [srtN, swapDown, h, h2, h3]
    · simp [srtN, swapDown, h, h2]
theorem cmp2 (a b : Int) : cmpN [a, b] 2 = if a = b then [a] else [a, b] := by
  by_cases h : a = b
  · subst h; simp [cmpN]
  · have h' : ¬ b = a := fun e => h e.symm
    simp [cmpN, h, h']
theorem cmp3 (a b c : Int) : cmpN [a, b, c] 3 = if a = b then (if b = c then [a] else [a, c]) else (if b = c then [a, b] else [a, b, c]) := by
  by_cases h : a = b
  · subst h
    by_cases h2 : a = c
    · subst h2; simp [cmpN]
    · have h' : ¬ c = a := fun e => h2 e.symm
      simp [cmpN, h2, h']
  · have h' : ¬ b = a := fun e => h e.symm
    by_cases h2 : b = c
    · subst h2; simp [cmpN, h, h']
    · have h3 : ¬ c = b := fun e => h2 e.symm
      simp [cmpN, h, h', h2, h3]
theorem cmp3_P {a b c : Int} (h1 : a ≤ b) (h2 : b ≤ c) : ShowP [a, b, c] (cmpN [a, b, c] 3) := by
  rw [cmp3]
  unfold ShowP
  split
  · rename_i e; subst e
    split
    · rename_i e; subst e; simp
    · refine ⟨fun x => by simp, by simp; omega, by simp, by simp⟩
  · split
    · rename_i e; subst e
      refine ⟨fun x => by simp, by simp; omega, by simp, by simp⟩
    · refine ⟨fun x => by simp, by simp; omega, by simp, by simp⟩
theorem ShowP.of {L L' S : List Int} (h : ShowP L' S) (hm : ∀ x, x ∈ L' ↔ x ∈ L) (hl : L'.length = L.length) : ShowP L S :=
  ⟨fun x => (h.1 x).trans (hm x), h.2.1, hl ▸ h.2.2.1, h.2.2.2⟩
theorem show_P (L : List Int) (h1 : 1 ≤ L.length) (h3 : L.length ≤ 3) : ShowP L (cmpN (srtN L L.length) L.length) := by
  match L, h1, h3 with
  | [a], _, _ => exact ⟨fun x => Iff.rfl, by simp [srtN, cmpN], by simp [srtN, cmpN], by simp [srtN, cmpN]⟩
  | [a, b], _, _ =>
    show ShowP [a, b] (cmpN (srtN [a, b] 2) 2)
    rw [srt2]
    split
    · rw [cmp2, if_neg (by omega)]
      refine ⟨fun x => by simp [or_comm], by simp; omega, by simp, by simp⟩
    · rw [cmp2]
      split
      · rename_i e; subst e
        refine ⟨fun x => by simp, by simp, by simp, by simp⟩
      · refine ⟨fun x => by simp, by simp; omega, by simp, by simp⟩
  | [a, b, c], _, _ =>
    show ShowP [a, b, c] (cmpN (srtN [a, b, c] 3) 3)
    rw [srt3]
    have hm : ∀ {p q r : Int}, ((∀ x, (x = p ∨ x = q ∨ x = r) ↔ (x = a ∨ x = b ∨ x = c))) → ∀ x, x ∈ [p, q, r] ↔ x ∈ [a, b, c] := fun h x => by
      simp only [List.mem_cons, List.not_mem_nil, or_false]
      exact h x
    repeat' split
    all_goals
      refine (cmp3_P (by omega) (by omega)).of (hm fun x => ?_) rfl
      omega
theorem handsL_len {o : Ow} (ho : o.OK) {m : Int} (h : o.set_ ≤ m) : (handsL o m).length = (o.hi + 1 - o.lo).toNat := by unfold handsL; rw [if_pos h, List.length_map, rngI_len]
theorem showL_P {o : Ow} (ho : o.OK) {m : Int} (h : o.set_ ≤ m) : ShowP (handsL o m) (showL o m) := by
  have hg := ho.gain
  have hl := handsL_len ho h
  exact show_P _ (by omega) (by omega)
theorem handsL_mem {o : Ow} {m : Int} (h : o.set_ ≤ m) {x : Int} : x ∈ handsL o m ↔ ∃ g, (o.lo ≤ g ∧ g ≤ o.hi) ∧ dialI o m g = x := by
  unfold handsL
  rw [if_pos h, List.mem_map]
  constructor
  · rintro ⟨g, hg, rfl⟩; exact ⟨g, mem_rngI.1 hg, rfl⟩
  · rintro ⟨g, hg, rfl⟩; exact ⟨g, mem_rngI.2 hg, rfl⟩
theorem mod_nat (a n : Nat) : (a : Int).tmod (n : Int) = ((a % n : Nat) : Int) := by rw [Int.tmod_eq_emod_of_nonneg (by omega)]; rfl
theorem lt_of_wI {n : Int} {k : Nat} (h : wI n 0 ((k : Int) - 1) = false) : True := trivial
theorem isO_at {w : Wa} {i : Nat} (h : i < w.os.length) : w.isO i = true := decide_eq_true (by omega)
theorem isF_at {w : Wa} {i : Nat} (h : i < w.fs.length) : w.isF i = true := decide_eq_true (by omega)
theorem isO_len (w : Wa) : w.isO w.os.length = false := decide_eq_false (by omega)
theorem isO_neg (w : Wa) : w.isO (-1) = false := by unfold Wa.isO wI; exact decide_eq_false (by omega)
theorem specShows_at {w : Wa} (hok : w.ok = true) {i : Nat} {o : Ow} (hx : w.os[i]? = some o) {m : Int} (hm : 0 ≤ m ∧ m ≤ 1440) : specShows w i m = if o.set_ ≤ m then (showL o m, 0) else ([], 11) := by
  have hi := (List.getElem?_eq_some_iff.1 hx).1
  have hm2 : wI m 0 1440 = true := decide_eq_true hm
  unfold specShows
  rw [hok, if_pos rfl, isO_at hi, hm2, Bool.true_and, if_pos rfl, Int.toNat_natCast, hx]
theorem specShows_no {w : Wa} (hok : w.ok = true) {i m : Int} (h : (w.isO i && wI m 0 1440) = false) : specShows w i m = ([], 2) := by
  unfold specShows
  rw [hok, if_pos rfl, h]
  rfl
def M5 (w : Wa) (o : Ow) (m : Nat) (L : List Int) (st : St) : Prop := lk st.env 8 = .t (vi m) ∧ lk st.env 9 = .ptr 1 0 ∧ lk st.env 10 = .t (tI L) ∧ lk st.env 11 = .t (vi 0) ∧ st.σ = [.cells ((wa2 w).map .t), .cells [.t (vi o.set_), .t (vi o.lo), .t (vi o.hi), .t (vi o.huts)]] ∧ st.df = [] ∧ st.k = 0
set_option maxRecDepth 8000 in
set_option maxHeartbeats 8000000 in
theorem WatchShows_ok (w : Wa) (hL : Lens w) (u : Nat) (hu : u < 256) (v : Nat) (hv : v < 65536) : ACall Tryd.prog 5 [.t (tWa w), .t (.lit (.int .u8 u)), .t (.lit (.int .u16 v))] [] (res (.ret (.t (vb true)))) := by
  refine ACall.walk k5 ?_
  have h26 := long_ok w
  have h27 := rwatches_ok w hL
  unfold c5
  refine awpL_chop 11 (c1 := ?a1) (c2 := ?a2) (fun st => w.OK ∧ ∃ o ∈ w.os, ∃ m : Nat, m ≤ 1440 ∧ o.set_ ≤ m ∧ M5 w o m (showL o m) st) ?hc ?_ ?_
  case hc => simp only [chop]; rfl
  · unfold tWa wa2 at h26 h27 ⊢
    simp only [go_sem, Nat.reduceEqDiff, Nat.reduceAdd]
    refine ACallL.quiet1 h26 rfl rfl rfl ?_
    cases hlg : w.long
    rotate_left
    · simp only [go_sem, Nat.reduceEqDiff, Bool.not_true, undef]
      refine ACallL.quiet1 alive_ok rfl rfl rfl ?_
      simp only [go_sem, Nat.reduceEqDiff]
      exact finL_ret [] ⟨rfl, rfl, rfl, rfl, _, rfl, res_mk rfl⟩
    simp only [go_sem, Nat.reduceEqDiff, Nat.reduceAdd, beq_self_eq_true]
    refine ACallL.quiet1 h27 rfl rfl rfl ?_
    cases hok : w.ok
    · simp only [go_sem, Nat.reduceEqDiff, Bool.not_true, Bool.not_false, undef, beq_self_eq_true]
      refine ACallL.quiet1 alive_ok rfl rfl rfl ?_
      simp only [go_sem, Nat.reduceEqDiff]
      exact finL_ret [] ⟨rfl, rfl, rfl, rfl, _, rfl, res_mk rfl⟩
    have hw := (w.ok_iff).1 hok
    simp only [go_sem, Nat.reduceEqDiff, Nat.reduceAdd, Nat.reduceLeDiff, Bool.not_true, beq_self_eq_true, List.length_map]
    cases h0 : ((w.os.length : Int) == 0)
    rotate_left
    · simp only [go_sem]
      refine ACallL.quiet1 alive_ok rfl rfl rfl ?_
      simp only [go_sem, Nat.reduceEqDiff]
      exact finL_ret [] ⟨rfl, rfl, rfl, rfl, _, rfl, res_mk rfl⟩
    have n0 : ((w.os.length : Int) = 0) = False := eq_false (by simpa using h0)
    have hnp : 0 < w.os.length := by have : ¬ ((w.os.length : Int) = 0) := by simpa using h0
                                     omega
    have ha : u % w.os.length < w.os.length := Nat.mod_lt _ hnp
    have hm : v % 1441 ≤ 1440 := by omega
    have t1 := mod_nat u w.os.length
    have t2 : (v : Int).tmod 1441 = ((v % 1441 : Nat) : Int) := mod_nat v 1441
    have w0 : IntKind.i64.wrap (u : Int) = u := wrap_id (by omega) (by omega)
    have w1 : IntKind.i64.wrap (v : Int) = v := wrap_id (by omega) (by omega)
    have n1 : ((1441 : Int) = 0) = False := eq_false (by omega)
    have hn5 := hw.no
    generalize u % w.os.length = i at *
    generalize v % 1441 = m at *
    have hx : w.os[i]? = some w.os[i] := List.getElem?_eq_getElem ha
    have mx := List.getElem_mem ha
    have ho := hw.os _ mx
    generalize w.os[i] = o at *
    have hto : tOw o = .agg [vi o.set_, vi o.lo, vi o.hi, vi o.huts] := rfl
    have q1 := Shows_ok w i m hL
    have q2 := Shows_ok w w.os.length m hL
    have q3 := Shows_ok w (-1) m hL
    have q4 := Shows_ok w i 1441 hL
    have q5 := Shows_ok w i (-1) hL
    rw [specShows_at hok hx (by omega)] at q1
    rw [specShows_no hok (by rw [isO_len]; rfl)] at q2
    rw [specShows_no hok (by rw [isO_neg]; rfl)] at q3
    rw [specShows_no hok (by rw [show wI 1441 0 1440 = false from rfl, Bool.and_false])] at q4
    rw [specShows_no hok (by rw [show wI (-1) 0 1440 = false from rfl, Bool.and_false])] at q5
    have hi0 : ((i : Int) < 0) = False := eq_false (by omega)
    unfold tWa wa2 at q1 q2 q3 q4 q5
    simp only [lsE] at q1 q2 q3 q4 q5
    have e2 : ((2 : Int) = 0) = False := eq_false (by omega)
    simp only [e2, if_false] at q2 q3 q4 q5
    cases hc : decide (o.set_ ≤ (m : Int))
    · have hc' := of_decide_eq_false hc
      have hc2 : decide ((m : Int) < o.set_) = true := decide_eq_true (by omega)
      have e11 : ((11 : Int) = 0) = False := eq_false (by omega)
      rw [if_neg hc'] at q1
      simp only [e11, if_false] at q1
      simp only [go_sem, Nat.reduceEqDiff, Nat.reduceAdd, Nat.reduceLeDiff, undef, List.length_map, n0, t1, t2, w0, w1, n1, List.getElem?_map, hx, Option.map_some, hto]
      refine ACallL.quiet1 q1 rfl rfl rfl ?_
      simp only [go_sem, Nat.reduceEqDiff, Nat.reduceAdd, Nat.reduceLeDiff, List.length_map]
      refine ACallL.quiet1 q2 rfl rfl rfl ?_
      simp only [go_sem, Nat.reduceEqDiff, Nat.reduceAdd, Int.reduceNeg]
      refine ACallL.quiet1 q3 rfl rfl rfl ?_
      simp only [go_sem, Nat.reduceEqDiff, Nat.reduceAdd]
      refine ACallL.quiet1 q4 rfl rfl rfl ?_
      simp only [go_sem, Nat.reduceEqDiff, Nat.reduceAdd, Int.reduceNeg]
      refine ACallL.quiet1 q5 rfl rfl rfl ?_
      simp only [go_sem, Nat.reduceEqDiff, Nat.reduceAdd, Nat.reduceLeDiff, beq_self_eq_true, bne_self_eq_false, hc2]
      refine ACallL.quiet1 alive_ok rfl rfl rfl ?_
      simp only [go_sem, Nat.reduceEqDiff]
      exact finL_ret [] ⟨rfl, rfl, rfl, rfl, _, rfl, res_mk rfl⟩
    · have hc' := of_decide_eq_true hc
      have hc2 : decide ((m : Int) < o.set_) = false := decide_eq_false (by omega)
      rw [if_pos hc'] at q1
      simp only [if_true] at q1
      have q1' : ACall Tryd.prog 12 [.t (.agg [.slice 4 (w.os.map tOw), .slice 5 (w.fs.map tFi)]), .t (vi i), .t (vi m)] [] (res (.ret (.tup [.t (tI (showL o m)), .t (vi 0)]))) := q1
      clear q1
      simp only [go_sem, Nat.reduceEqDiff, Nat.reduceAdd, Nat.reduceLeDiff, undef, List.length_map, n0, t1, t2, w0, w1, n1, List.getElem?_map, hx, Option.map_some, hto]
      refine ACallL.fresh1 q1' rfl ?_
      simp only [go_sem, Nat.reduceEqDiff, Nat.reduceAdd, Nat.reduceLeDiff, List.length_map]
      refine ACallL.quiet1 q2 rfl rfl rfl ?_
      simp only [go_sem, Nat.reduceEqDiff, Nat.reduceAdd, Int.reduceNeg]
      refine ACallL.quiet1 q3 rfl rfl rfl ?_
      simp only [go_sem, Nat.reduceEqDiff, Nat.reduceAdd]
      refine ACallL.quiet1 q4 rfl rfl rfl ?_
      simp only [go_sem, Nat.reduceEqDiff, Nat.reduceAdd, Int.reduceNeg]
      refine ACallL.quiet1 q5 rfl rfl rfl ?_
      simp only [go_sem, Nat.reduceEqDiff, Nat.reduceAdd, Nat.reduceLeDiff, beq_self_eq_true, bne_self_eq_false, hc2]
      exact ⟨hw, o, mx, m, hm, hc', rfl, rfl, rfl, rfl, rfl, rfl, rfl⟩
  rintro ⟨env, σ, df, k⟩ ⟨hw, o, mx, m, hm, hsm, p1, p2, p3, p4, hσ, hdf, hk⟩
  simp only at p1 p2 p3 p4 hσ hdf hk
  subst hσ hdf hk
  have ho := hw.os _ mx
  obtain ⟨P1, P2, P3, P4⟩ := showL_P ho hsm
  rw [handsL_len ho hsm] at P3
  have hdial := fun g => dial_ok o m g ho.set_ (by omega)
  have hmem := fun x => (P1 x).trans (@handsL_mem o m hsm x)
  have hg := ho.gain
  have hpos : 0 < (showL o m).length := List.length_pos_iff.2 P4
  generalize showL o m = L at *
  have hto : tOw o = .agg [vi o.set_, vi o.lo, vi o.hi, vi o.huts] := rfl
  rw [hto] at hdial
  have w1 : IntKind.i64.wrap (o.hi - o.lo) = o.hi - o.lo := wrap_id (by omega) (by omega)
  have w2 : IntKind.i64.wrap (o.hi - o.lo + 1) = o.hi - o.lo + 1 := wrap_id (by omega) (by omega)
  have g1 : ((L.length : Int) == 0) = false := beq_false_of_ne (by omega)
  have g2 : decide ((L.length : Int) > o.hi - o.lo + 1) = false := decide_eq_false (by omega)
  have hl3 : L.length ≤ 3 := by omega
  unfold tI at p3
  unfold wa2
  simp only [go_sem, Nat.reduceEqDiff, Nat.reduceAdd, Nat.reduceLeDiff, beq_self_eq_true, bne_self_eq_false, p2, p3, p4, List.length_map, g1, g2, w1, w2]
  have hK : ∀ k : Nat, k < (o.hi + 1 - o.lo).toNat → (rngI o.lo o.hi).take (k + 1) = (rngI o.lo o.hi).take k ++ [o.lo + k] := fun k hk => by rw [List.take_add_one, rngI_get hk]; rfl
  have hKl : (rngI o.lo o.hi).take (o.hi + 1 - o.lo).toNat = rngI o.lo o.hi := List.take_of_length_le (by rw [rngI_len]; omega)
  refine awpL_loopK L.length (fun j s => s = { env := [(143, .t (vi j)), (8, .t (vi m)), (9, .ptr 0 0), (10, .t (.slice 1 (L.map vi))), (141, .t (.slice 1 (L.map vi))), (142, .t (vi L.length))], σ := [.cells [.t (vi o.set_), .t (vi o.lo), .t (vi o.hi), .t (vi o.huts)]] })
    ⟨_, Sub.gc [1] [143, 8, 9, 10, 141, 142] rfl rfl, St.gc_mk (by simp only [List.map_cons, List.map_nil, lk, Nat.reduceEqDiff, reduceIte, p1, p2, p3]; rfl) rfl rfl rfl⟩ ?_
  rintro j s hj rfl
  have hj0 : ((j : Int) < 0) = False := eq_false (by omega)
  cases g : decide ((j : Int) < L.length)
  · simp only [go_sem, Nat.reduceEqDiff, Nat.reduceAdd, Nat.reduceLeDiff, g]
    clear g hj0 hj
    refine awpL_loopK (o.hi + 1 - o.lo).toNat (fun k s => s = { env := [(24, .t (vi (o.lo + k))), (8, .t (vi m)), (9, .ptr 0 0), (10, .t (.slice 1 (L.map vi)))], σ := [.cells [.t (vi o.set_), .t (vi o.lo), .t (vi o.hi), .t (vi o.huts)]] })
      ⟨_, Sub.gc [0] [24, 8, 9, 10] rfl rfl, ?_⟩ ?_
    · rw [show o.lo + ((0 : Nat) : Int) = o.lo by omega]
      exact St.gc_mk rfl rfl rfl rfl
    rintro k s hk rfl
    cases g3 : decide (o.lo + (k : Int) ≤ o.hi)
    · simp only [go_sem, Nat.reduceEqDiff, Nat.reduceAdd, Nat.reduceLeDiff, g3]
      have k1 : toKey (some [some .i64, some .i64], none) (.t (.agg [vi o.lo, vi o.hi])) = some [o.lo, o.hi] := by simp [toKey, cellKeys, cellKey]
      have k2 : toKey (some [some .i64, some .i64], none) (.t (.agg [vi 0, vi 0])) = some [0, 0] := by simp [toKey, cellKeys, cellKey]
      have k3 : kEq [some .i64, some .i64] [o.lo, o.hi] [0, 0] = ((o.lo == 0) && (o.hi == 0)) := by simp [kEq, cellEq]
      cases g5 : ((o.lo == 0) && (o.hi == 0))
      · simp only [go_sem, Nat.reduceEqDiff, Bool.not_true, Bool.not_false, undef, beq_self_eq_true, k1, k2, k3, g5]
        refine ACallL.quiet1 alive_ok rfl rfl rfl ?_
        simp only [go_sem, Nat.reduceEqDiff]
        exact finL_ret [] ⟨rfl, rfl, rfl, rfl, _, rfl, res_mk rfl⟩
      · simp only [Bool.and_eq_true, beq_iff_eq] at g5
        have g5' : ((o.lo == 0) && (o.hi == 0)) = true := by rw [g5.1, g5.2]; rfl
        have h0 : L[0]? = some L[0] := List.getElem?_eq_getElem hpos
        obtain ⟨x, hx1, hx2⟩ := (hmem _).1 (List.getElem_mem hpos)
        have hx0 : x = 0 := by omega
        subst hx0
        have hd0 : dialI o m 0 = ((m % 720 : Nat) : Int) := by unfold dialI; rw [Int.zero_mul]; omega
        rw [hd0] at hx2
        have t0 : (m : Int).tmod 720 = ((m % 720 : Nat) : Int) := mod_nat m 720
        have n7 : ((720 : Int) = 0) = False := eq_false (by omega)
        have w7 : IntKind.i64.wrap ((m % 720 : Nat) : Int) = ((m % 720 : Nat) : Int) := wrap_id (by omega) (by omega)
        rw [← hx2] at h0
        have hself : (((m % 720 : Nat) : Int) == ((m % 720 : Nat) : Int)) = true := beq_self_eq_true _
        generalize m % 720 = r at *
        simp only [go_sem, Nat.reduceEqDiff, Int.reduceLE, Bool.not_true, beq_self_eq_true, k1, k2, k3, g5', h0, List.getElem?_map, Option.map_some, t0, n7]
        refine ACallL.quiet1 alive_ok rfl rfl rfl ?_
        simp only [go_sem, Nat.reduceEqDiff]
        exact finL_ret [] ⟨rfl, rfl, rfl, rfl, _, rfl, res_mk rfl⟩
    have hkl : k < (o.hi + 1 - o.lo).toNat := by have := of_decide_eq_true g3; omega
    have w4 : IntKind.i64.wrap (o.lo + (k : Int) + 1) = o.lo + ((k + 1 : Nat) : Int) := by rw [wrap_id (by omega) (by omega)]; omega
    have hd := hdial (o.lo + k) (by omega)
    have hin := (hmem (dialI o m (o.lo + k))).2 ⟨o.lo + k, by omega, rfl⟩
    generalize dialI o m (o.lo + k) = n at *
    simp only [go_sem, Nat.reduceEqDiff, Nat.reduceAdd, Nat.reduceLeDiff, g3, List.length_map]
    refine awpL_loopK L.length (fun j s => s = { env := [(203, .t (vi j)), (25, .t (vb ((L.take j).any fun x => n == x))), (8, .t (vi m)), (9, .ptr 0 0), (10, .t (.slice 1 (L.map vi))), (24, .t (vi (o.lo + k))), (201, .t (.slice 1 (L.map vi))), (202, .t (vi L.length))], σ := [.cells [.t (vi o.set_), .t (vi o.lo), .t (vi o.hi), .t (vi o.huts)]] })
      ⟨_, Sub.gc [0] [203, 25, 8, 9, 10, 24, 201, 202] rfl rfl, St.gc_mk rfl rfl rfl rfl⟩ ?_
    rintro j s hj rfl
    have hj0 : ((j : Int) < 0) = False := eq_false (by omega)
    cases g4 : decide ((j : Int) < L.length)
    · have hje : j = L.length := by have := of_decide_eq_false g4; omega
      subst hje
      rw [List.take_length]
      have hany : L.any (fun x => n == x) = true := List.any_eq_true.2 ⟨n, hin, beq_self_eq_true n⟩
      simp only [go_sem, Nat.reduceEqDiff, Nat.reduceAdd, Nat.reduceLeDiff, Bool.not_true, g4, hany, w4]
      exact ⟨hkl, _, Sub.gc [0] [24, 8, 9, 10] rfl rfl, St.gc_mk rfl rfl rfl rfl⟩
    have hjl : j < L.length := by have := of_decide_eq_true g4; omega
    have hx : L[j]? = some L[j] := List.getElem?_eq_getElem hjl
    have tx : L.take (j + 1) = L.take j ++ [L[j]] := by rw [List.take_add_one, hx]; rfl
    have hw : IntKind.i64.wrap ((j : Int) + 1) = ((j + 1 : Nat) : Int) := by rw [wrap_id (by omega) (by omega)]; omega
    rw [tx, List.any_append, List.any_cons, List.any_nil, Bool.or_false]
    generalize L[j] = x at *
    generalize (L.take j).any (fun x => n == x) = B at *
    cases B
    · simp only [go_sem, Nat.reduceEqDiff, Nat.reduceAdd, beq_self_eq_true, g4, List.getElem?_map, hx, Option.map_some]
      refine ACallL.quiet1 hd rfl rfl rfl ?_
      simp only [go_sem, Nat.reduceEqDiff, beq_self_eq_true, Bool.false_or, hw]
      exact ⟨hjl, _, Sub.gc [0] [203, 25, 8, 9, 10, 24, 201, 202] rfl rfl, St.gc_mk rfl rfl rfl rfl⟩
    · simp only [go_sem, Nat.reduceEqDiff, Bool.not_true, undef, Bool.true_or, g4, List.getElem?_map, hx, Option.map_some, hw]
      exact ⟨hjl, _, Sub.gc [0] [203, 25, 8, 9, 10, 24, 201, 202] rfl rfl, St.gc_mk rfl rfl rfl rfl⟩
  have hjl : j < L.length := by have := of_decide_eq_true g; omega
  have hx : L[j]? = some L[j] := List.getElem?_eq_getElem hjl
  have hn := (hmem _).1 (List.getElem_mem hjl)
  have hpw : 0 < j → ∃ y, L[j - 1]? = some y ∧ y < L[j] := fun h => ⟨_, List.getElem?_eq_getElem (by omega), (List.pairwise_iff_getElem.1 P2) (j - 1) j (by omega) hjl (by omega)⟩
  generalize L[j] = n at *
  have hw : IntKind.i64.wrap ((j : Int) + 1) = ((j + 1 : Nat) : Int) := by rw [wrap_id (by omega) (by omega)]; omega
  simp only [go_sem, Nat.reduceEqDiff, Nat.reduceAdd, Nat.reduceLeDiff, g, List.getElem?_map, hx, Option.map_some]
  refine awpL_loopK (o.hi + 1 - o.lo).toNat (fun k s => s = { env := [(23, .t (vi (o.lo + k))), (22, .t (vb (((rngI o.lo o.hi).take k).any fun x => dialI o m x == n))), (8, .t (vi m)), (9, .ptr 0 0), (10, .t (.slice 1 (L.map vi))), (20, .t (vi j)), (21, .t (vi n)), (141, .t (.slice 1 (L.map vi))), (142, .t (vi L.length)), (143, .t (vi j))], σ := [.cells [.t (vi o.set_), .t (vi o.lo), .t (vi o.hi), .t (vi o.huts)]] })
    ⟨_, Sub.gc [0] [23, 22, 8, 9, 10, 20, 21, 141, 142, 143] rfl rfl, ?_⟩ ?_
  · rw [show o.lo + ((0 : Nat) : Int) = o.lo by omega]
    exact St.gc_mk rfl rfl rfl rfl
  rintro k s hk rfl
  cases g3 : decide (o.lo + (k : Int) ≤ o.hi)
  · have hke : k = (o.hi + 1 - o.lo).toNat := by have := of_decide_eq_false g3; omega
    rw [hke, hKl]
    rw [hke] at g3
    have hany : (rngI o.lo o.hi).any (fun x => dialI o m x == n) = true := by
      obtain ⟨x, hx1, hx2⟩ := hn
      exact List.any_eq_true.2 ⟨x, mem_rngI.2 hx1, by rw [hx2]; exact beq_self_eq_true n⟩
    obtain ⟨x, -, hx2⟩ := hn
    have hb := dialI_bd o m x
    rw [hx2] at hb
    have c1 : decide (n < 0) = false := decide_eq_false (by omega)
    have c2 : decide (n ≥ 720) = false := decide_eq_false (by omega)
    by_cases hj1 : 0 < j
    · obtain ⟨y, hy, hyn⟩ := hpw hj1
      have c3 : decide ((j : Int) > 0) = true := decide_eq_true (by omega)
      have c4 : decide (n ≤ y) = false := decide_eq_false (by omega)
      have w3 : IntKind.i64.wrap ((j : Int) - 1) = ((j - 1 : Nat) : Int) := by rw [wrap_id (by omega) (by omega)]; omega
      have c5 : (((j - 1 : Nat) : Int) < 0) = False := eq_false (by omega)
      simp only [go_sem, Nat.reduceEqDiff, Nat.reduceAdd, Nat.reduceLeDiff, Bool.not_true, beq_self_eq_true, g3, hany, c1, c2, c3, c4, w3, hy, List.getElem?_map, Option.map_some, hw]
      exact ⟨hjl, _, Sub.gc [0] [143, 8, 9, 10, 141, 142] rfl rfl, St.gc_mk rfl rfl rfl rfl⟩
    · have hj00 : j = 0 := by omega
      subst hj00
      simp only [go_sem, Nat.reduceEqDiff, Nat.reduceAdd, Nat.reduceLeDiff, Bool.not_true, Int.reduceGT, Int.reduceAdd, decide_false, undef, beq_self_eq_true, g3, hany, c1, c2]
      exact ⟨hjl, _, Sub.gc [0] [143, 8, 9, 10, 141, 142] rfl rfl, St.gc_mk rfl rfl rfl rfl⟩
  · have hkl : k < (o.hi + 1 - o.lo).toNat := by have := of_decide_eq_true g3; omega
    have w4 : IntKind.i64.wrap (o.lo + (k : Int) + 1) = o.lo + ((k + 1 : Nat) : Int) := by rw [wrap_id (by omega) (by omega)]; omega
    have hd := hdial (o.lo + k) (by omega)
    rw [hK k hkl, List.any_append]
    generalize ((rngI o.lo o.hi).take k).any (fun x => dialI o m x == n) = B at *
    cases B
    · simp only [go_sem, Nat.reduceEqDiff, Nat.reduceAdd, Nat.reduceLeDiff, beq_self_eq_true, g3]
      refine ACallL.quiet1 hd rfl rfl rfl ?_
      simp only [go_sem, Nat.reduceEqDiff, beq_self_eq_true, Bool.false_or, w4]
      refine ⟨hkl, _, Sub.gc [0] [23, 22, 8, 9, 10, 20, 21, 141, 142, 143] rfl rfl, ?_⟩
      rw [List.any_cons, List.any_nil, Bool.or_false]
      exact St.gc_mk rfl rfl rfl rfl
    · simp only [go_sem, Nat.reduceEqDiff, Nat.reduceAdd, Nat.reduceLeDiff, Bool.not_true, undef, Bool.true_or, g3, w4]
      exact ⟨hkl, _, Sub.gc [0] [23, 22, 8, 9, 10, 20, 21, 141, 142, 143] rfl rfl, St.gc_mk rfl rfl rfl rfl⟩
end Go.Proofs.YtnmmhkkmejbckaaDoor
