/- Proved here: laws that the statements need (WaC33, WaU1). No conditions but those that each law states. -/
import Derived.Test.YtnmmhkkmejbckaaDoorFL
import Derived.Test.YtnmmhkkmejbckaaDoorFP
import Derived.Test.YtnmmhkkmejbckaaDoorProg
import Derived.Test.YtnmmhkkmejbckaaDoorEE

set_option linter.unusedSimpArgs false
set_option linter.unusedVariables false

/- Compiled code of functions, printed by program; each is checked to be the program's. No conditions. -/
namespace Go.Proofs.YtnmmhkkmejbckaaDoor
open Go Go.Ab
/-- dipworks/dipworkslaw07.WatchNames -/
def c3 : AC :=
 .seq (.reg [⟨(some 0), none, .mov (.lit (.bool false))⟩])
 (.seq (.reg [⟨(some 31), none, .call (.fn 11) [(.lit (.bool false)), (.lit (.int .i64 660))]⟩,
 ⟨(some 32), none, .call (.fn 11) [(.lit (.bool true)), (.lit (.int .i64 660))]⟩,
 ⟨(some 33), none, .call (.fn 11) [(.lit (.bool true)), (.lit (.int .i64 656))]⟩,
 ⟨(some 1), none, .alloc [(.slice none 0 0), (.slice none 0 0)]⟩,
 ⟨(some 2), none, .alloc [(.slice none 0 0), (.slice none 0 0)]⟩,
 ⟨(some 3), none, .alloc [(.slice none 0 0), (.slice none 0 0)]⟩,
 ⟨none, none, .store 2 (.tmp 1) (.tmp 31)⟩,
 ⟨none, none, .store 2 (.tmp 2) (.tmp 32)⟩,
 ⟨none, none, .store 2 (.tmp 3) (.tmp 33)⟩])
 (.seq (.reg [⟨(some 35), none, .load true 2 (.tmp 1)⟩,
 ⟨(some 36), none, .call (.fn 12) [(.tmp 35), (.lit (.int .i64 0)), (.lit (.int .i64 600))]⟩,
 ⟨(some 34), none, .mov (.tmp 36)⟩,
 ⟨(some 37), none, .ext (.tmp 34) 0⟩,
 ⟨(some 38), none, .ext (.tmp 34) 1⟩,
 ⟨(some 4), none, .mov (.tmp 37)⟩,
 ⟨(some 5), none, .mov (.tmp 38)⟩])
 (.seq (.reg [⟨(some 40), none, .load true 2 (.tmp 1)⟩,
 ⟨(some 41), none, .call (.fn 12) [(.tmp 40), (.lit (.int .i64 2)), (.lit (.int .i64 660))]⟩,
 ⟨(some 39), none, .mov (.tmp 41)⟩,
 ⟨(some 42), none, .ext (.tmp 39) 0⟩,
 ⟨(some 43), none, .ext (.tmp 39) 1⟩,
 ⟨(some 6), none, .mov (.tmp 42)⟩,
 ⟨(some 7), none, .mov (.tmp 43)⟩])
 (.seq (.reg [⟨(some 45), none, .load true 2 (.tmp 1)⟩,
 ⟨(some 46), none, .call (.fn 12) [(.tmp 45), (.lit (.int .i64 2)), (.lit (.int .i64 599))]⟩,
 ⟨(some 44), none, .mov (.tmp 46)⟩,
 ⟨(some 47), none, .ext (.tmp 44) 0⟩,
 ⟨(some 48), none, .ext (.tmp 44) 1⟩,
 ⟨(some 8), none, .mov (.tmp 47)⟩,
 ⟨(some 9), none, .mov (.tmp 48)⟩])
 (.seq (.reg [⟨(some 50), none, .load true 2 (.tmp 1)⟩,
 ⟨(some 51), none, .call (.fn 13) [(.tmp 50), (.lit (.int .i64 1))]⟩,
 ⟨(some 49), none, .mov (.tmp 51)⟩,
 ⟨(some 52), none, .ext (.tmp 49) 0⟩,
 ⟨(some 53), none, .ext (.tmp 49) 1⟩,
 ⟨(some 10), none, .mov (.tmp 52)⟩,
 ⟨(some 11), none, .mov (.tmp 53)⟩])
 (.seq (.reg [⟨(some 55), none, .load true 2 (.tmp 3)⟩,
 ⟨(some 56), none, .call (.fn 13) [(.tmp 55), (.lit (.int .i64 2))]⟩,
 ⟨(some 54), none, .mov (.tmp 56)⟩,
 ⟨(some 57), none, .ext (.tmp 54) 0⟩,
 ⟨(some 58), none, .ext (.tmp 54) 1⟩,
 ⟨(some 12), none, .mov (.tmp 57)⟩,
 ⟨(some 13), none, .mov (.tmp 58)⟩])
 (.seq (.reg [⟨(some 60), none, .load true 2 (.tmp 2)⟩,
 ⟨(some 61), none, .call (.fn 14) [(.tmp 60), (.lit (.int .i64 2)), (.lit (.int .i64 0))]⟩,
 ⟨(some 59), none, .mov (.tmp 61)⟩,
 ⟨(some 62), none, .ext (.tmp 59) 0⟩,
 ⟨(some 63), none, .ext (.tmp 59) 1⟩,
 ⟨(some 14), none, .mov (.tmp 62)⟩,
 ⟨(some 15), none, .mov (.tmp 63)⟩])
 (.seq (.reg [⟨(some 65), none, .load true 2 (.tmp 2)⟩,
 ⟨(some 66), none, .call (.fn 14) [(.tmp 65), (.lit (.int .i64 0)), (.lit (.int .i64 0))]⟩,
 ⟨(some 64), none, .mov (.tmp 66)⟩,
 ⟨(some 67), none, .ext (.tmp 64) 0⟩,
 ⟨(some 68), none, .ext (.tmp 64) 1⟩,
 ⟨(some 16), none, .mov (.tmp 67)⟩,
 ⟨(some 17), none, .mov (.tmp 68)⟩])
 (.seq (.reg [⟨(some 70), none, .load true 2 (.tmp 2)⟩,
 ⟨(some 71), none, .call (.fn 15) [(.tmp 70)]⟩,
 ⟨(some 69), none, .mov (.tmp 71)⟩,
 ⟨(some 72), none, .ext (.tmp 69) 0⟩,
 ⟨(some 73), none, .ext (.tmp 69) 1⟩,
 ⟨(some 18), none, .mov (.tmp 72)⟩,
 ⟨(some 19), none, .mov (.tmp 73)⟩])
 (.seq (.reg [⟨(some 75), none, .load true 2 (.tmp 3)⟩,
 ⟨(some 76), none, .call (.fn 15) [(.tmp 75)]⟩,
 ⟨(some 74), none, .mov (.tmp 76)⟩,
 ⟨(some 77), none, .ext (.tmp 74) 0⟩,
 ⟨(some 78), none, .ext (.tmp 74) 1⟩,
 ⟨(some 20), none, .mov (.tmp 77)⟩,
 ⟨(some 21), none, .mov (.tmp 78)⟩])
 (.seq (.reg [⟨(some 80), none, .load true 2 (.tmp 1)⟩,
 ⟨(some 81), none, .call (.fn 16) [(.tmp 80), (.lit (.int .i64 0))]⟩,
 ⟨(some 79), none, .mov (.tmp 81)⟩,
 ⟨(some 82), none, .ext (.tmp 79) 0⟩,
 ⟨(some 83), none, .ext (.tmp 79) 1⟩,
 ⟨(some 22), none, .mov (.tmp 82)⟩,
 ⟨(some 23), none, .mov (.tmp 83)⟩])
 (.seq (.reg [⟨(some 85), none, .load true 2 (.tmp 2)⟩,
 ⟨(some 86), none, .call (.fn 17) [(.tmp 85), (.lit (.int .i64 0))]⟩,
 ⟨(some 84), none, .mov (.tmp 86)⟩,
 ⟨(some 87), none, .ext (.tmp 84) 0⟩,
 ⟨(some 88), none, .ext (.tmp 84) 1⟩,
 ⟨(some 89), none, .ext (.tmp 84) 2⟩,
 ⟨(some 24), none, .mov (.tmp 87)⟩,
 ⟨(some 25), none, .mov (.tmp 88)⟩,
 ⟨(some 26), none, .mov (.tmp 89)⟩])
 (.seq (.reg [⟨(some 91), none, .load true 2 (.tmp 1)⟩,
 ⟨(some 92), none, .call (.fn 18) [(.tmp 91)]⟩,
 ⟨(some 90), none, .mov (.tmp 92)⟩,
 ⟨(some 93), none, .ext (.tmp 90) 0⟩,
 ⟨(some 94), none, .ext (.tmp 90) 1⟩,
 ⟨(some 27), none, .mov (.tmp 93)⟩,
 ⟨(some 28), none, .mov (.tmp 94)⟩])
 (.seq (.reg [⟨(some 96), none, .load true 2 (.tmp 2)⟩,
 ⟨(some 97), none, .call (.fn 19) [(.tmp 96)]⟩,
 ⟨(some 95), none, .mov (.tmp 97)⟩,
 ⟨(some 98), none, .ext (.tmp 95) 0⟩,
 ⟨(some 99), none, .ext (.tmp 95) 1⟩,
 ⟨(some 29), none, .mov (.tmp 98)⟩,
 ⟨(some 30), none, .mov (.tmp 99)⟩])
 (.seq (.reg [⟨(some 100), none, .mov (.lit (.bool true))⟩,
 ⟨(some 101), (some (100, true)), .call (.fn 20) []⟩,
 ⟨(some 102), none, .pick (.tmp 100) (.tmp 101) (.lit (.bool false))⟩,
 ⟨(some 103), none, .mov (.tmp 102)⟩,
 ⟨(some 104), (some (103, true)), .mov (.tmp 4)⟩,
 ⟨(some 105), (some (103, true)), .bslice 1 (.int .i64 0) 1 [(0, (.lit (.int .i64 600)))]⟩,
 ⟨(some 106), (some (103, true)), .call (.fn 21) [(.tmp 104), (.tmp 105)]⟩,
 ⟨(some 107), none, .pick (.tmp 103) (.tmp 106) (.lit (.bool false))⟩,
 ⟨(some 108), none, .mov (.tmp 107)⟩,
 ⟨(some 109), (some (108, true)), .mov (.tmp 5)⟩,
 ⟨(some 110), (some (108, true)), .bin .eql (.tmp 109) (.lit (.int .i64 0))⟩,
 ⟨(some 111), none, .pick (.tmp 108) (.tmp 110) (.lit (.bool false))⟩,
 ⟨(some 112), none, .mov (.tmp 111)⟩,
 ⟨(some 113), (some (112, true)), .mov (.tmp 6)⟩,
 ⟨(some 114), (some (112, true)), .bslice 1 (.int .i64 0) 1 [(0, (.lit (.int .i64 655)))]⟩,
 ⟨(some 115), (some (112, true)), .call (.fn 21) [(.tmp 113), (.tmp 114)]⟩,
 ⟨(some 116), none, .pick (.tmp 112) (.tmp 115) (.lit (.bool false))⟩,
 ⟨(some 117), none, .mov (.tmp 116)⟩,
 ⟨(some 118), (some (117, true)), .mov (.tmp 7)⟩,
 ⟨(some 119), (some (117, true)), .bin .eql (.tmp 118) (.lit (.int .i64 0))⟩,
 ⟨(some 120), none, .pick (.tmp 117) (.tmp 119) (.lit (.bool false))⟩,
 ⟨(some 121), none, .mov (.tmp 120)⟩,
 ⟨(some 122), (some (121, true)), .mov (.tmp 9)⟩,
 ⟨(some 123), (some (121, true)), .bin .eql (.tmp 122) (.lit (.int .i64 11))⟩,
 ⟨(some 124), none, .pick (.tmp 121) (.tmp 123) (.lit (.bool false))⟩,
 ⟨(some 125), none, .mov (.tmp 124)⟩,
 ⟨(some 126), (some (125, true)), .mov (.tmp 10)⟩,
 ⟨(some 127), (some (125, true)), .bin .eql (.tmp 126) (.lit (.int .i64 5))⟩,
 ⟨(some 128), none, .pick (.tmp 125) (.tmp 127) (.lit (.bool false))⟩,
 ⟨(some 129), none, .mov (.tmp 128)⟩,
 ⟨(some 130), (some (129, true)), .mov (.tmp 11)⟩,
 ⟨(some 131), (some (129, true)), .bin .eql (.tmp 130) (.lit (.int .i64 0))⟩,
 ⟨(some 132), none, .pick (.tmp 129) (.tmp 131) (.lit (.bool false))⟩,
 ⟨(some 133), none, .mov (.tmp 132)⟩,
 ⟨(some 134), (some (133, true)), .mov (.tmp 12)⟩,
 ⟨(some 135), (some (133, true)), .bin .eql (.tmp 134) (.lit (.int .i64 4))⟩,
 ⟨(some 136), none, .pick (.tmp 133) (.tmp 135) (.lit (.bool false))⟩,
 ⟨(some 137), none, .mov (.tmp 136)⟩,
 ⟨(some 138), (some (137, true)), .mov (.tmp 13)⟩,
 ⟨(some 139), (some (137, true)), .bin .eql (.tmp 138) (.lit (.int .i64 0))⟩,
 ⟨(some 140), none, .pick (.tmp 137) (.tmp 139) (.lit (.bool false))⟩,
 ⟨(some 141), none, .mov (.tmp 140)⟩,
 ⟨(some 142), (some (141, true)), .mov (.tmp 15)⟩,
 ⟨(some 143), (some (141, true)), .bin .eql (.tmp 142) (.lit (.int .i64 4))⟩,
 ⟨(some 144), none, .pick (.tmp 141) (.tmp 143) (.lit (.bool false))⟩,
 ⟨(some 145), none, .mov (.tmp 144)⟩,
 ⟨(some 146), (some (145, true)), .mov (.tmp 17)⟩,
 ⟨(some 147), (some (145, true)), .bin .eql (.tmp 146) (.lit (.int .i64 11))⟩,
 ⟨(some 148), none, .pick (.tmp 145) (.tmp 147) (.lit (.bool false))⟩,
 ⟨(some 149), none, .mov (.tmp 148)⟩,
 ⟨(some 150), (some (149, true)), .mov (.tmp 18)⟩,
 ⟨(some 151), (some (149, true)), .bin .eql (.tmp 150) (.lit (.int .i64 1))⟩,
 ⟨(some 152), none, .pick (.tmp 149) (.tmp 151) (.lit (.bool false))⟩,
 ⟨(some 153), none, .mov (.tmp 152)⟩,
 ⟨(some 154), (some (153, true)), .mov (.tmp 19)⟩,
 ⟨(some 155), (some (153, true)), .bin .eql (.tmp 154) (.lit (.int .i64 0))⟩,
 ⟨(some 156), none, .pick (.tmp 153) (.tmp 155) (.lit (.bool false))⟩,
 ⟨(some 157), none, .mov (.tmp 156)⟩,
 ⟨(some 158), (some (157, true)), .mov (.tmp 20)⟩,
 ⟨(some 159), (some (157, true)), .bin .eql (.tmp 158) (.lit (.int .i64 0))⟩,
 ⟨(some 160), none, .pick (.tmp 157) (.tmp 159) (.lit (.bool false))⟩,
 ⟨(some 161), none, .mov (.tmp 160)⟩,
 ⟨(some 162), (some (161, true)), .mov (.tmp 21)⟩,
 ⟨(some 163), (some (161, true)), .bin .eql (.tmp 162) (.lit (.int .i64 0))⟩,
 ⟨(some 164), none, .pick (.tmp 161) (.tmp 163) (.lit (.bool false))⟩,
 ⟨(some 165), none, .mov (.tmp 164)⟩,
 ⟨(some 166), (some (165, true)), .mov (.tmp 22)⟩,
 ⟨(some 167), (some (165, true)), .bin .eql (.tmp 166) (.lit (.int .i64 3))⟩,
 ⟨(some 168), none, .pick (.tmp 165) (.tmp 167) (.lit (.bool false))⟩,
 ⟨(some 169), none, .mov (.tmp 168)⟩,
 ⟨(some 170), (some (169, true)), .mov (.tmp 23)⟩,
 ⟨(some 171), (some (169, true)), .bin .eql (.tmp 170) (.lit (.int .i64 0))⟩,
 ⟨(some 172), none, .pick (.tmp 169) (.tmp 171) (.lit (.bool false))⟩,
 ⟨(some 173), none, .mov (.tmp 172)⟩,
 ⟨(some 174), (some (173, true)), .mov (.tmp 24)⟩,
 ⟨(some 175), (some (173, true)), .bin .eql (.tmp 174) (.lit (.int .i64 2))⟩,
 ⟨(some 176), none, .pick (.tmp 173) (.tmp 175) (.lit (.bool false))⟩,
 ⟨(some 177), none, .mov (.tmp 176)⟩,
 ⟨(some 178), (some (177, true)), .mov (.tmp 25)⟩,
 ⟨(some 179), (some (177, true)), .un .not (.tmp 178)⟩,
 ⟨(some 180), none, .pick (.tmp 177) (.tmp 179) (.lit (.bool false))⟩,
 ⟨(some 181), none, .mov (.tmp 180)⟩,
 ⟨(some 182), (some (181, true)), .mov (.tmp 26)⟩,
 ⟨(some 183), (some (181, true)), .bin .eql (.tmp 182) (.lit (.int .i64 0))⟩,
 ⟨(some 184), none, .pick (.tmp 181) (.tmp 183) (.lit (.bool false))⟩,
 ⟨(some 185), none, .mov (.tmp 184)⟩,
 ⟨(some 186), (some (185, true)), .mov (.tmp 27)⟩,
 ⟨(some 187), (some (185, true)), .bslice 1 (.int .i64 0) 2 [(0, (.lit (.int .i64 (-1)))), (1, (.lit (.int .i64 (-1))))]⟩,
 ⟨(some 188), (some (185, true)), .call (.fn 21) [(.tmp 186), (.tmp 187)]⟩,
 ⟨(some 189), none, .pick (.tmp 185) (.tmp 188) (.lit (.bool false))⟩,
 ⟨(some 190), none, .mov (.tmp 189)⟩,
 ⟨(some 191), (some (190, true)), .mov (.tmp 28)⟩,
 ⟨(some 192), (some (190, true)), .bin .eql (.tmp 191) (.lit (.int .i64 0))⟩,
 ⟨(some 193), none, .pick (.tmp 190) (.tmp 192) (.lit (.bool false))⟩,
 ⟨(some 194), none, .mov (.tmp 193)⟩,
 ⟨(some 195), (some (194, true)), .mov (.tmp 30)⟩,
 ⟨(some 196), (some (194, true)), .bin .eql (.tmp 195) (.lit (.int .i64 4))⟩,
 ⟨(some 197), none, .pick (.tmp 194) (.tmp 196) (.lit (.bool false))⟩,
 ⟨(some 0), none, .mov (.tmp 197)⟩])
 (.ret))))))))))))))))
theorem k3 : FnC Tryd.prog 3 198 [] [] [.tmp 0] c3 0 := ⟨Tryd.f3, _, Tryd.func3, rfl, by decide, rfl, by decide, by kernel_rfl, by kernel_rfl⟩
end Go.Proofs.YtnmmhkkmejbckaaDoor

/- WatchNames: the document's examples. -/
namespace Go.Proofs.YtnmmhkkmejbckaaDoor
open Go Go.Ab

theorem y1 : specShows (smp false 660) 0 600 = ([600], 0) := by decide +kernel
theorem y2 : specShows (smp false 660) 2 660 = ([655], 0) := by decide +kernel
theorem y3 : specShows (smp false 660) 2 599 = ([], 11) := by decide +kernel
theorem y4 : specFits (smp false 660) 1 = (5, 0) := by decide +kernel
theorem y5 : specFits (smp true 656) 2 = (4, 0) := by decide +kernel
theorem y6 : specStopped (smp true 660) 2 0 = ([], 4) := by decide +kernel
theorem y7 : specStopped (smp true 660) 0 0 = ([], 11) := by decide +kernel
theorem y8 : specCount (smp true 660) = (1, 0) := by decide +kernel
theorem y9 : specCount (smp true 656) = (0, 0) := by decide +kernel
theorem y10 : specCan (smp false 660) 0 = (3, 0) := by decide +kernel
theorem y11 : specWhere (smp true 660) 0 = (2, false, 0) := by decide +kernel
theorem y12 : specSure (smp false 660) = ([-1, -1], 0) := by decide +kernel
theorem y13 : specClash (smp true 660) = (0, 4) := by decide +kernel
set_option maxRecDepth 8000 in
set_option maxHeartbeats 4000000 in
theorem WatchNames_ok : ACall Tryd.prog 3 [] [] (ret (vb true)) := by
  have hs1 := sample_ok false 660
  have hs2 := sample_ok true 660
  have hs3 := sample_ok true 656
  have h1 := Shows_ok (smp false 660) 0 600 (smp_lens _ _)
  have h2 := Shows_ok (smp false 660) 2 660 (smp_lens _ _)
  have h3 := Shows_ok (smp false 660) 2 599 (smp_lens _ _)
  have h4 := Fits_ok (smp false 660) 1 (smp_lens _ _)
  have h5 := Fits_ok (smp true 656) 2 (smp_lens _ _)
  have h6 := Stopped_ok (smp true 660) 2 0 (smp_lens _ _)
  have h7 := Stopped_ok (smp true 660) 0 0 (smp_lens _ _)
  have h8 := Count_ok (smp true 660) (smp_lens _ _)
  have h9 := Count_ok (smp true 656) (smp_lens _ _)
  have h10 := Can_ok (smp false 660) 0 (smp_lens _ _)
  have h11 := Where_ok (smp true 660) 0 (smp_lens _ _)
  have h12 := Sure_ok (smp false 660) (smp_lens _ _)
  have h13 := Clash_ok (smp true 660) (smp_lens _ _)
  rw [y1] at h1
  rw [y2] at h2
  rw [y3] at h3
  rw [y4] at h4
  rw [y5] at h5
  rw [y6] at h6
  rw [y7] at h7
  rw [y8] at h8
  rw [y9] at h9
  rw [y10] at h10
  rw [y11] at h11
  rw [y12] at h12
  rw [y13] at h13
  have i1 := ints_ok [600] [600] (by decide)
  have i2 := ints_ok [655] [655] (by decide)
  have i3 := ints_ok [-1, -1] [-1, -1] (by decide)
  rw [decide_eq_true rfl] at i1 i2 i3
  have e1 : tI [600] = .slice 1 [vi 600] := rfl
  have e2 : tI [655] = .slice 1 [vi 655] := rfl
  have e3 : tI [-1, -1] = .slice 1 [vi (-1), vi (-1)] := rfl
  rw [e1] at i1
  rw [e2] at i2
  rw [e3] at i3
  have ha := alive_ok
  unfold tWa wa2 at h1 h2 h3 h4 h5 h6 h7 h8 h9 h10 h11 h12 h13 hs1 hs2 hs3
  generalize (smp false 660).os.map tOw = A1 at *
  generalize (smp false 660).fs.map tFi = A2 at *
  generalize (smp true 660).os.map tOw = B1 at *
  generalize (smp true 660).fs.map tFi = B2 at *
  generalize (smp true 656).os.map tOw = C1 at *
  generalize (smp true 656).fs.map tFi = C2 at *
  refine ACall.walk k3 ?_
  unfold c3
  simp only [go_sem]
  refine ACallL.fresh1 hs1 rfl ?_
  simp only [go_sem, List.map_cons, List.map_nil]
  refine ACallL.fresh1 hs2 rfl ?_
  simp only [go_sem, List.map_cons, List.map_nil]
  refine ACallL.fresh1 hs3 rfl ?_
  simp only [go_sem, Nat.reduceEqDiff, Nat.reduceAdd, undef, List.map_cons, List.map_nil]
  refine ACallL.fresh1 h1 rfl ?_
  simp only [go_sem, Nat.reduceEqDiff, Nat.reduceAdd, lsE, List.map_cons, List.map_nil]
  refine ACallL.fresh1 h2 rfl ?_
  simp only [go_sem, Nat.reduceEqDiff, Nat.reduceAdd, lsE, List.map_cons, List.map_nil]
  refine ACallL.fresh1 h3 rfl ?_
  simp only [go_sem, Nat.reduceEqDiff, Nat.reduceAdd, Int.reduceEq, lsE, List.map_cons, List.map_nil]
  refine ACallL.quiet1 h4 rfl rfl rfl ?_
  simp only [go_sem, Nat.reduceEqDiff, Nat.reduceAdd, oneE, List.map_cons, List.map_nil]
  refine ACallL.quiet1 h5 rfl rfl rfl ?_
  simp only [go_sem, Nat.reduceEqDiff, Nat.reduceAdd, oneE, List.map_cons, List.map_nil]
  refine ACallL.fresh1 h6 rfl ?_
  simp only [go_sem, Nat.reduceEqDiff, Nat.reduceAdd, Int.reduceEq, spsE, List.map_cons, List.map_nil]
  refine ACallL.fresh1 h7 rfl ?_
  simp only [go_sem, Nat.reduceEqDiff, Nat.reduceAdd, Int.reduceEq, spsE, List.map_cons, List.map_nil]
  refine ACallL.quiet1 h8 rfl rfl rfl ?_
  simp only [go_sem, Nat.reduceEqDiff, Nat.reduceAdd, oneE, List.map_cons, List.map_nil]
  refine ACallL.quiet1 h9 rfl rfl rfl ?_
  simp only [go_sem, Nat.reduceEqDiff, Nat.reduceAdd, oneE, List.map_cons, List.map_nil]
  refine ACallL.quiet1 h10 rfl rfl rfl ?_
  simp only [go_sem, Nat.reduceEqDiff, Nat.reduceAdd, oneE, List.map_cons, List.map_nil]
  refine ACallL.quiet1 h11 rfl rfl rfl ?_
  simp only [go_sem, Nat.reduceEqDiff, Nat.reduceAdd, whrE, List.map_cons, List.map_nil]
  refine ACallL.fresh1 h12 rfl ?_
  simp only [go_sem, Nat.reduceEqDiff, Nat.reduceAdd, Int.reduceNeg, lsE, List.map_cons, List.map_nil]
  refine ACallL.quiet1 h13 rfl rfl rfl ?_
  simp only [go_sem, Nat.reduceEqDiff, Int.reduceNeg, beq_self_eq_true, oneE, List.map_nil]
  refine ACallL.quiet1 ha rfl rfl rfl ?_
  simp only [go_sem, Nat.reduceEqDiff, Nat.reduceAdd, Nat.reduceLT, Int.reduceNeg, beq_self_eq_true, List.map_cons, List.map_nil]
  refine ACallL.quiet1 i1 rfl rfl rfl ?_
  simp only [go_sem, Nat.reduceEqDiff, Nat.reduceAdd, Nat.reduceLT, Int.reduceNeg, beq_self_eq_true, List.map_cons, List.map_nil]
  refine ACallL.quiet1 i2 rfl rfl rfl ?_
  simp only [go_sem, Nat.reduceEqDiff, Nat.reduceAdd, Nat.reduceLT, Bool.not_false, Int.reduceNeg, beq_self_eq_true, List.map_cons, List.map_nil]
  refine ACallL.quiet1 i3 rfl rfl rfl ?_
  simp only [go_sem, Nat.reduceEqDiff, Int.reduceNeg, beq_self_eq_true]
  exact finL_ret [] ⟨rfl, rfl, rfl, rfl, _, rfl, res_mk rfl⟩
end Go.Proofs.YtnmmhkkmejbckaaDoor
