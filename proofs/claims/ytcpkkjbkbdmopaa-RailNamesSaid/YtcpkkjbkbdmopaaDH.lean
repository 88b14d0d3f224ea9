/- Proved here: laws that the statements need (RaC35, RaR5). No conditions but those that each law states. -/
import Derived.Test.YtcpkkjbkbdmopaaFL
import Derived.Test.YtcpkkjbkbdmopaaFP
import Derived.Test.YtcpkkjbkbdmopaaProg
import Derived.Test.YtcpkkjbkbdmopaaDF

set_option linter.unusedSimpArgs false
set_option linter.unusedVariables false

/- Compiled code of functions, printed by program; each is checked to be the program's. No conditions. -/
namespace Go.Proofs.Ytcpkkjbkbdmopaa
open Go Go.Ab
/-- dipworks/dipworkslaw11.RailNames -/
def c5 : AC :=
 .seq (.reg [⟨(some 0), none, .mov (.lit (.bool false))⟩])
 (.seq (.reg [⟨(some 26), none, .call (.fn 31) []⟩,
 ⟨(some 27), none, .call (.fn 25) [(.tmp 26), (.lit (.int .i64 1))]⟩,
 ⟨(some 25), none, .mov (.tmp 27)⟩,
 ⟨(some 28), none, .ext (.tmp 25) 0⟩,
 ⟨(some 29), none, .ext (.tmp 25) 1⟩,
 ⟨(some 1), none, .alloc [(.int .i64 0), (.int .i64 0)]⟩,
 ⟨none, none, .store 2 (.tmp 1) (.tmp 28)⟩,
 ⟨(some 2), none, .mov (.tmp 29)⟩])
 (.seq (.reg [⟨(some 31), none, .call (.fn 31) []⟩,
 ⟨(some 32), none, .call (.fn 27) [(.tmp 31), (.lit (.int .i64 0))]⟩,
 ⟨(some 30), none, .mov (.tmp 32)⟩,
 ⟨(some 33), none, .ext (.tmp 30) 0⟩,
 ⟨(some 34), none, .ext (.tmp 30) 1⟩,
 ⟨(some 3), none, .alloc [(.int .i64 0), (.int .i64 0)]⟩,
 ⟨none, none, .store 2 (.tmp 3) (.tmp 33)⟩,
 ⟨(some 4), none, .mov (.tmp 34)⟩])
 (.seq (.reg [⟨(some 36), none, .call (.fn 31) []⟩,
 ⟨(some 37), none, .call (.fn 27) [(.tmp 36), (.lit (.int .i64 4))]⟩,
 ⟨(some 35), none, .mov (.tmp 37)⟩,
 ⟨(some 38), none, .ext (.tmp 35) 0⟩,
 ⟨(some 39), none, .ext (.tmp 35) 1⟩,
 ⟨(some 5), none, .alloc [(.int .i64 0), (.int .i64 0)]⟩,
 ⟨none, none, .store 2 (.tmp 5) (.tmp 38)⟩,
 ⟨(some 6), none, .mov (.tmp 39)⟩])
 (.seq (.reg [⟨(some 41), none, .call (.fn 31) []⟩,
 ⟨(some 42), none, .call (.fn 29) [(.tmp 41), (.lit (.int .i64 4)), (.lit (.int .i64 2))]⟩,
 ⟨(some 40), none, .mov (.tmp 42)⟩,
 ⟨(some 43), none, .ext (.tmp 40) 0⟩,
 ⟨(some 44), none, .ext (.tmp 40) 1⟩,
 ⟨(some 7), none, .mov (.tmp 43)⟩,
 ⟨(some 8), none, .mov (.tmp 44)⟩])
 (.seq (.reg [⟨(some 46), none, .call (.fn 31) []⟩,
 ⟨(some 47), none, .call (.fn 29) [(.tmp 46), (.lit (.int .i64 2)), (.lit (.int .i64 8))]⟩,
 ⟨(some 45), none, .mov (.tmp 47)⟩,
 ⟨(some 48), none, .ext (.tmp 45) 0⟩,
 ⟨(some 49), none, .ext (.tmp 45) 1⟩,
 ⟨(some 9), none, .mov (.tmp 48)⟩,
 ⟨(some 10), none, .mov (.tmp 49)⟩])
 (.seq (.reg [⟨(some 51), none, .call (.fn 31) []⟩,
 ⟨(some 52), none, .call (.fn 14) [(.tmp 51), (.lit (.int .i64 0))]⟩,
 ⟨(some 50), none, .mov (.tmp 52)⟩,
 ⟨(some 53), none, .ext (.tmp 50) 0⟩,
 ⟨(some 54), none, .ext (.tmp 50) 1⟩,
 ⟨(some 11), none, .alloc [(.int .i64 0), (.int .i64 0)]⟩,
 ⟨none, none, .store 2 (.tmp 11) (.tmp 53)⟩,
 ⟨(some 12), none, .mov (.tmp 54)⟩])
 (.seq (.reg [⟨(some 56), none, .call (.fn 31) []⟩,
 ⟨(some 57), none, .call (.fn 14) [(.tmp 56), (.lit (.int .i64 4))]⟩,
 ⟨(some 55), none, .mov (.tmp 57)⟩,
 ⟨(some 58), none, .ext (.tmp 55) 0⟩,
 ⟨(some 59), none, .ext (.tmp 55) 1⟩,
 ⟨(some 13), none, .alloc [(.int .i64 0), (.int .i64 0)]⟩,
 ⟨none, none, .store 2 (.tmp 13) (.tmp 58)⟩,
 ⟨(some 14), none, .mov (.tmp 59)⟩])
 (.seq (.reg [⟨(some 61), none, .call (.fn 31) []⟩,
 ⟨(some 62), none, .call (.fn 32) [(.tmp 61), (.lit (.int .i64 3)), (.lit (.int .i64 14))]⟩,
 ⟨(some 60), none, .mov (.tmp 62)⟩,
 ⟨(some 63), none, .ext (.tmp 60) 0⟩,
 ⟨(some 64), none, .ext (.tmp 60) 1⟩,
 ⟨(some 15), none, .mov (.tmp 63)⟩,
 ⟨(some 16), none, .mov (.tmp 64)⟩])
 (.seq (.reg [⟨(some 66), none, .call (.fn 31) []⟩,
 ⟨(some 67), none, .call (.fn 33) [(.tmp 66), (.lit (.int .i64 7))]⟩,
 ⟨(some 65), none, .mov (.tmp 67)⟩,
 ⟨(some 68), none, .ext (.tmp 65) 0⟩,
 ⟨(some 69), none, .ext (.tmp 65) 1⟩,
 ⟨(some 17), none, .mov (.tmp 68)⟩,
 ⟨(some 18), none, .mov (.tmp 69)⟩])
 (.seq (.reg [⟨(some 71), none, .call (.fn 31) []⟩,
 ⟨(some 72), none, .call (.fn 33) [(.tmp 71), (.lit (.int .i64 17))]⟩,
 ⟨(some 70), none, .mov (.tmp 72)⟩,
 ⟨(some 73), none, .ext (.tmp 70) 0⟩,
 ⟨(some 74), none, .ext (.tmp 70) 1⟩,
 ⟨(some 19), none, .mov (.tmp 73)⟩,
 ⟨(some 20), none, .mov (.tmp 74)⟩])
 (.seq (.reg [⟨(some 76), none, .call (.fn 31) []⟩,
 ⟨(some 77), none, .call (.fn 34) [(.tmp 76), (.lit (.int .i64 4)), (.lit (.int .i64 16))]⟩,
 ⟨(some 75), none, .mov (.tmp 77)⟩,
 ⟨(some 78), none, .ext (.tmp 75) 0⟩,
 ⟨(some 79), none, .ext (.tmp 75) 1⟩,
 ⟨(some 21), none, .mov (.tmp 78)⟩,
 ⟨(some 22), none, .mov (.tmp 79)⟩])
 (.seq (.reg [⟨(some 81), none, .call (.fn 36) [(.lit (.int .i64 5)), (.lit (.int .i64 5))]⟩,
 ⟨(some 82), none, .call (.fn 35) [(.tmp 81)]⟩,
 ⟨(some 83), none, .call (.fn 14) [(.tmp 82), (.lit (.int .i64 3))]⟩,
 ⟨(some 80), none, .mov (.tmp 83)⟩,
 ⟨(some 84), none, .ext (.tmp 80) 0⟩,
 ⟨(some 85), none, .ext (.tmp 80) 1⟩,
 ⟨(some 23), none, .alloc [(.int .i64 0), (.int .i64 0)]⟩,
 ⟨none, none, .store 2 (.tmp 23) (.tmp 84)⟩,
 ⟨(some 24), none, .mov (.tmp 85)⟩])
 (.seq (.draw (.step ⟨(some 86), none, .mov (.lit (.bool true))⟩ (
 .ev ⟨(some 87), (some (86, true)), .call (.fn 24) []⟩ [] (
 .step ⟨(some 88), none, .pick (.tmp 86) (.tmp 87) (.lit (.bool false))⟩ (
 .step ⟨(some 89), none, .mov (.tmp 88)⟩ (
 .step ⟨(some 90), (some (89, true)), .load true 2 (.tmp 1)⟩ (
 .ev ⟨(some 91), (some (89, true)), .call (.fn 36) [(.lit (.int .i64 4)), (.lit (.int .i64 4))]⟩ [⟨(some 90), (some (89, true)), .load true 2 (.tmp 1)⟩] (
 .step ⟨(some 92), (some (89, true)), .eqs false [(some .i64), (some .i64)] (.tmp 90) (.tmp 91)⟩ (
 .step ⟨(some 93), none, .pick (.tmp 89) (.tmp 92) (.lit (.bool false))⟩ (
 .step ⟨(some 94), none, .mov (.tmp 93)⟩ (
 .step ⟨(some 95), (some (94, true)), .mov (.tmp 2)⟩ (
 .step ⟨(some 96), (some (94, true)), .bin .eql (.tmp 95) (.lit (.int .i64 0))⟩ (
 .step ⟨(some 97), none, .pick (.tmp 94) (.tmp 96) (.lit (.bool false))⟩ (
 .step ⟨(some 98), none, .mov (.tmp 97)⟩ (
 .step ⟨(some 99), (some (98, true)), .load true 2 (.tmp 3)⟩ (
 .ev ⟨(some 100), (some (98, true)), .call (.fn 36) [(.lit (.int .i64 9)), (.lit (.int .i64 9))]⟩ [⟨(some 99), (some (98, true)), .load true 2 (.tmp 3)⟩, ⟨(some 92), (some (89, true)), .eqs false [(some .i64), (some .i64)] (.tmp 90) (.tmp 91)⟩, ⟨(some 90), (some (89, true)), .load true 2 (.tmp 1)⟩] (
 .step ⟨(some 101), (some (98, true)), .eqs false [(some .i64), (some .i64)] (.tmp 99) (.tmp 100)⟩ (
 .step ⟨(some 102), none, .pick (.tmp 98) (.tmp 101) (.lit (.bool false))⟩ (
 .step ⟨(some 103), none, .mov (.tmp 102)⟩ (
 .step ⟨(some 104), (some (103, true)), .mov (.tmp 4)⟩ (
 .step ⟨(some 105), (some (103, true)), .bin .eql (.tmp 104) (.lit (.int .i64 0))⟩ (
 .step ⟨(some 106), none, .pick (.tmp 103) (.tmp 105) (.lit (.bool false))⟩ (
 .step ⟨(some 107), none, .mov (.tmp 106)⟩ (
 .step ⟨(some 108), (some (107, true)), .load true 2 (.tmp 5)⟩ (
 .ev ⟨(some 109), (some (107, true)), .call (.fn 36) [(.lit (.int .i64 0)), (.lit (.int .i64 0))]⟩ [⟨(some 108), (some (107, true)), .load true 2 (.tmp 5)⟩, ⟨(some 101), (some (98, true)), .eqs false [(some .i64), (some .i64)] (.tmp 99) (.tmp 100)⟩, ⟨(some 99), (some (98, true)), .load true 2 (.tmp 3)⟩, ⟨(some 92), (some (89, true)), .eqs false [(some .i64), (some .i64)] (.tmp 90) (.tmp 91)⟩, ⟨(some 90), (some (89, true)), .load true 2 (.tmp 1)⟩] (
 .step ⟨(some 110), (some (107, true)), .eqs false [(some .i64), (some .i64)] (.tmp 108) (.tmp 109)⟩ (
 .step ⟨(some 111), none, .pick (.tmp 107) (.tmp 110) (.lit (.bool false))⟩ (
 .step ⟨(some 112), none, .mov (.tmp 111)⟩ (
 .step ⟨(some 113), (some (112, true)), .mov (.tmp 6)⟩ (
 .step ⟨(some 114), (some (112, true)), .bin .eql (.tmp 113) (.lit (.int .i64 0))⟩ (
 .step ⟨(some 115), none, .pick (.tmp 112) (.tmp 114) (.lit (.bool false))⟩ (
 .step ⟨(some 116), none, .mov (.tmp 115)⟩ (
 .step ⟨(some 117), (some (116, true)), .mov (.tmp 8)⟩ (
 .step ⟨(some 118), (some (116, true)), .bin .eql (.tmp 117) (.lit (.int .i64 4))⟩ (
 .step ⟨(some 119), none, .pick (.tmp 116) (.tmp 118) (.lit (.bool false))⟩ (
 .step ⟨(some 120), none, .mov (.tmp 119)⟩ (
 .step ⟨(some 121), (some (120, true)), .mov (.tmp 9)⟩ (
 .step ⟨(some 122), (some (120, true)), .bin .eql (.tmp 121) (.lit (.int .i64 6))⟩ (
 .step ⟨(some 123), none, .pick (.tmp 120) (.tmp 122) (.lit (.bool false))⟩ (
 .step ⟨(some 124), none, .mov (.tmp 123)⟩ (
 .step ⟨(some 125), (some (124, true)), .mov (.tmp 10)⟩ (
 .step ⟨(some 126), (some (124, true)), .bin .eql (.tmp 125) (.lit (.int .i64 0))⟩ (
 .step ⟨(some 127), none, .pick (.tmp 124) (.tmp 126) (.lit (.bool false))⟩ (
 .step ⟨(some 128), none, .mov (.tmp 127)⟩ (
 .step ⟨(some 129), (some (128, true)), .load true 2 (.tmp 11)⟩ (
 .ev ⟨(some 130), (some (128, true)), .call (.fn 36) [(.lit (.int .i64 7)), (.lit (.int .i64 8))]⟩ [⟨(some 129), (some (128, true)), .load true 2 (.tmp 11)⟩, ⟨(some 110), (some (107, true)), .eqs false [(some .i64), (some .i64)] (.tmp 108) (.tmp 109)⟩, ⟨(some 108), (some (107, true)), .load true 2 (.tmp 5)⟩, ⟨(some 101), (some (98, true)), .eqs false [(some .i64), (some .i64)] (.tmp 99) (.tmp 100)⟩, ⟨(some 99), (some (98, true)), .load true 2 (.tmp 3)⟩, ⟨(some 92), (some (89, true)), .eqs false [(some .i64), (some .i64)] (.tmp 90) (.tmp 91)⟩, ⟨(some 90), (some (89, true)), .load true 2 (.tmp 1)⟩] (
 .step ⟨(some 131), (some (128, true)), .eqs false [(some .i64), (some .i64)] (.tmp 129) (.tmp 130)⟩ (
 .step ⟨(some 132), none, .pick (.tmp 128) (.tmp 131) (.lit (.bool false))⟩ (
 .step ⟨(some 133), none, .mov (.tmp 132)⟩ (
 .step ⟨(some 134), (some (133, true)), .mov (.tmp 12)⟩ (
 .step ⟨(some 135), (some (133, true)), .bin .eql (.tmp 134) (.lit (.int .i64 0))⟩ (
 .step ⟨(some 136), none, .pick (.tmp 133) (.tmp 135) (.lit (.bool false))⟩ (
 .step ⟨(some 137), none, .mov (.tmp 136)⟩ (
 .step ⟨(some 138), (some (137, true)), .load true 2 (.tmp 13)⟩ (
 .ev ⟨(some 139), (some (137, true)), .call (.fn 36) [(.lit (.int .i64 16)), (.lit (.int .i64 17))]⟩ [⟨(some 138), (some (137, true)), .load true 2 (.tmp 13)⟩, ⟨(some 131), (some (128, true)), .eqs false [(some .i64), (some .i64)] (.tmp 129) (.tmp 130)⟩, ⟨(some 129), (some (128, true)), .load true 2 (.tmp 11)⟩, ⟨(some 110), (some (107, true)), .eqs false [(some .i64), (some .i64)] (.tmp 108) (.tmp 109)⟩, ⟨(some 108), (some (107, true)), .load true 2 (.tmp 5)⟩, ⟨(some 101), (some (98, true)), .eqs false [(some .i64), (some .i64)] (.tmp 99) (.tmp 100)⟩, ⟨(some 99), (some (98, true)), .load true 2 (.tmp 3)⟩, ⟨(some 92), (some (89, true)), .eqs false [(some .i64), (some .i64)] (.tmp 90) (.tmp 91)⟩, ⟨(some 90), (some (89, true)), .load true 2 (.tmp 1)⟩] (
 .step ⟨(some 140), (some (137, true)), .eqs false [(some .i64), (some .i64)] (.tmp 138) (.tmp 139)⟩ (
 .step ⟨(some 141), none, .pick (.tmp 137) (.tmp 140) (.lit (.bool false))⟩ (
 .step ⟨(some 142), none, .mov (.tmp 141)⟩ (
 .step ⟨(some 143), (some (142, true)), .mov (.tmp 14)⟩ (
 .step ⟨(some 144), (some (142, true)), .bin .eql (.tmp 143) (.lit (.int .i64 0))⟩ (
 .step ⟨(some 145), none, .pick (.tmp 142) (.tmp 144) (.lit (.bool false))⟩ (
 .step ⟨(some 146), none, .mov (.tmp 145)⟩ (
 .step ⟨(some 147), (some (146, true)), .mov (.tmp 15)⟩ (
 .step ⟨(some 148), (some (146, true)), .bin .eql (.tmp 147) (.lit (.int .i64 0))⟩ (
 .step ⟨(some 149), none, .pick (.tmp 146) (.tmp 148) (.lit (.bool false))⟩ (
 .step ⟨(some 150), none, .mov (.tmp 149)⟩ (
 .step ⟨(some 151), (some (150, true)), .mov (.tmp 16)⟩ (
 .step ⟨(some 152), (some (150, true)), .bin .eql (.tmp 151) (.lit (.int .i64 0))⟩ (
 .step ⟨(some 153), none, .pick (.tmp 150) (.tmp 152) (.lit (.bool false))⟩ (
 .step ⟨(some 154), none, .mov (.tmp 153)⟩ (
 .step ⟨(some 155), (some (154, true)), .mov (.tmp 17)⟩ (
 .step ⟨(some 156), (some (154, true)), .bin .eql (.tmp 155) (.lit (.int .i64 0))⟩ (
 .step ⟨(some 157), none, .pick (.tmp 154) (.tmp 156) (.lit (.bool false))⟩ (
 .step ⟨(some 158), none, .mov (.tmp 157)⟩ (
 .step ⟨(some 159), (some (158, true)), .mov (.tmp 18)⟩ (
 .step ⟨(some 160), (some (158, true)), .bin .eql (.tmp 159) (.lit (.int .i64 0))⟩ (
 .step ⟨(some 161), none, .pick (.tmp 158) (.tmp 160) (.lit (.bool false))⟩ (
 .step ⟨(some 162), none, .mov (.tmp 161)⟩ (
 .step ⟨(some 163), (some (162, true)), .mov (.tmp 20)⟩ (
 .step ⟨(some 164), (some (162, true)), .bin .eql (.tmp 163) (.lit (.int .i64 4))⟩ (
 .step ⟨(some 165), none, .pick (.tmp 162) (.tmp 164) (.lit (.bool false))⟩ (
 .step ⟨(some 166), none, .mov (.tmp 165)⟩ (
 .step ⟨(some 167), (some (166, true)), .mov (.tmp 21)⟩ (
 .step ⟨(some 168), (some (166, true)), .bin .eql (.tmp 167) (.lit (.int .i64 0))⟩ (
 .step ⟨(some 169), none, .pick (.tmp 166) (.tmp 168) (.lit (.bool false))⟩ (
 .step ⟨(some 170), none, .mov (.tmp 169)⟩ (
 .step ⟨(some 171), (some (170, true)), .mov (.tmp 22)⟩ (
 .step ⟨(some 172), (some (170, true)), .bin .eql (.tmp 171) (.lit (.int .i64 0))⟩ (
 .step ⟨(some 173), none, .pick (.tmp 170) (.tmp 172) (.lit (.bool false))⟩ (
 .step ⟨(some 174), none, .mov (.tmp 173)⟩ (
 .step ⟨(some 175), (some (174, true)), .mov (.tmp 24)⟩ (
 .step ⟨(some 176), (some (174, true)), .bin .eql (.tmp 175) (.lit (.int .i64 10))⟩ (
 .step ⟨(some 177), none, .pick (.tmp 174) (.tmp 176) (.lit (.bool false))⟩ (
 .step ⟨(some 0), none, .mov (.tmp 177)⟩ (
 .done))))))))))))))))))))))))))))))))))))))))
 (.stop))))))))))
 (.stop))))))))))))))))))))))
 (.stop))))))))))
 (.stop))))))))))
 (.stop)))))
 (.stop))))
 (.ret))))))))))))))
theorem k5 : FnC Try.prog 5 178 [] [] [.tmp 0] c5 0 := ⟨Try.f5, _, Try.func5, rfl, by decide, rfl, by decide, by kernel_rfl, by kernel_rfl⟩
end Go.Proofs.Ytcpkkjbkbdmopaa

/- RailNames: the values, and the chapter's examples. -/
namespace Go.Proofs.Ytcpkkjbkbdmopaa
open Go Go.Ab

theorem nmx1 : specDry W0 1 = ((4, 4), 0) := by decide +kernel
theorem nmx2 : specWet W0 0 = ((9, 9), 0) := by decide +kernel
theorem nmx3 : specWet W0 4 = ((0, 0), 0) := by decide +kernel
theorem nmx4 : specLatest W0 4 2 = (0, 4) := by decide +kernel
theorem nmx5 : specLatest W0 2 8 = (6, 0) := by decide +kernel
theorem nmx6 : specReady W0 0 = ((7, 8), 0) := by decide +kernel
theorem nmx7 : specReady W0 4 = ((16, 17), 0) := by decide +kernel
theorem nmx8 : specEnough W0 3 14 = (0, 0) := by decide +kernel
theorem nmx9 : specWhen W0 7 = (0, 0) := by decide +kernel
theorem nmx10 : specWhen W0 17 = (0, 4) := by decide +kernel
theorem nmx11 : specBuy W0 4 16 = (0, 0) := by decide +kernel
theorem nmx12 : specReady (smp (5, 5)) 3 = ((0, 0), 10) := by decide +kernel

set_option maxRecDepth 8000 in
set_option maxHeartbeats 8000000 in
theorem RailNames_ok : ACall Try.prog 5 [] [] (ret (vb true)) := by
  have hw := whole_ok
  have hal := alive_ok
  have hsm := sample_ok (5, 5)
  have h12 := Ready_ok (smp (5, 5)) 3 (lensW _)
  rw [nmx12] at h12
  have h0 := Dry_ok W0 1 (lensW _)
  rw [nmx1] at h0
  have h1 := Wet_ok W0 0 (lensW _)
  rw [nmx2] at h1
  have h2 := Wet_ok W0 4 (lensW _)
  rw [nmx3] at h2
  have h3 := Latest_ok W0 4 2 (lensW _)
  rw [nmx4] at h3
  have h4 := Latest_ok W0 2 8 (lensW _)
  rw [nmx5] at h4
  have h5 := Ready_ok W0 0 (lensW _)
  rw [nmx6] at h5
  have h6 := Ready_ok W0 4 (lensW _)
  rw [nmx7] at h6
  have h7 := Enough_ok W0 3 14 (lensW _)
  rw [nmx8] at h7
  have h8 := WhenT_ok W0 7 (lensW _) (fun _ => exT)
  rw [nmx9] at h8
  have h9 := WhenT_ok W0 17 (lensW _) (fun _ => exT)
  rw [nmx10] at h9
  have h10 := Buy_ok W0 4 16 (lensW _)
  rw [nmx11] at h10
  refine ACall.walk k5 ?_
  unfold c5
  generalize tRa W0 = X at *
  generalize tRa (smp (5, 5)) = Y at *
  have sp := fun a b {σ R} => @spanL a b σ R
  have step : ∀ {σ : List AO} {R : Lz (Out → List AO → Prop)}, R.get (.ret (.t X)) σ → @ACallL Try.prog 31 [] σ R := fun h => ACallL.fresh1 hw rfl h
  simp only [spanE, oneE, tS] at h0 h1 h2 h3 h4 h5 h6 h7 h8 h9 h10 h12
  simp only [tS] at hsm
  simp only [go_sem, Nat.reduceEqDiff, Nat.reduceAdd, Nat.reduceSub, Nat.reduceMul, Nat.reduceLT, Nat.reduceLeDiff, Nat.reduceMod, Nat.reduceDiv, Int.reduceToNat, Int.reduceLT, Int.reduceLE, Bool.not_true, Bool.not_false, reduceIte, Int.reduceEq, Int.reduceBEq, Int.reduceBNe, Int.reduceGT, Int.reduceGE, Int.reduceNeg, Int.reduceAdd, Int.reduceSub, Nat.reduceBEq, decide_true, decide_false, undef, beq_self_eq_true, bne_self_eq_false, Bool.and_true, Bool.true_and, Bool.and_false, Bool.false_and, Bool.or_true, Bool.true_or, Bool.or_false, Bool.false_or]
  refine step ?_
  simp only [go_sem, Nat.reduceEqDiff, Nat.reduceAdd, Nat.reduceSub, Nat.reduceMul, Nat.reduceLT, Nat.reduceLeDiff, Nat.reduceMod, Nat.reduceDiv, Int.reduceToNat, Int.reduceLT, Int.reduceLE, Bool.not_true, Bool.not_false, reduceIte, Int.reduceEq, Int.reduceBEq, Int.reduceBNe, Int.reduceGT, Int.reduceGE, Int.reduceNeg, Int.reduceAdd, Int.reduceSub, Nat.reduceBEq, decide_true, decide_false, undef, beq_self_eq_true, bne_self_eq_false, Bool.and_true, Bool.true_and, Bool.and_false, Bool.false_and, Bool.or_true, Bool.true_or, Bool.or_false, Bool.false_or]
  refine ACallL.fresh1 h0 rfl ?_
  simp only [go_sem, Nat.reduceEqDiff, Nat.reduceAdd, Nat.reduceSub, Nat.reduceMul, Nat.reduceLT, Nat.reduceLeDiff, Nat.reduceMod, Nat.reduceDiv, Int.reduceToNat, Int.reduceLT, Int.reduceLE, Bool.not_true, Bool.not_false, reduceIte, Int.reduceEq, Int.reduceBEq, Int.reduceBNe, Int.reduceGT, Int.reduceGE, Int.reduceNeg, Int.reduceAdd, Int.reduceSub, Nat.reduceBEq, decide_true, decide_false, undef, beq_self_eq_true, bne_self_eq_false, Bool.and_true, Bool.true_and, Bool.and_false, Bool.false_and, Bool.or_true, Bool.true_or, Bool.or_false, Bool.false_or]
  refine step ?_
  simp only [go_sem, Nat.reduceEqDiff, Nat.reduceAdd, Nat.reduceSub, Nat.reduceMul, Nat.reduceLT, Nat.reduceLeDiff, Nat.reduceMod, Nat.reduceDiv, Int.reduceToNat, Int.reduceLT, Int.reduceLE, Bool.not_true, Bool.not_false, reduceIte, Int.reduceEq, Int.reduceBEq, Int.reduceBNe, Int.reduceGT, Int.reduceGE, Int.reduceNeg, Int.reduceAdd, Int.reduceSub, Nat.reduceBEq, decide_true, decide_false, undef, beq_self_eq_true, bne_self_eq_false, Bool.and_true, Bool.true_and, Bool.and_false, Bool.false_and, Bool.or_true, Bool.true_or, Bool.or_false, Bool.false_or]
  refine ACallL.fresh1 h1 rfl ?_
  simp only [go_sem, Nat.reduceEqDiff, Nat.reduceAdd, Nat.reduceSub, Nat.reduceMul, Nat.reduceLT, Nat.reduceLeDiff, Nat.reduceMod, Nat.reduceDiv, Int.reduceToNat, Int.reduceLT, Int.reduceLE, Bool.not_true, Bool.not_false, reduceIte, Int.reduceEq, Int.reduceBEq, Int.reduceBNe, Int.reduceGT, Int.reduceGE, Int.reduceNeg, Int.reduceAdd, Int.reduceSub, Nat.reduceBEq, decide_true, decide_false, undef, beq_self_eq_true, bne_self_eq_false, Bool.and_true, Bool.true_and, Bool.and_false, Bool.false_and, Bool.or_true, Bool.true_or, Bool.or_false, Bool.false_or]
  refine step ?_
  simp only [go_sem, Nat.reduceEqDiff, Nat.reduceAdd, Nat.reduceSub, Nat.reduceMul, Nat.reduceLT, Nat.reduceLeDiff, Nat.reduceMod, Nat.reduceDiv, Int.reduceToNat, Int.reduceLT, Int.reduceLE, Bool.not_true, Bool.not_false, reduceIte, Int.reduceEq, Int.reduceBEq, Int.reduceBNe, Int.reduceGT, Int.reduceGE, Int.reduceNeg, Int.reduceAdd, Int.reduceSub, Nat.reduceBEq, decide_true, decide_false, undef, beq_self_eq_true, bne_self_eq_false, Bool.and_true, Bool.true_and, Bool.and_false, Bool.false_and, Bool.or_true, Bool.true_or, Bool.or_false, Bool.false_or]
  refine ACallL.fresh1 h2 rfl ?_
  simp only [go_sem, Nat.reduceEqDiff, Nat.reduceAdd, Nat.reduceSub, Nat.reduceMul, Nat.reduceLT, Nat.reduceLeDiff, Nat.reduceMod, Nat.reduceDiv, Int.reduceToNat, Int.reduceLT, Int.reduceLE, Bool.not_true, Bool.not_false, reduceIte, Int.reduceEq, Int.reduceBEq, Int.reduceBNe, Int.reduceGT, Int.reduceGE, Int.reduceNeg, Int.reduceAdd, Int.reduceSub, Nat.reduceBEq, decide_true, decide_false, undef, beq_self_eq_true, bne_self_eq_false, Bool.and_true, Bool.true_and, Bool.and_false, Bool.false_and, Bool.or_true, Bool.true_or, Bool.or_false, Bool.false_or]
  refine step ?_
  simp only [go_sem, Nat.reduceEqDiff, Nat.reduceAdd, Nat.reduceSub, Nat.reduceMul, Nat.reduceLT, Nat.reduceLeDiff, Nat.reduceMod, Nat.reduceDiv, Int.reduceToNat, Int.reduceLT, Int.reduceLE, Bool.not_true, Bool.not_false, reduceIte, Int.reduceEq, Int.reduceBEq, Int.reduceBNe, Int.reduceGT, Int.reduceGE, Int.reduceNeg, Int.reduceAdd, Int.reduceSub, Nat.reduceBEq, decide_true, decide_false, undef, beq_self_eq_true, bne_self_eq_false, Bool.and_true, Bool.true_and, Bool.and_false, Bool.false_and, Bool.or_true, Bool.true_or, Bool.or_false, Bool.false_or]
  refine ACallL.fresh1 h3 rfl ?_
  simp only [go_sem, Nat.reduceEqDiff, Nat.reduceAdd, Nat.reduceSub, Nat.reduceMul, Nat.reduceLT, Nat.reduceLeDiff, Nat.reduceMod, Nat.reduceDiv, Int.reduceToNat, Int.reduceLT, Int.reduceLE, Bool.not_true, Bool.not_false, reduceIte, Int.reduceEq, Int.reduceBEq, Int.reduceBNe, Int.reduceGT, Int.reduceGE, Int.reduceNeg, Int.reduceAdd, Int.reduceSub, Nat.reduceBEq, decide_true, decide_false, undef, beq_self_eq_true, bne_self_eq_false, Bool.and_true, Bool.true_and, Bool.and_false, Bool.false_and, Bool.or_true, Bool.true_or, Bool.or_false, Bool.false_or]
  refine step ?_
  simp only [go_sem, Nat.reduceEqDiff, Nat.reduceAdd, Nat.reduceSub, Nat.reduceMul, Nat.reduceLT, Nat.reduceLeDiff, Nat.reduceMod, Nat.reduceDiv, Int.reduceToNat, Int.reduceLT, Int.reduceLE, Bool.not_true, Bool.not_false, reduceIte, Int.reduceEq, Int.reduceBEq, Int.reduceBNe, Int.reduceGT, Int.reduceGE, Int.reduceNeg, Int.reduceAdd, Int.reduceSub, Nat.reduceBEq, decide_true, decide_false, undef, beq_self_eq_true, bne_self_eq_false, Bool.and_true, Bool.true_and, Bool.and_false, Bool.false_and, Bool.or_true, Bool.true_or, Bool.or_false, Bool.false_or]
  refine ACallL.fresh1 h4 rfl ?_
  simp only [go_sem, Nat.reduceEqDiff, Nat.reduceAdd, Nat.reduceSub, Nat.reduceMul, Nat.reduceLT, Nat.reduceLeDiff, Nat.reduceMod, Nat.reduceDiv, Int.reduceToNat, Int.reduceLT, Int.reduceLE, Bool.not_true, Bool.not_false, reduceIte, Int.reduceEq, Int.reduceBEq, Int.reduceBNe, Int.reduceGT, Int.reduceGE, Int.reduceNeg, Int.reduceAdd, Int.reduceSub, Nat.reduceBEq, decide_true, decide_false, undef, beq_self_eq_true, bne_self_eq_false, Bool.and_true, Bool.true_and, Bool.and_false, Bool.false_and, Bool.or_true, Bool.true_or, Bool.or_false, Bool.false_or]
  refine step ?_
  simp only [go_sem, Nat.reduceEqDiff, Nat.reduceAdd, Nat.reduceSub, Nat.reduceMul, Nat.reduceLT, Nat.reduceLeDiff, Nat.reduceMod, Nat.reduceDiv, Int.reduceToNat, Int.reduceLT, Int.reduceLE, Bool.not_true, Bool.not_false, reduceIte, Int.reduceEq, Int.reduceBEq, Int.reduceBNe, Int.reduceGT, Int.reduceGE, Int.reduceNeg, Int.reduceAdd, Int.reduceSub, Nat.reduceBEq, decide_true, decide_false, undef, beq_self_eq_true, bne_self_eq_false, Bool.and_true, Bool.true_and, Bool.and_false, Bool.false_and, Bool.or_true, Bool.true_or, Bool.or_false, Bool.false_or]
  refine ACallL.fresh1 h5 rfl ?_
  simp only [go_sem, Nat.reduceEqDiff, Nat.reduceAdd, Nat.reduceSub, Nat.reduceMul, Nat.reduceLT, Nat.reduceLeDiff, Nat.reduceMod, Nat.reduceDiv, Int.reduceToNat, Int.reduceLT, Int.reduceLE, Bool.not_true, Bool.not_false, reduceIte, Int.reduceEq, Int.reduceBEq, Int.reduceBNe, Int.reduceGT, Int.reduceGE, Int.reduceNeg, Int.reduceAdd, Int.reduceSub, Nat.reduceBEq, decide_true, decide_false, undef, beq_self_eq_true, bne_self_eq_false, Bool.and_true, Bool.true_and, Bool.and_false, Bool.false_and, Bool.or_true, Bool.true_or, Bool.or_false, Bool.false_or]
  refine step ?_
  simp only [go_sem, Nat.reduceEqDiff, Nat.reduceAdd, Nat.reduceSub, Nat.reduceMul, Nat.reduceLT, Nat.reduceLeDiff, Nat.reduceMod, Nat.reduceDiv, Int.reduceToNat, Int.reduceLT, Int.reduceLE, Bool.not_true, Bool.not_false, reduceIte, Int.reduceEq, Int.reduceBEq, Int.reduceBNe, Int.reduceGT, Int.reduceGE, Int.reduceNeg, Int.reduceAdd, Int.reduceSub, Nat.reduceBEq, decide_true, decide_false, undef, beq_self_eq_true, bne_self_eq_false, Bool.and_true, Bool.true_and, Bool.and_false, Bool.false_and, Bool.or_true, Bool.true_or, Bool.or_false, Bool.false_or]
  refine ACallL.fresh1 h6 rfl ?_
  simp only [go_sem, Nat.reduceEqDiff, Nat.reduceAdd, Nat.reduceSub, Nat.reduceMul, Nat.reduceLT, Nat.reduceLeDiff, Nat.reduceMod, Nat.reduceDiv, Int.reduceToNat, Int.reduceLT, Int.reduceLE, Bool.not_true, Bool.not_false, reduceIte, Int.reduceEq, Int.reduceBEq, Int.reduceBNe, Int.reduceGT, Int.reduceGE, Int.reduceNeg, Int.reduceAdd, Int.reduceSub, Nat.reduceBEq, decide_true, decide_false, undef, beq_self_eq_true, bne_self_eq_false, Bool.and_true, Bool.true_and, Bool.and_false, Bool.false_and, Bool.or_true, Bool.true_or, Bool.or_false, Bool.false_or]
  refine step ?_
  simp only [go_sem, Nat.reduceEqDiff, Nat.reduceAdd, Nat.reduceSub, Nat.reduceMul, Nat.reduceLT, Nat.reduceLeDiff, Nat.reduceMod, Nat.reduceDiv, Int.reduceToNat, Int.reduceLT, Int.reduceLE, Bool.not_true, Bool.not_false, reduceIte, Int.reduceEq, Int.reduceBEq, Int.reduceBNe, Int.reduceGT, Int.reduceGE, Int.reduceNeg, Int.reduceAdd, Int.reduceSub, Nat.reduceBEq, decide_true, decide_false, undef, beq_self_eq_true, bne_self_eq_false, Bool.and_true, Bool.true_and, Bool.and_false, Bool.false_and, Bool.or_true, Bool.true_or, Bool.or_false, Bool.false_or]
  refine ACallL.fresh1 h7 rfl ?_
  simp only [go_sem, Nat.reduceEqDiff, Nat.reduceAdd, Nat.reduceSub, Nat.reduceMul, Nat.reduceLT, Nat.reduceLeDiff, Nat.reduceMod, Nat.reduceDiv, Int.reduceToNat, Int.reduceLT, Int.reduceLE, Bool.not_true, Bool.not_false, reduceIte, Int.reduceEq, Int.reduceBEq, Int.reduceBNe, Int.reduceGT, Int.reduceGE, Int.reduceNeg, Int.reduceAdd, Int.reduceSub, Nat.reduceBEq, decide_true, decide_false, undef, beq_self_eq_true, bne_self_eq_false, Bool.and_true, Bool.true_and, Bool.and_false, Bool.false_and, Bool.or_true, Bool.true_or, Bool.or_false, Bool.false_or]
  refine step ?_
  simp only [go_sem, Nat.reduceEqDiff, Nat.reduceAdd, Nat.reduceSub, Nat.reduceMul, Nat.reduceLT, Nat.reduceLeDiff, Nat.reduceMod, Nat.reduceDiv, Int.reduceToNat, Int.reduceLT, Int.reduceLE, Bool.not_true, Bool.not_false, reduceIte, Int.reduceEq, Int.reduceBEq, Int.reduceBNe, Int.reduceGT, Int.reduceGE, Int.reduceNeg, Int.reduceAdd, Int.reduceSub, Nat.reduceBEq, decide_true, decide_false, undef, beq_self_eq_true, bne_self_eq_false, Bool.and_true, Bool.true_and, Bool.and_false, Bool.false_and, Bool.or_true, Bool.true_or, Bool.or_false, Bool.false_or]
  refine ACallL.fresh1 h8 rfl ?_
  simp only [go_sem, Nat.reduceEqDiff, Nat.reduceAdd, Nat.reduceSub, Nat.reduceMul, Nat.reduceLT, Nat.reduceLeDiff, Nat.reduceMod, Nat.reduceDiv, Int.reduceToNat, Int.reduceLT, Int.reduceLE, Bool.not_true, Bool.not_false, reduceIte, Int.reduceEq, Int.reduceBEq, Int.reduceBNe, Int.reduceGT, Int.reduceGE, Int.reduceNeg, Int.reduceAdd, Int.reduceSub, Nat.reduceBEq, decide_true, decide_false, undef, beq_self_eq_true, bne_self_eq_false, Bool.and_true, Bool.true_and, Bool.and_false, Bool.false_and, Bool.or_true, Bool.true_or, Bool.or_false, Bool.false_or]
  refine step ?_
  simp only [go_sem, Nat.reduceEqDiff, Nat.reduceAdd, Nat.reduceSub, Nat.reduceMul, Nat.reduceLT, Nat.reduceLeDiff, Nat.reduceMod, Nat.reduceDiv, Int.reduceToNat, Int.reduceLT, Int.reduceLE, Bool.not_true, Bool.not_false, reduceIte, Int.reduceEq, Int.reduceBEq, Int.reduceBNe, Int.reduceGT, Int.reduceGE, Int.reduceNeg, Int.reduceAdd, Int.reduceSub, Nat.reduceBEq, decide_true, decide_false, undef, beq_self_eq_true, bne_self_eq_false, Bool.and_true, Bool.true_and, Bool.and_false, Bool.false_and, Bool.or_true, Bool.true_or, Bool.or_false, Bool.false_or]
  refine ACallL.fresh1 h9 rfl ?_
  simp only [go_sem, Nat.reduceEqDiff, Nat.reduceAdd, Nat.reduceSub, Nat.reduceMul, Nat.reduceLT, Nat.reduceLeDiff, Nat.reduceMod, Nat.reduceDiv, Int.reduceToNat, Int.reduceLT, Int.reduceLE, Bool.not_true, Bool.not_false, reduceIte, Int.reduceEq, Int.reduceBEq, Int.reduceBNe, Int.reduceGT, Int.reduceGE, Int.reduceNeg, Int.reduceAdd, Int.reduceSub, Nat.reduceBEq, decide_true, decide_false, undef, beq_self_eq_true, bne_self_eq_false, Bool.and_true, Bool.true_and, Bool.and_false, Bool.false_and, Bool.or_true, Bool.true_or, Bool.or_false, Bool.false_or]
  refine step ?_
  simp only [go_sem, Nat.reduceEqDiff, Nat.reduceAdd, Nat.reduceSub, Nat.reduceMul, Nat.reduceLT, Nat.reduceLeDiff, Nat.reduceMod, Nat.reduceDiv, Int.reduceToNat, Int.reduceLT, Int.reduceLE, Bool.not_true, Bool.not_false, reduceIte, Int.reduceEq, Int.reduceBEq, Int.reduceBNe, Int.reduceGT, Int.reduceGE, Int.reduceNeg, Int.reduceAdd, Int.reduceSub, Nat.reduceBEq, decide_true, decide_false, undef, beq_self_eq_true, bne_self_eq_false, Bool.and_true, Bool.true_and, Bool.and_false, Bool.false_and, Bool.or_true, Bool.true_or, Bool.or_false, Bool.false_or]
  refine ACallL.fresh1 h10 rfl ?_
  simp only [go_sem, Nat.reduceEqDiff, Nat.reduceAdd, Nat.reduceSub, Nat.reduceMul, Nat.reduceLT, Nat.reduceLeDiff, Nat.reduceMod, Nat.reduceDiv, Int.reduceToNat, Int.reduceLT, Int.reduceLE, Bool.not_true, Bool.not_false, reduceIte, Int.reduceEq, Int.reduceBEq, Int.reduceBNe, Int.reduceGT, Int.reduceGE, Int.reduceNeg, Int.reduceAdd, Int.reduceSub, Nat.reduceBEq, decide_true, decide_false, undef, beq_self_eq_true, bne_self_eq_false, Bool.and_true, Bool.true_and, Bool.and_false, Bool.false_and, Bool.or_true, Bool.true_or, Bool.or_false, Bool.false_or]
  refine sp 5 5 ?_
  simp only [tS, go_sem, Nat.reduceEqDiff, Nat.reduceAdd, Nat.reduceSub, Nat.reduceMul, Nat.reduceLT, Nat.reduceLeDiff, Nat.reduceMod, Nat.reduceDiv, Int.reduceToNat, Int.reduceLT, Int.reduceLE, Bool.not_true, Bool.not_false, reduceIte, Int.reduceEq, Int.reduceBEq, Int.reduceBNe, Int.reduceGT, Int.reduceGE, Int.reduceNeg, Int.reduceAdd, Int.reduceSub, Nat.reduceBEq, decide_true, decide_false, undef, beq_self_eq_true, bne_self_eq_false, Bool.and_true, Bool.true_and, Bool.and_false, Bool.false_and, Bool.or_true, Bool.true_or, Bool.or_false, Bool.false_or]
  refine ACallL.fresh1 hsm rfl ?_
  simp only [go_sem, Nat.reduceEqDiff, Nat.reduceAdd, Nat.reduceSub, Nat.reduceMul, Nat.reduceLT, Nat.reduceLeDiff, Nat.reduceMod, Nat.reduceDiv, Int.reduceToNat, Int.reduceLT, Int.reduceLE, Bool.not_true, Bool.not_false, reduceIte, Int.reduceEq, Int.reduceBEq, Int.reduceBNe, Int.reduceGT, Int.reduceGE, Int.reduceNeg, Int.reduceAdd, Int.reduceSub, Nat.reduceBEq, decide_true, decide_false, undef, beq_self_eq_true, bne_self_eq_false, Bool.and_true, Bool.true_and, Bool.and_false, Bool.false_and, Bool.or_true, Bool.true_or, Bool.or_false, Bool.false_or]
  refine ACallL.fresh1 h12 rfl ?_
  simp only [go_sem, Nat.reduceEqDiff, Nat.reduceAdd, Nat.reduceSub, Nat.reduceMul, Nat.reduceLT, Nat.reduceLeDiff, Nat.reduceMod, Nat.reduceDiv, Int.reduceToNat, Int.reduceLT, Int.reduceLE, Bool.not_true, Bool.not_false, reduceIte, Int.reduceEq, Int.reduceBEq, Int.reduceBNe, Int.reduceGT, Int.reduceGE, Int.reduceNeg, Int.reduceAdd, Int.reduceSub, Nat.reduceBEq, decide_true, decide_false, undef, beq_self_eq_true, bne_self_eq_false, Bool.and_true, Bool.true_and, Bool.and_false, Bool.false_and, Bool.or_true, Bool.true_or, Bool.or_false, Bool.false_or]
  refine ACallL.fresh1 hal rfl ?_
  simp only [tS, go_sem, Nat.reduceEqDiff, Nat.reduceAdd, Nat.reduceSub, Nat.reduceMul, Nat.reduceLT, Nat.reduceLeDiff, Nat.reduceMod, Nat.reduceDiv, Int.reduceToNat, Int.reduceLT, Int.reduceLE, Bool.not_true, Bool.not_false, reduceIte, Int.reduceEq, Int.reduceBEq, Int.reduceBNe, Int.reduceGT, Int.reduceGE, Int.reduceNeg, Int.reduceAdd, Int.reduceSub, Nat.reduceBEq, decide_true, decide_false, undef, beq_self_eq_true, bne_self_eq_false, Bool.and_true, Bool.true_and, Bool.and_false, Bool.false_and, Bool.or_true, Bool.true_or, Bool.or_false, Bool.false_or, toKey, cellKeys, cellKey, kEq, cellEq]
  refine sp 4 4 ?_
  simp only [tS, go_sem, Nat.reduceEqDiff, Nat.reduceAdd, Nat.reduceSub, Nat.reduceMul, Nat.reduceLT, Nat.reduceLeDiff, Nat.reduceMod, Nat.reduceDiv, Int.reduceToNat, Int.reduceLT, Int.reduceLE, Bool.not_true, Bool.not_false, reduceIte, Int.reduceEq, Int.reduceBEq, Int.reduceBNe, Int.reduceGT, Int.reduceGE, Int.reduceNeg, Int.reduceAdd, Int.reduceSub, Nat.reduceBEq, decide_true, decide_false, undef, beq_self_eq_true, bne_self_eq_false, Bool.and_true, Bool.true_and, Bool.and_false, Bool.false_and, Bool.or_true, Bool.true_or, Bool.or_false, Bool.false_or, toKey, cellKeys, cellKey, kEq, cellEq]
  refine sp 9 9 ?_
  simp only [tS, go_sem, Nat.reduceEqDiff, Nat.reduceAdd, Nat.reduceSub, Nat.reduceMul, Nat.reduceLT, Nat.reduceLeDiff, Nat.reduceMod, Nat.reduceDiv, Int.reduceToNat, Int.reduceLT, Int.reduceLE, Bool.not_true, Bool.not_false, reduceIte, Int.reduceEq, Int.reduceBEq, Int.reduceBNe, Int.reduceGT, Int.reduceGE, Int.reduceNeg, Int.reduceAdd, Int.reduceSub, Nat.reduceBEq, decide_true, decide_false, undef, beq_self_eq_true, bne_self_eq_false, Bool.and_true, Bool.true_and, Bool.and_false, Bool.false_and, Bool.or_true, Bool.true_or, Bool.or_false, Bool.false_or, toKey, cellKeys, cellKey, kEq, cellEq]
  refine sp 0 0 ?_
  simp only [tS, go_sem, Nat.reduceEqDiff, Nat.reduceAdd, Nat.reduceSub, Nat.reduceMul, Nat.reduceLT, Nat.reduceLeDiff, Nat.reduceMod, Nat.reduceDiv, Int.reduceToNat, Int.reduceLT, Int.reduceLE, Bool.not_true, Bool.not_false, reduceIte, Int.reduceEq, Int.reduceBEq, Int.reduceBNe, Int.reduceGT, Int.reduceGE, Int.reduceNeg, Int.reduceAdd, Int.reduceSub, Nat.reduceBEq, decide_true, decide_false, undef, beq_self_eq_true, bne_self_eq_false, Bool.and_true, Bool.true_and, Bool.and_false, Bool.false_and, Bool.or_true, Bool.true_or, Bool.or_false, Bool.false_or, toKey, cellKeys, cellKey, kEq, cellEq]
  refine sp 7 8 ?_
  simp only [tS, go_sem, Nat.reduceEqDiff, Nat.reduceAdd, Nat.reduceSub, Nat.reduceMul, Nat.reduceLT, Nat.reduceLeDiff, Nat.reduceMod, Nat.reduceDiv, Int.reduceToNat, Int.reduceLT, Int.reduceLE, Bool.not_true, Bool.not_false, reduceIte, Int.reduceEq, Int.reduceBEq, Int.reduceBNe, Int.reduceGT, Int.reduceGE, Int.reduceNeg, Int.reduceAdd, Int.reduceSub, Nat.reduceBEq, decide_true, decide_false, undef, beq_self_eq_true, bne_self_eq_false, Bool.and_true, Bool.true_and, Bool.and_false, Bool.false_and, Bool.or_true, Bool.true_or, Bool.or_false, Bool.false_or, toKey, cellKeys, cellKey, kEq, cellEq]
  refine sp 16 17 ?_
  simp only [tS, go_sem, Nat.reduceEqDiff, Nat.reduceAdd, Nat.reduceSub, Nat.reduceMul, Nat.reduceLT, Nat.reduceLeDiff, Nat.reduceMod, Nat.reduceDiv, Int.reduceToNat, Int.reduceLT, Int.reduceLE, Bool.not_true, Bool.not_false, reduceIte, Int.reduceEq, Int.reduceBEq, Int.reduceBNe, Int.reduceGT, Int.reduceGE, Int.reduceNeg, Int.reduceAdd, Int.reduceSub, Nat.reduceBEq, decide_true, decide_false, undef, beq_self_eq_true, bne_self_eq_false, Bool.and_true, Bool.true_and, Bool.and_false, Bool.false_and, Bool.or_true, Bool.true_or, Bool.or_false, Bool.false_or, toKey, cellKeys, cellKey, kEq, cellEq]
  exact finL_ret [] ⟨rfl, rfl, rfl, rfl, _, rfl, ret_mk rfl⟩
end Go.Proofs.Ytcpkkjbkbdmopaa
