/- Proved here: laws that the statements need (RaC38, RaS4). No conditions but those that each law states. -/
import Derived.Test.YtcpkkjbkbdmopaaFL
import Derived.Test.YtcpkkjbkbdmopaaFP
import Derived.Test.YtcpkkjbkbdmopaaProg
import Derived.Test.YtcpkkjbkbdmopaaDJ

set_option linter.unusedSimpArgs false
set_option linter.unusedVariables false

/- Compiled code of functions, printed by program; each is checked to be the program's. No conditions. -/
namespace Go.Proofs.Ytcpkkjbkbdmopaa
open Go Go.Ab
/-- dipworks/dipworkslaw11.RailLatest -/
def c8 : AC :=
 .seq (.reg [⟨(some 4), none, .box (.tmp 0)⟩,
 ⟨(some 8), none, .mov (.lit (.bool false))⟩])
 (.seq (.seq (.reg [⟨(some 20), none, .load true 10 (.tmp 4)⟩,
 ⟨(some 21), none, .call (.fn 37) [(.tmp 20)]⟩,
 ⟨(some 22), none, .mov (.tmp 21)⟩,
 ⟨(some 23), (some (22, false)), .load true 10 (.tmp 4)⟩,
 ⟨(some 24), (some (22, false)), .call (.fn 12) [(.tmp 23)]⟩,
 ⟨(some 25), (some (22, false)), .un .not (.tmp 24)⟩,
 ⟨(some 26), none, .pick (.tmp 22) (.lit (.bool true)) (.tmp 25)⟩,
 ⟨(some 27), none, .mov (.tmp 26)⟩,
 ⟨(some 28), (some (27, false)), .faddr 8 (.tmp 4)⟩,
 ⟨(some 29), (some (27, false)), .load false 1 (.tmp 28)⟩,
 ⟨(some 30), (some (27, false)), .len (.tmp 29)⟩,
 ⟨(some 31), (some (27, false)), .bin .geq (.tmp 30) (.lit (.int .i64 4))⟩,
 ⟨(some 32), none, .pick (.tmp 27) (.lit (.bool true)) (.tmp 31)⟩])
 (.cond (.tmp 32) (.seq (.reg [⟨(some 33), none, .call (.fn 24) []⟩,
 ⟨(some 8), none, .mov (.tmp 33)⟩])
 (.ret))
 (.skip)))
 (.seq (.draw (.step ⟨(some 34), none, .mov (.tmp 1)⟩ (
 .step ⟨(some 35), none, .conv .i64 (.tmp 34)⟩ (
 .step ⟨(some 36), none, .bin .rem (.tmp 35) (.lit (.int .i64 8))⟩ (
 .step ⟨(some 37), none, .bin .add (.lit (.int .i64 1)) (.tmp 36)⟩ (
 .step ⟨(some 38), none, .mov (.tmp 2)⟩ (
 .step ⟨(some 39), none, .conv .i64 (.tmp 38)⟩ (
 .step ⟨(some 40), none, .faddr 4 (.tmp 4)⟩ (
 .step ⟨(some 41), none, .load false 1 (.tmp 40)⟩ (
 .step ⟨(some 42), none, .bin .add (.tmp 41) (.lit (.int .i64 1))⟩ (
 .step ⟨(some 43), none, .bin .rem (.tmp 39) (.tmp 42)⟩ (
 .ev ⟨(some 9), none, .alloc [(.int .i64 0)]⟩ [⟨(some 41), none, .load false 1 (.tmp 40)⟩, ⟨(some 40), none, .faddr 4 (.tmp 4)⟩] (
 .ev ⟨(some 10), none, .alloc [(.int .i64 0)]⟩ [⟨(some 41), none, .load false 1 (.tmp 40)⟩, ⟨(some 40), none, .faddr 4 (.tmp 4)⟩] (
 .ev ⟨none, none, .store 1 (.tmp 9) (.tmp 37)⟩ [⟨(some 41), none, .load false 1 (.tmp 40)⟩, ⟨(some 40), none, .faddr 4 (.tmp 4)⟩] (
 .ev ⟨none, none, .store 1 (.tmp 10) (.tmp 43)⟩ [] (
 .done)
 (.stop))
 (.stop))
 (.stop))
 (.ev ⟨(some 10), none, .alloc [(.int .i64 0)]⟩ [⟨(some 41), none, .load false 1 (.tmp 40)⟩, ⟨(some 40), none, .faddr 4 (.tmp 4)⟩] (
 .ev ⟨(some 9), none, .alloc [(.int .i64 0)]⟩ [⟨(some 41), none, .load false 1 (.tmp 40)⟩, ⟨(some 40), none, .faddr 4 (.tmp 4)⟩] (
 .ev ⟨none, none, .store 1 (.tmp 9) (.tmp 37)⟩ [⟨(some 41), none, .load false 1 (.tmp 40)⟩, ⟨(some 40), none, .faddr 4 (.tmp 4)⟩] (
 .ev ⟨none, none, .store 1 (.tmp 10) (.tmp 43)⟩ [] (
 .done)
 (.stop))
 (.stop))
 (.stop))
 (.stop))))))))))))))
 (.seq (.seq (.gcp)
 (.reg [⟨(some 45), none, .load true 10 (.tmp 4)⟩,
 ⟨(some 46), none, .load false 1 (.tmp 9)⟩,
 ⟨(some 47), none, .load false 1 (.tmp 10)⟩,
 ⟨(some 48), none, .call (.fn 29) [(.tmp 45), (.tmp 46), (.tmp 47)]⟩,
 ⟨(some 44), none, .mov (.tmp 48)⟩,
 ⟨(some 49), none, .ext (.tmp 44) 0⟩,
 ⟨(some 50), none, .ext (.tmp 44) 1⟩,
 ⟨(some 11), none, .mov (.tmp 49)⟩,
 ⟨(some 12), none, .mov (.tmp 50)⟩]))
 (.seq (.reg [⟨(some 51), none, .mkfn (.func 40) [] [(.tmp 4), (.tmp 9), (.tmp 10)]⟩,
 ⟨(some 13), none, .mov (.tmp 51)⟩])
 (.seq (.reg [⟨(some 53), none, .load true 10 (.tmp 4)⟩,
 ⟨(some 54), none, .load false 1 (.tmp 10)⟩,
 ⟨(some 55), none, .call (.fn 29) [(.tmp 53), (.lit (.int .i64 0)), (.tmp 54)]⟩,
 ⟨(some 52), none, .mov (.tmp 55)⟩,
 ⟨(some 56), none, .ext (.tmp 52) 0⟩,
 ⟨(some 57), none, .ext (.tmp 52) 1⟩,
 ⟨(some 14), none, .mov (.tmp 56)⟩,
 ⟨(some 15), none, .mov (.tmp 57)⟩])
 (.seq (.reg [⟨(some 59), none, .load true 10 (.tmp 4)⟩,
 ⟨(some 60), none, .load false 1 (.tmp 10)⟩,
 ⟨(some 61), none, .call (.fn 29) [(.tmp 59), (.lit (.int .i64 9)), (.tmp 60)]⟩,
 ⟨(some 58), none, .mov (.tmp 61)⟩,
 ⟨(some 62), none, .ext (.tmp 58) 0⟩,
 ⟨(some 63), none, .ext (.tmp 58) 1⟩,
 ⟨(some 16), none, .mov (.tmp 62)⟩,
 ⟨(some 17), none, .mov (.tmp 63)⟩])
 (.seq (.reg [⟨(some 65), none, .load true 10 (.tmp 4)⟩,
 ⟨(some 66), none, .load false 1 (.tmp 9)⟩,
 ⟨(some 67), none, .faddr 4 (.tmp 4)⟩,
 ⟨(some 68), none, .load false 1 (.tmp 67)⟩,
 ⟨(some 69), none, .bin .add (.tmp 68) (.lit (.int .i64 1))⟩,
 ⟨(some 70), none, .call (.fn 29) [(.tmp 65), (.tmp 66), (.tmp 69)]⟩,
 ⟨(some 64), none, .mov (.tmp 70)⟩,
 ⟨(some 71), none, .ext (.tmp 64) 0⟩,
 ⟨(some 72), none, .ext (.tmp 64) 1⟩,
 ⟨(some 18), none, .mov (.tmp 71)⟩,
 ⟨(some 19), none, .mov (.tmp 72)⟩])
 (.seq (.seq (.reg [⟨(some 73), none, .mov (.tmp 15)⟩,
 ⟨(some 74), none, .bin .neq (.tmp 73) (.lit (.int .i64 2))⟩,
 ⟨(some 75), none, .mov (.tmp 74)⟩,
 ⟨(some 76), (some (75, false)), .mov (.tmp 17)⟩,
 ⟨(some 77), (some (75, false)), .mov (.tmp 15)⟩,
 ⟨(some 78), (some (75, false)), .bin .neq (.tmp 76) (.tmp 77)⟩,
 ⟨(some 79), none, .pick (.tmp 75) (.lit (.bool true)) (.tmp 78)⟩,
 ⟨(some 80), none, .mov (.tmp 79)⟩,
 ⟨(some 81), (some (80, false)), .mov (.tmp 19)⟩,
 ⟨(some 82), (some (80, false)), .mov (.tmp 15)⟩,
 ⟨(some 83), (some (80, false)), .bin .neq (.tmp 81) (.tmp 82)⟩,
 ⟨(some 84), none, .pick (.tmp 80) (.lit (.bool true)) (.tmp 83)⟩])
 (.cond (.tmp 84) (.seq (.reg [⟨(some 8), none, .mov (.lit (.bool false))⟩])
 (.ret))
 (.skip)))
 (.seq (.seq (.reg [⟨(some 85), none, .mov (.tmp 12)⟩,
 ⟨(some 86), none, .bin .neq (.tmp 85) (.lit (.int .i64 0))⟩])
 (.cond (.tmp 86) (.seq (.reg [⟨(some 87), none, .mov (.tmp 12)⟩,
 ⟨(some 88), none, .bin .eql (.tmp 87) (.lit (.int .i64 4))⟩,
 ⟨(some 89), none, .mov (.tmp 88)⟩,
 ⟨(some 90), (some (89, true)), .mov (.tmp 11)⟩,
 ⟨(some 91), (some (89, true)), .bin .eql (.tmp 90) (.lit (.int .i64 0))⟩,
 ⟨(some 92), none, .pick (.tmp 89) (.tmp 91) (.lit (.bool false))⟩,
 ⟨(some 93), none, .mov (.tmp 92)⟩,
 ⟨(some 94), (some (93, true)), .load false 1 (.tmp 10)⟩,
 ⟨(some 95), (some (93, true)), .bin .eql (.tmp 94) (.lit (.int .i64 0))⟩,
 ⟨(some 96), (some (93, true)), .mov (.tmp 95)⟩,
 ⟨(some 97), (some (96, false)), .mov (.tmp 13)⟩,
 ⟨(some 98), (some (96, false)), .mov (.tmp 3)⟩,
 ⟨(some 99), (some (96, false)), .conv .i64 (.tmp 98)⟩,
 ⟨(some 100), (some (96, false)), .load false 1 (.tmp 10)⟩,
 ⟨(some 101), (some (96, false)), .bin .rem (.tmp 99) (.tmp 100)⟩,
 ⟨(some 102), (some (96, false)), .call (.tmp 97) [(.tmp 101)]⟩,
 ⟨(some 103), (some (96, false)), .un .not (.tmp 102)⟩,
 ⟨(some 104), (some (93, true)), .pick (.tmp 96) (.lit (.bool true)) (.tmp 103)⟩,
 ⟨(some 105), none, .pick (.tmp 93) (.tmp 104) (.lit (.bool false))⟩,
 ⟨(some 106), none, .mov (.tmp 105)⟩,
 ⟨(some 107), (some (106, true)), .call (.fn 24) []⟩,
 ⟨(some 108), none, .pick (.tmp 106) (.tmp 107) (.lit (.bool false))⟩,
 ⟨(some 8), none, .mov (.tmp 108)⟩])
 (.ret))
 (.skip)))
 (.seq (.reg [⟨(some 109), none, .mov (.tmp 11)⟩,
 ⟨(some 110), none, .bin .geq (.tmp 109) (.lit (.int .i64 0))⟩,
 ⟨(some 111), none, .mov (.tmp 110)⟩,
 ⟨(some 112), (some (111, true)), .mov (.tmp 11)⟩,
 ⟨(some 113), (some (111, true)), .load false 1 (.tmp 10)⟩,
 ⟨(some 114), (some (111, true)), .bin .lss (.tmp 112) (.tmp 113)⟩,
 ⟨(some 115), none, .pick (.tmp 111) (.tmp 114) (.lit (.bool false))⟩,
 ⟨(some 116), none, .mov (.tmp 115)⟩,
 ⟨(some 117), (some (116, true)), .mov (.tmp 13)⟩,
 ⟨(some 118), (some (116, true)), .mov (.tmp 11)⟩,
 ⟨(some 119), (some (116, true)), .call (.tmp 117) [(.tmp 118)]⟩,
 ⟨(some 120), none, .pick (.tmp 116) (.tmp 119) (.lit (.bool false))⟩,
 ⟨(some 121), none, .mov (.tmp 120)⟩,
 ⟨(some 122), (some (121, true)), .mov (.tmp 11)⟩,
 ⟨(some 123), (some (121, true)), .bin .add (.tmp 122) (.lit (.int .i64 1))⟩,
 ⟨(some 124), (some (121, true)), .load false 1 (.tmp 10)⟩,
 ⟨(some 125), (some (121, true)), .bin .geq (.tmp 123) (.tmp 124)⟩,
 ⟨(some 126), (some (121, true)), .mov (.tmp 125)⟩,
 ⟨(some 127), (some (126, false)), .mov (.tmp 13)⟩,
 ⟨(some 128), (some (126, false)), .mov (.tmp 11)⟩,
 ⟨(some 129), (some (126, false)), .bin .add (.tmp 128) (.lit (.int .i64 1))⟩,
 ⟨(some 130), (some (126, false)), .call (.tmp 127) [(.tmp 129)]⟩,
 ⟨(some 131), (some (126, false)), .un .not (.tmp 130)⟩,
 ⟨(some 132), (some (121, true)), .pick (.tmp 126) (.lit (.bool true)) (.tmp 131)⟩,
 ⟨(some 133), none, .pick (.tmp 121) (.tmp 132) (.lit (.bool false))⟩,
 ⟨(some 134), none, .mov (.tmp 133)⟩,
 ⟨(some 135), (some (134, true)), .mov (.tmp 13)⟩,
 ⟨(some 136), (some (134, true)), .mov (.tmp 3)⟩,
 ⟨(some 137), (some (134, true)), .conv .i64 (.tmp 136)⟩,
 ⟨(some 138), (some (134, true)), .mov (.tmp 11)⟩,
 ⟨(some 139), (some (134, true)), .bin .add (.tmp 138) (.lit (.int .i64 1))⟩,
 ⟨(some 140), (some (134, true)), .bin .rem (.tmp 137) (.tmp 139)⟩,
 ⟨(some 141), (some (134, true)), .call (.tmp 135) [(.tmp 140)]⟩,
 ⟨(some 142), none, .pick (.tmp 134) (.tmp 141) (.lit (.bool false))⟩,
 ⟨(some 143), none, .mov (.tmp 142)⟩,
 ⟨(some 144), (some (143, true)), .call (.fn 24) []⟩,
 ⟨(some 145), none, .pick (.tmp 143) (.tmp 144) (.lit (.bool false))⟩,
 ⟨(some 8), none, .mov (.tmp 145)⟩])
 (.ret)))))))))))
theorem k8 : FnC Try.prog 8 146 [] [4] [.tmp 8] c8 4 := ⟨Try.f8, _, Try.func8, rfl, by decide, rfl, by decide, by kernel_rfl, by kernel_rfl⟩
/-- dipworks/dipworkslaw11.RailLatest$1 -/
def c40 : AC :=
 .seq (.reg [⟨(some 5), none, .mov (.lit (.bool false))⟩])
 (.seq (.reg [⟨(some 9), none, .load true 10 (.tmp 1)⟩,
 ⟨(some 6), none, .alloc [(.slice none 0 0), (.slice none 0 0), (.slice none 0 0), (.int .i64 0), (.int .i64 0), (.int .i64 0), (.int .i64 0), (.int .i64 0), (.slice none 0 0), (.int .i64 0)]⟩,
 ⟨none, none, .store 10 (.tmp 6) (.tmp 9)⟩])
 (.seq (.draw (.step ⟨(some 11), none, .faddr 8 (.tmp 1)⟩ (
 .step ⟨(some 12), none, .load false 1 (.tmp 11)⟩ (
 .step ⟨(some 14), none, .mov (.tmp 0)⟩ (
 .step ⟨(some 15), none, .load false 1 (.tmp 2)⟩ (
 .step ⟨(some 16), none, .load false 1 (.tmp 2)⟩ (
 .ev ⟨(some 10), none, .bslice 4 (.agg #[(.int .i64 0), (.int .i64 0), (.int .i64 0), (.int .i64 0)]) 0 []⟩ [⟨(some 16), none, .load false 1 (.tmp 2)⟩, ⟨(some 15), none, .load false 1 (.tmp 2)⟩, ⟨(some 12), none, .load false 1 (.tmp 11)⟩, ⟨(some 11), none, .faddr 8 (.tmp 1)⟩] (
 .ev ⟨(some 13), none, .app 4 32 (.tmp 10) (.tmp 12)⟩ [⟨(some 16), none, .load false 1 (.tmp 2)⟩, ⟨(some 15), none, .load false 1 (.tmp 2)⟩, ⟨(some 11), none, .faddr 8 (.tmp 1)⟩] (
 .ev ⟨(some 17), none, .call (.fn 41) [(.lit (.int .i64 1)), (.tmp 14), (.tmp 15), (.tmp 16)]⟩ [⟨(some 12), none, .load false 1 (.tmp 11)⟩, ⟨(some 11), none, .faddr 8 (.tmp 1)⟩] (
 .ev ⟨(some 18), none, .bslice 4 (.agg #[(.int .i64 0), (.int .i64 0), (.int .i64 0), (.int .i64 0)]) 1 [(0, (.tmp 17))]⟩ [⟨(some 16), none, .load false 1 (.tmp 2)⟩, ⟨(some 15), none, .load false 1 (.tmp 2)⟩, ⟨(some 12), none, .load false 1 (.tmp 11)⟩, ⟨(some 11), none, .faddr 8 (.tmp 1)⟩] (
 .ev ⟨(some 19), none, .app 4 32 (.tmp 13) (.tmp 18)⟩ [⟨(some 16), none, .load false 1 (.tmp 2)⟩, ⟨(some 15), none, .load false 1 (.tmp 2)⟩, ⟨(some 12), none, .load false 1 (.tmp 11)⟩, ⟨(some 11), none, .faddr 8 (.tmp 1)⟩] (
 .step ⟨(some 20), none, .faddr 8 (.tmp 6)⟩ (
 .ev ⟨none, none, .store 1 (.tmp 20) (.tmp 19)⟩ [] (
 .done)
 (.stop)))
 (.stop))
 (.stop))
 (.stop))
 (.stop))
 (.stop))))))))
 (.seq (.seq (.gcp)
 (.reg [⟨(some 22), none, .load true 10 (.tmp 6)⟩,
 ⟨(some 23), none, .faddr 8 (.tmp 1)⟩,
 ⟨(some 24), none, .load false 1 (.tmp 23)⟩,
 ⟨(some 25), none, .len (.tmp 24)⟩,
 ⟨(some 26), none, .call (.fn 25) [(.tmp 22), (.tmp 25)]⟩,
 ⟨(some 21), none, .mov (.tmp 26)⟩,
 ⟨(some 27), none, .ext (.tmp 21) 0⟩,
 ⟨(some 28), none, .ext (.tmp 21) 1⟩,
 ⟨(some 7), none, .alloc [(.int .i64 0), (.int .i64 0)]⟩,
 ⟨none, none, .store 2 (.tmp 7) (.tmp 27)⟩,
 ⟨(some 8), none, .mov (.tmp 28)⟩]))
 (.seq (.reg [⟨(some 29), none, .mov (.tmp 8)⟩,
 ⟨(some 30), none, .bin .eql (.tmp 29) (.lit (.int .i64 0))⟩,
 ⟨(some 31), none, .mov (.tmp 30)⟩,
 ⟨(some 32), (some (31, true)), .faddr 1 (.tmp 7)⟩,
 ⟨(some 33), (some (31, true)), .load false 1 (.tmp 32)⟩,
 ⟨(some 34), (some (31, true)), .load false 1 (.tmp 3)⟩,
 ⟨(some 35), (some (31, true)), .bin .leq (.tmp 33) (.tmp 34)⟩,
 ⟨(some 36), none, .pick (.tmp 31) (.tmp 35) (.lit (.bool false))⟩,
 ⟨(some 5), none, .mov (.tmp 36)⟩])
 (.ret)))))
theorem k40 : FnC Try.prog 40 37 [] [3] [.tmp 5] c40 4 := ⟨Try.f40, _, Try.func40, rfl, by decide, rfl, by decide, by kernel_rfl, by kernel_rfl⟩
end Go.Proofs.Ytcpkkjbkbdmopaa

/- RailLatest: a line hung until when it is told is surely dry, and later not. -/
namespace Go.Proofs.Ytcpkkjbkbdmopaa
open Go Go.Ab

def Ra.plus (r : Ra) (a m : Nat) : Ra := { r with lines := r.lines ++ [⟨1, a, m, m⟩] }
theorem plus_OK {r : Ra} (hr : r.OK) (hn : r.lines.length < 4) {a m : Nat} (ha : a < r.H) (hm : 1 ≤ m ∧ m ≤ 8) : (r.plus a m).OK := by
  obtain ⟨g1, g2, g3⟩ := hr.H
  refine ⟨hr.tw, hr.stock, hr.hours, hr.price, ?_, hr.sun, hr.rain, hr.perhaps, fun l hl => ?_⟩
  · unfold Ra.plus; simp only [List.length_append, List.length_cons, List.length_nil]; omega
  · unfold Ra.plus at hl
    rcases List.mem_append.1 hl with h | h
    · exact hr.ln l h
    · rw [List.mem_singleton] at h
      subst h
      show (1 : Int) ≤ 1 ∧ (1 : Int) ≤ 6 ∧ (0 : Int) ≤ a ∧ (a : Int) < r.hours ∧ (1 : Int) ≤ m ∧ (m : Int) ≤ m ∧ (m : Int) ≤ 8
      omega
theorem plus_dry {r : Ra} (hr : r.OK) (hn : r.lines.length < 4) {a m : Nat} (ha : a < r.H) (hm : 1 ≤ m ∧ m ≤ 8) : specDry (r.plus a m) r.lines.length = if tm (r.f true) r.H a m ≤ r.H then ((((tm (r.f false) r.H a m : Nat) : Int), ((tm (r.f true) r.H a m : Nat) : Int)), 0) else ((0, 0), 11) :=
  specDry_at (((r.plus a m).ok_iff).2 (plus_OK hr hn ha hm)) (j := r.lines.length) (l := ⟨1, a, m, m⟩) (by unfold Ra.plus; simp)

set_option maxRecDepth 8000 in
set_option maxHeartbeats 4000000 in
theorem sure_ok (r : Ra) (hr : r.OK) (hL : Lens r) (hn : r.lines.length < 4) (m hour a : Nat) (hm : 1 ≤ m ∧ m ≤ 8) (hh : hour ≤ r.H) (ha : a < r.H) :
    ACall Try.prog 40 [.t (vi a), .t (.ptr (tRa r) 0), .t (.ptr (.agg [vi m]) 0), .t (.ptr (.agg [vi hour]) 0)] [] (ret (vb (decide (m ≤ driedN (r.f true) a hour)))) := by
  obtain ⟨g1, g2, g3⟩ := hr.H
  refine ACall.walk k40 ?_
  unfold c40
  refine awpL_chop 3 (c1 := ?a1) (c2 := ?a2) (fun s => lk s.env 1 = .t (.ptr (tRa r) 0) ∧ lk s.env 3 = .t (.ptr (.agg [vi hour]) 0) ∧ lk s.env 6 = .ptr 0 0 ∧ ∃ o2, s.σ = [.cells ((tw3 r.tw).map .t ++ [.t (vi r.stock), .t (vi r.hours), .t (vi r.sun), .t (vi r.rain), .t (vi r.perhaps), .loc 1 (r.lines.length + 1), .t (vi r.price)]), .row 4 ((r.lines.map tLn).map .t ++ [.t (tLn ⟨1, a, m, m⟩)]), o2] ∧ s.df = [] ∧ s.k = 0) ?hc ?_ ?_
  case hc => simp only [chop]; rfl
  · have hl := line_ok 1 a m m
    unfold tRa tw3 ra7
    have q1 : (r.lines.length ≤ maxLen) = True := by unfold maxLen; simp; omega
    have q2 : (r.lines.length * 32 ≤ 140737488355328) = True := by simp; omega
    have q3 : (r.lines.length + 1 ≤ maxLen) = True := by unfold maxLen; simp; omega
    have q4 : ((r.lines.length + 1) * 32 ≤ 140737488355328) = True := by simp; omega
    simp only [go_sem, Nat.reduceEqDiff, Nat.reduceAdd, undef, List.length_map, q1, q2]
    refine ACallL.fresh1 hl rfl ?_
    simp only [tLn, go_sem, Nat.reduceEqDiff, Nat.reduceAdd, Nat.reduceLT, Nat.reduceLeDiff, undef, List.length_map, List.length_cons, List.length_nil, Nat.zero_add, q3, q4]
    exact ⟨_, rfl⟩
  rintro ⟨env, σ, df, k⟩ ⟨q1, q3, q6, o2, hσ, hdf, hk⟩
  simp only at q1 q3 q6 hσ hdf hk
  subst hσ hdf hk
  have hD := Dry_ok (r.plus a m) r.lines.length ⟨hL.b, by have := hL.l; unfold Ra.plus; simp only [List.length_append, List.length_cons, List.length_nil]; omega⟩
  rw [plus_dry hr hn ha hm] at hD
  have ht := tm_le (f := r.f true) (at_ := a) (wet := m) (h := hour) (by omega) hm.1 hh
  have hto := tm_or (r.f true) r.H a m
  have hloc : ∀ (kp : List Nat) (σ : List AO), pos? kp 1 = none → σ[1]? = some (.row 4 ((r.lines.map tLn).map .t ++ [.t (tLn ⟨1, a, m, m⟩)])) → E.gc kp σ 11 (.loc 1 (r.lines.length + 1)) = .t (.slice 4 ((r.plus a m).lines.map tLn)) := by
    intro kp σ h1 h2
    have e : (r.lines.map tLn).map E.t ++ [.t (tLn ⟨1, a, m, m⟩)] = ((r.plus a m).lines.map tLn).map E.t := by unfold Ra.plus; simp
    rw [e] at h2
    exact gc_loc (n := 9) h1 h2 (by unfold Ra.plus; simp)
  unfold tRa tw3 ra7 at q1
  unfold tw3
  simp only [List.cons_append, List.nil_append, List.map_cons, List.map_nil] at q1 ⊢
  have hgc : ∀ (σ : List AO), σ[0]? = some (AO.cells [.t (.slice 6 (r.tw.bs.map tB)), .t (.slice 2 (r.tw.hs.map tS)), .t (.slice 2 (r.tw.vs.map tS)), .t (vi r.stock), .t (vi r.hours), .t (vi r.sun), .t (vi r.rain), .t (vi r.perhaps), .loc 1 (r.lines.length + 1), .t (vi r.price)]) →
      σ[1]? = some (.row 4 ((r.lines.map tLn).map .t ++ [.t (tLn ⟨1, a, m, m⟩)])) → E.gc [] σ 12 (.ptr 0 0) = .t (.ptr (tRa (r.plus a m)) 0) := by
    intro σ h0 h1
    have h2 := hloc [] σ rfl h1
    have ht : ∀ x : T, E.gc [] σ 11 (.t x) = .t x := fun x => by rw [E.gc]
    rw [E.gc]
    simp only [pos?, h0, List.map_cons, List.map_nil, h2, ht]
    rfl
  simp only [go_sem]
  refine awpL_gcpE [] [1, 3, 6] { env := [(1, .t (.ptr (tRa r) 0)), (3, .t (.ptr (.agg [vi hour]) 0)), (6, .t (.ptr (tRa (r.plus a m)) 0))], σ := [] } ?_ rfl rfl ?_
  · refine St.gc_mk ?_ rfl rfl rfl
    simp only [List.map_cons, List.map_nil, q1, q3, q6]
    rw [hgc _ rfl rfl]
    rfl
  unfold tRa tw3 ra7 at hD ⊢
  simp only [List.cons_append, List.nil_append] at hD ⊢
  simp only [go_sem, Nat.reduceEqDiff, Nat.reduceAdd, List.length_map]
  by_cases hle : tm (r.f true) r.H a m ≤ r.H
  · rw [if_pos hle] at hD
    have hd : decide (((tm (r.f true) r.H a m : Nat) : Int) ≤ (hour : Int)) = decide (m ≤ driedN (r.f true) a hour) := decide_eq_decide.2 (by rw [← ht]; omega)
    refine ACallL.fresh1 hD rfl ?_
    simp only [spanE, tS, go_sem, Nat.reduceEqDiff, Nat.reduceAdd, undef, beq_self_eq_true, hd]
    exact finL_ret [] ⟨rfl, rfl, rfl, rfl, _, rfl, ret_mk rfl⟩
  · rw [if_neg hle] at hD
    have hd : decide (m ≤ driedN (r.f true) a hour) = false := decide_eq_false (by rw [← ht]; omega)
    refine ACallL.fresh1 hD rfl ?_
    simp only [spanE, tS, go_sem, Nat.reduceEqDiff, Nat.reduceAdd, Int.reduceBEq, undef]
    exact finL_ret [] ⟨rfl, rfl, rfl, rfl, _, rfl, ret_mk (by rw [hd])⟩

theorem revfind_some {p : Nat → Bool} {a : Nat} : ∀ {n : Nat}, (List.range n).reverse.find? p = some a → a < n ∧ p a = true ∧ ∀ y, a < y → y < n → p y = false
  | 0, h => by simp at h
  | n + 1, h => by
    rw [List.range_succ, List.reverse_append, List.reverse_singleton, List.singleton_append, List.find?_cons] at h
    cases hp : p n with
    | true =>
      rw [hp] at h
      simp only [Option.some.injEq] at h
      subst h
      exact ⟨by omega, hp, fun y h1 h2 => by omega⟩
    | false =>
      rw [hp] at h
      obtain ⟨h1, h2, h3⟩ := revfind_some h
      refine ⟨by omega, h2, fun y h4 h5 => ?_⟩
      by_cases e : y = n
      · rw [e]; exact hp
      · exact h3 y h4 (by omega)
theorem revfind_none {p : Nat → Bool} {n : Nat} (h : (List.range n).reverse.find? p = none) : ∀ y, y < n → p y = false := fun y hy => by
  have := List.find?_eq_none.1 h y (by simp; exact hy)
  simpa using this
theorem specLatest_at {r : Ra} (hr : r.OK) (hok : r.ok = true) {m h : Nat} (hm : 1 ≤ m ∧ m ≤ 8) (hh : h ≤ r.H) : specLatest r m h = match r.late m h with
    | some a => (((a : Nat) : Int), 0)
    | none => (0, 4) := by
  obtain ⟨g1, g2, g3⟩ := hr.H
  have hi : r.isH h = true := decide_eq_true (by omega)
  have h2 : wI (m : Int) 1 8 = true := decide_eq_true (by omega)
  unfold specLatest
  rw [hok, hi, h2]; rfl
theorem specLatest_no {r : Ra} (hok : r.ok = true) {m h : Int} (hn : m < 1 ∨ 8 < m ∨ h < 0 ∨ r.hours < h) : specLatest r m h = (0, 2) := by
  have hh : (r.isH h && wI m 1 8) = false := by
    rcases Bool.eq_false_or_eq_true (r.isH h && wI m 1 8) with h1 | h1
    · rw [Bool.and_eq_true] at h1
      have a1 := of_decide_eq_true (show decide (0 ≤ h ∧ h ≤ r.hours) = true from h1.1)
      have a2 := of_decide_eq_true (show decide (1 ≤ m ∧ m ≤ 8) = true from h1.2)
      omega
    · exact h1
  unfold specLatest
  rw [hok, hh]; rfl

def LaMid (r : Ra) (m hour w3 : Nat) (s : St) : Prop := lk s.env 3 = .t (.lit (.int .u8 w3)) ∧ lk s.env 4 = .ptr 0 0 ∧ (∃ i j, lk s.env 9 = .ptr i 0 ∧ lk s.env 10 = .ptr j 0 ∧ s.σ[0]? = some (.cells ((tw3 r.tw ++ ra7 r).map .t)) ∧ s.σ[i]? = some (.cells [.t (vi m)]) ∧ s.σ[j]? = some (.cells [.t (vi hour)])) ∧ s.df = [] ∧ s.k = 0

set_option maxRecDepth 8000 in
set_option maxHeartbeats 8000000 in
theorem RailLatest_ok (r : Ra) (hL : Lens r) (w1 : Nat) (hw1 : w1 < 256) (w2 : Nat) (hw2 : w2 < 256) (w3 : Nat) (hw3 : w3 < 256) : ACall Try.prog 8 [.t (tRa r), .t (.lit (.int .u8 w1)), .t (.lit (.int .u8 w2)), .t (.lit (.int .u8 w3))] [] (ret (vb true)) := by
  refine ACall.walk k8 ?_
  have hlong := long_ok r
  have hrail := rrail_ok r hL.l
  unfold c8
  refine awpL_chop 3 (c1 := ?a1) (c2 := ?a2) (fun s => r.OK ∧ r.ok = true ∧ r.lines.length < 4 ∧ LaMid r (1 + w1 % 8) (w2 % (r.H + 1)) w3 s) ?hc ?_ ?_
  case hc => simp only [chop]; rfl
  · unfold tRa at hlong hrail ⊢
    unfold tw3 ra7 at hlong hrail ⊢
    simp only [List.cons_append, List.nil_append] at hlong hrail
    simp only [go_sem, Nat.reduceEqDiff, Nat.reduceAdd]
    refine ACallL.quiet1 hlong rfl rfl rfl ?_
    cases h1 : r.long
    rotate_left
    · simp only [go_sem, Nat.reduceEqDiff, Bool.not_true, undef]
      refine aliveL ?_
      simp only [go_sem, Nat.reduceEqDiff]
      exact finL_ret [] ⟨rfl, rfl, rfl, rfl, _, rfl, ret_mk rfl⟩
    simp only [go_sem, Nat.reduceEqDiff, Nat.reduceAdd, beq_self_eq_true]
    refine ACallL.quiet1 hrail rfl rfl rfl ?_
    cases hok : r.ok
    · simp only [go_sem, Nat.reduceEqDiff, Bool.not_true, Bool.not_false, undef, beq_self_eq_true]
      refine aliveL ?_
      simp only [go_sem, Nat.reduceEqDiff]
      exact finL_ret [] ⟨rfl, rfl, rfl, rfl, _, rfl, ret_mk rfl⟩
    have hr := (r.ok_iff).1 hok
    cases h4 : decide ((r.lines.length : Int) ≥ 4)
    rotate_left
    · simp only [go_sem, Nat.reduceEqDiff, Nat.reduceAdd, Nat.reduceLeDiff, Bool.not_true, beq_self_eq_true, List.length_map, h4]
      refine aliveL ?_
      simp only [go_sem, Nat.reduceEqDiff]
      exact finL_ret [] ⟨rfl, rfl, rfl, rfl, _, rfl, ret_mk rfl⟩
    have hn : r.lines.length < 4 := by have := of_decide_eq_false h4; omega
    obtain ⟨g1, g2, g3⟩ := hr.H
    have e1 : IntKind.i64.wrap (w1 : Int) = w1 := wrap_id (by omega) (by omega)
    have e2 : IntKind.i64.wrap (w2 : Int) = w2 := wrap_id (by omega) (by omega)
    have e3 : IntKind.i64.wrap (r.hours + 1) = ((r.H + 1 : Nat) : Int) := by rw [g3, wrap_id (by omega) (by omega)]; omega
    have e4 : (((r.H + 1 : Nat) : Int) = 0) = False := by simp; omega
    have e5 : (w1 : Int).tmod 8 = ((w1 % 8 : Nat) : Int) := mod_nat w1 8
    have e6 : IntKind.i64.wrap (1 + ((w1 % 8 : Nat) : Int)) = ((1 + w1 % 8 : Nat) : Int) := by rw [wrap_id (by omega) (by omega)]; omega
    simp only [go_sem, Nat.reduceEqDiff, Nat.reduceAdd, Nat.reduceLeDiff, Bool.not_true, Int.reduceEq, beq_self_eq_true, List.length_map, h4, e1, e2, e3, e4, e5, e6, mod_nat]
    refine AndL.mk ?_ ?_
    · simp only [go_sem, Nat.reduceEqDiff, Nat.reduceAdd, Nat.reduceLeDiff, undef]
      exact ⟨hr, hn, rfl, rfl, ⟨_, _, rfl, rfl, rfl, rfl, rfl⟩, rfl, rfl⟩
    · simp only [go_sem, Nat.reduceEqDiff, Nat.reduceAdd, Nat.reduceLeDiff, undef]
      exact ⟨hr, hn, rfl, rfl, ⟨_, _, rfl, rfl, rfl, rfl, rfl⟩, rfl, rfl⟩
  rintro ⟨env, σ, df, k⟩ ⟨hr, hok, hn, q3, q4, ⟨i, j, q9, q10, o0, oi, oj⟩, hdf, hk⟩
  simp only at q3 q4 q9 q10 o0 oi oj hdf hk
  subst hdf hk
  obtain ⟨g1, g2, g3⟩ := hr.H
  obtain ⟨m, hme, hm⟩ : ∃ n, 1 + w1 % 8 = n ∧ 1 ≤ n ∧ n ≤ 8 := ⟨_, rfl, by omega, by omega⟩
  obtain ⟨hour, hhe, hh⟩ : ∃ n, w2 % (r.H + 1) = n ∧ n ≤ r.H := ⟨_, rfl, by have := Nat.mod_lt w2 (show 0 < r.H + 1 by omega); omega⟩
  rw [hme] at oi
  rw [hhe] at oj
  clear hme hhe
  have g1' : ∀ (id : Nat) (cs : List T), σ[id]? = some (.cells (cs.map .t)) → E.gc [] σ 12 (.ptr id 0) = .t (.ptr (.agg cs) 0) := by
    intro id cs h0
    have ht : (cs.map E.t).map (E.gc [] σ 11) = cs.map E.t := by rw [List.map_map]; rfl
    rw [E.gc]
    simp only [pos?, h0, ht, allT_t]
  have h1 := Latest_ok r m hour hL
  have h2 := Latest_ok r 0 hour hL
  have h3 := Latest_ok r 9 hour hL
  have h4 := Latest_ok r m ((r.H + 1 : Nat) : Int) hL
  rw [specLatest_at hr hok hm hh] at h1
  rw [specLatest_no hok (.inl (by omega))] at h2
  rw [specLatest_no hok (.inr (.inl (by omega)))] at h3
  rw [specLatest_no hok (.inr (.inr (.inr (by omega))))] at h4
  have hsure := fun a (ha : a < r.H) => sure_ok r hr hL hn m hour a hm hh ha
  have e1 : IntKind.i64.wrap (r.hours + 1) = ((r.H + 1 : Nat) : Int) := by rw [g3, wrap_id (by omega) (by omega)]; omega
  have e2 : IntKind.i64.wrap (w3 : Int) = w3 := wrap_id (by omega) (by omega)
  simp only [go_sem]
  refine awpL_gcpE [] [3, 4, 9, 10] { env := [(3, .t (.lit (.int .u8 w3))), (4, .t (.ptr (tRa r) 0)), (9, .t (.ptr (.agg [vi m]) 0)), (10, .t (.ptr (.agg [vi hour]) 0))], σ := [] } ?_ rfl rfl ?_
  · refine St.gc_mk ?_ rfl rfl rfl
    simp only [List.map_cons, List.map_nil, q3, q4, q9, q10]
    rw [g1' 0 _ o0, g1' i [vi m] oi, g1' j [vi hour] oj]
    rfl
  unfold tRa at h1 h2 h3 h4 hsure ⊢
  unfold tw3 ra7 at h1 h2 h3 h4 hsure ⊢
  simp only [List.cons_append, List.nil_append] at h1 h2 h3 h4 hsure ⊢
  cases hla : r.late m hour with
  | none =>
    rw [hla] at h1
    have hno := revfind_none hla
    by_cases hz : hour = 0
    · have z1 : ((hour : Int) == 0) = true := beq_iff_eq.2 (by omega)
      simp only [go_sem, Nat.reduceEqDiff, Nat.reduceAdd]
      refine ACallL.fresh1 h1 rfl ?_
      simp only [oneE, go_sem, Nat.reduceEqDiff, Nat.reduceAdd]
      refine ACallL.fresh1 h2 rfl ?_
      simp only [oneE, go_sem, Nat.reduceEqDiff, Nat.reduceAdd]
      refine ACallL.fresh1 h3 rfl ?_
      simp only [oneE, go_sem, Nat.reduceEqDiff, Nat.reduceAdd, e1]
      refine ACallL.fresh1 h4 rfl ?_
      simp only [oneE, go_sem, Nat.reduceEqDiff, Bool.not_true, Int.reduceBNe, undef, beq_self_eq_true, bne_self_eq_false, z1]
      refine aliveL ?_
      simp only [go_sem, Nat.reduceEqDiff]
      exact finL_ret [] ⟨rfl, rfl, rfl, rfl, _, rfl, ret_mk rfl⟩
    · have z1 : ((hour : Int) == 0) = false := beq_eq_false_iff_ne.2 (by omega)
      have z2 : ((hour : Int) = 0) = False := by simp; omega
      have hlt := Nat.mod_lt w3 (show 0 < hour by omega)
      have hs := hsure (w3 % hour) (by omega)
      have hp := hno _ hlt
      rw [hp] at hs
      simp only [go_sem, Nat.reduceEqDiff, Nat.reduceAdd]
      refine ACallL.fresh1 h1 rfl ?_
      simp only [oneE, go_sem, Nat.reduceEqDiff, Nat.reduceAdd]
      refine ACallL.fresh1 h2 rfl ?_
      simp only [oneE, go_sem, Nat.reduceEqDiff, Nat.reduceAdd]
      refine ACallL.fresh1 h3 rfl ?_
      simp only [oneE, go_sem, Nat.reduceEqDiff, Nat.reduceAdd, e1]
      refine ACallL.fresh1 h4 rfl ?_
      simp only [oneE, go_sem, Nat.reduceEqDiff, Int.reduceBNe, beq_self_eq_true, bne_self_eq_false, e2, z1, z2, mod_nat]
      refine ACallL.quiet1 hs rfl rfl rfl ?_
      simp only [go_sem, Nat.reduceEqDiff, Bool.not_false, beq_self_eq_true]
      refine aliveL ?_
      simp only [go_sem, Nat.reduceEqDiff]
      exact finL_ret [] ⟨rfl, rfl, rfl, rfl, _, rfl, ret_mk rfl⟩
  | some a =>
    rw [hla] at h1
    obtain ⟨ha, hp, hno⟩ := revfind_some hla
    have hs := hsure a (by omega)
    rw [hp] at hs
    have hlt := Nat.mod_lt w3 (show 0 < a + 1 by omega)
    have hs2 := hsure (w3 % (a + 1)) (by omega)
    have hp2 : decide (m ≤ driedN (r.f true) (w3 % (a + 1)) hour) = true := decide_eq_true (Nat.le_trans (of_decide_eq_true hp) (driedN_mono (fun _ _ => Nat.le_refl _) (by omega)))
    rw [hp2] at hs2
    have b1 : decide ((a : Int) ≥ 0) = true := decide_eq_true (by omega)
    have b2 : decide ((a : Int) < (hour : Int)) = true := decide_eq_true (by omega)
    have b3 : IntKind.i64.wrap ((a : Int) + 1) = ((a + 1 : Nat) : Int) := by rw [wrap_id (by omega) (by omega)]; omega
    have b4 : (((a + 1 : Nat) : Int) = 0) = False := by simp; omega
    simp only [go_sem, Nat.reduceEqDiff, Nat.reduceAdd]
    refine ACallL.fresh1 h1 rfl ?_
    simp only [oneE, go_sem, Nat.reduceEqDiff, Nat.reduceAdd]
    refine ACallL.fresh1 h2 rfl ?_
    simp only [oneE, go_sem, Nat.reduceEqDiff, Nat.reduceAdd]
    refine ACallL.fresh1 h3 rfl ?_
    simp only [oneE, go_sem, Nat.reduceEqDiff, Nat.reduceAdd, e1]
    refine ACallL.fresh1 h4 rfl ?_
    simp only [oneE, go_sem, Nat.reduceEqDiff, decide_true, beq_self_eq_true, bne_self_eq_false, b2]
    refine ACallL.quiet1 hs rfl rfl rfl ?_
    cases b5 : decide (((a + 1 : Nat) : Int) ≥ (hour : Int))
    · have hs3 := hsure (a + 1) (by have := of_decide_eq_false b5; omega)
      have hp3 := hno (a + 1) (by omega) (by have := of_decide_eq_false b5; omega)
      rw [hp3] at hs3
      simp only [go_sem, Nat.reduceEqDiff, beq_self_eq_true, b3, b5]
      refine ACallL.quiet1 hs3 rfl rfl rfl ?_
      simp only [go_sem, Nat.reduceEqDiff, Bool.not_false, beq_self_eq_true, e2, b3, b4, mod_nat]
      refine ACallL.quiet1 hs2 rfl rfl rfl ?_
      simp only [go_sem, Nat.reduceEqDiff, beq_self_eq_true]
      refine aliveL ?_
      simp only [go_sem, Nat.reduceEqDiff]
      exact finL_ret [] ⟨rfl, rfl, rfl, rfl, _, rfl, ret_mk rfl⟩
    · simp only [go_sem, Nat.reduceEqDiff, Bool.not_true, undef, beq_self_eq_true, e2, b3, b4, b5, mod_nat]
      refine ACallL.quiet1 hs2 rfl rfl rfl ?_
      simp only [go_sem, Nat.reduceEqDiff, beq_self_eq_true]
      refine aliveL ?_
      simp only [go_sem, Nat.reduceEqDiff]
      exact finL_ret [] ⟨rfl, rfl, rfl, rfl, _, rfl, ret_mk rfl⟩
end Go.Proofs.Ytcpkkjbkbdmopaa
