/- Proved here: laws that the statements need (WaC38, WaX2, WaX3). No conditions but those that each law states. -/
import Derived.Test.YtnmmhkkmejbckaaDoorFL
import Derived.Test.YtnmmhkkmejbckaaDoorFP
import Derived.Test.YtnmmhkkmejbckaaDoorProg
import Derived.Test.YtnmmhkkmejbckaaDoorEO

set_option linter.unusedSimpArgs false
set_option linter.unusedVariables false

/- Compiled code of functions, printed by program; each is checked to be the program's. No conditions. -/
namespace Go.Proofs.YtnmmhkkmejbckaaDoor
open Go Go.Ab
/-- dipworks/dipworkslaw07.WatchClash -/
def c8 : AC :=
 .seq (.reg [⟨(some 2), none, .box (.tmp 0)⟩,
 ⟨(some 4), none, .mov (.lit (.bool false))⟩])
 (.seq (.seq (.reg [⟨(some 17), none, .load true 2 (.tmp 2)⟩,
 ⟨(some 18), none, .call (.fn 26) [(.tmp 17)]⟩])
 (.cond (.tmp 18) (.seq (.reg [⟨(some 19), none, .call (.fn 20) []⟩,
 ⟨(some 4), none, .mov (.tmp 19)⟩])
 (.ret))
 (.skip)))
 (.seq (.reg [⟨(some 21), none, .load true 2 (.tmp 2)⟩,
 ⟨(some 22), none, .call (.fn 19) [(.tmp 21)]⟩,
 ⟨(some 20), none, .mov (.tmp 22)⟩,
 ⟨(some 23), none, .ext (.tmp 20) 0⟩,
 ⟨(some 24), none, .ext (.tmp 20) 1⟩,
 ⟨(some 5), none, .mov (.tmp 23)⟩,
 ⟨(some 6), none, .mov (.tmp 24)⟩])
 (.seq (.reg [⟨(some 26), none, .load true 2 (.tmp 2)⟩,
 ⟨(some 27), none, .call (.fn 15) [(.tmp 26)]⟩,
 ⟨(some 25), none, .mov (.tmp 27)⟩,
 ⟨(some 28), none, .ext (.tmp 25) 0⟩,
 ⟨(some 29), none, .ext (.tmp 25) 1⟩,
 ⟨(some 7), none, .mov (.tmp 28)⟩,
 ⟨(some 8), none, .mov (.tmp 29)⟩])
 (.seq (.seq (.reg [⟨(some 30), none, .load true 2 (.tmp 2)⟩,
 ⟨(some 31), none, .call (.fn 27) [(.tmp 30)]⟩,
 ⟨(some 32), none, .un .not (.tmp 31)⟩])
 (.cond (.tmp 32) (.seq (.reg [⟨(some 33), none, .mov (.tmp 6)⟩,
 ⟨(some 34), none, .bin .eql (.tmp 33) (.lit (.int .i64 1))⟩,
 ⟨(some 35), none, .mov (.tmp 34)⟩,
 ⟨(some 36), (some (35, true)), .mov (.tmp 8)⟩,
 ⟨(some 37), (some (35, true)), .mov (.tmp 6)⟩,
 ⟨(some 38), (some (35, true)), .bin .eql (.tmp 36) (.tmp 37)⟩,
 ⟨(some 39), none, .pick (.tmp 35) (.tmp 38) (.lit (.bool false))⟩,
 ⟨(some 40), none, .mov (.tmp 39)⟩,
 ⟨(some 41), (some (40, true)), .mov (.tmp 5)⟩,
 ⟨(some 42), (some (40, true)), .bin .eql (.tmp 41) (.lit (.int .i64 0))⟩,
 ⟨(some 43), none, .pick (.tmp 40) (.tmp 42) (.lit (.bool false))⟩,
 ⟨(some 44), none, .mov (.tmp 43)⟩,
 ⟨(some 45), (some (44, true)), .mov (.tmp 7)⟩,
 ⟨(some 46), (some (44, true)), .bin .eql (.tmp 45) (.lit (.int .i64 0))⟩,
 ⟨(some 47), none, .pick (.tmp 44) (.tmp 46) (.lit (.bool false))⟩,
 ⟨(some 48), none, .mov (.tmp 47)⟩,
 ⟨(some 49), (some (48, true)), .call (.fn 20) []⟩,
 ⟨(some 50), none, .pick (.tmp 48) (.tmp 49) (.lit (.bool false))⟩,
 ⟨(some 4), none, .mov (.tmp 50)⟩])
 (.ret))
 (.skip)))
 (.seq (.seq (.gcp)
 (.reg [⟨(some 51), none, .mkfn (.func 31) [] [(.tmp 2)]⟩,
 ⟨(some 9), none, .mov (.tmp 51)⟩]))
 (.seq (.reg [⟨(some 52), none, .faddr 1 (.tmp 2)⟩,
 ⟨(some 53), none, .load false 1 (.tmp 52)⟩,
 ⟨(some 54), none, .len (.tmp 53)⟩,
 ⟨(some 55), none, .bin .shl (.lit (.int .i64 1)) (.tmp 54)⟩,
 ⟨(some 56), none, .bin .sub (.tmp 55) (.lit (.int .i64 1))⟩,
 ⟨(some 10), none, .mov (.tmp 56)⟩])
 (.seq (.seq (.reg [⟨(some 57), none, .mov (.tmp 8)⟩,
 ⟨(some 58), none, .bin .neq (.tmp 57) (.lit (.int .i64 0))⟩,
 ⟨(some 59), none, .mov (.tmp 58)⟩,
 ⟨(some 60), (some (59, false)), .mov (.tmp 6)⟩,
 ⟨(some 61), (some (59, false)), .bin .eql (.tmp 60) (.lit (.int .i64 0))⟩,
 ⟨(some 62), (some (59, false)), .mov (.tmp 7)⟩,
 ⟨(some 63), (some (59, false)), .bin .eql (.tmp 62) (.lit (.int .i64 0))⟩,
 ⟨(some 64), (some (59, false)), .eqb true (.tmp 61) (.tmp 63)⟩,
 ⟨(some 65), none, .pick (.tmp 59) (.lit (.bool true)) (.tmp 64)⟩,
 ⟨(some 66), none, .mov (.tmp 65)⟩,
 ⟨(some 67), (some (66, false)), .mov (.tmp 6)⟩,
 ⟨(some 68), (some (66, false)), .bin .neq (.tmp 67) (.lit (.int .i64 0))⟩,
 ⟨(some 69), (some (66, false)), .mov (.tmp 68)⟩,
 ⟨(some 70), (some (69, true)), .mov (.tmp 6)⟩,
 ⟨(some 71), (some (69, true)), .bin .neq (.tmp 70) (.lit (.int .i64 4))⟩,
 ⟨(some 72), (some (69, true)), .mov (.tmp 71)⟩,
 ⟨(some 73), (some (72, false)), .mov (.tmp 5)⟩,
 ⟨(some 74), (some (72, false)), .bin .neq (.tmp 73) (.lit (.int .i64 0))⟩,
 ⟨(some 75), (some (69, true)), .pick (.tmp 72) (.lit (.bool true)) (.tmp 74)⟩,
 ⟨(some 76), (some (66, false)), .pick (.tmp 69) (.tmp 75) (.lit (.bool false))⟩,
 ⟨(some 77), none, .pick (.tmp 66) (.lit (.bool true)) (.tmp 76)⟩])
 (.cond (.tmp 77) (.seq (.reg [⟨(some 4), none, .mov (.lit (.bool false))⟩])
 (.ret))
 (.skip)))
 (.seq (.seq (.reg [⟨(some 78), none, .mov (.tmp 6)⟩,
 ⟨(some 79), none, .bin .neq (.tmp 78) (.lit (.int .i64 0))⟩])
 (.cond (.tmp 79) (.seq (.reg [⟨(some 80), none, .call (.fn 20) []⟩,
 ⟨(some 4), none, .mov (.tmp 80)⟩])
 (.ret))
 (.skip)))
 (.seq (.seq (.reg [⟨(some 81), none, .mov (.tmp 5)⟩,
 ⟨(some 82), none, .bin .lss (.tmp 81) (.lit (.int .i64 1))⟩,
 ⟨(some 83), none, .mov (.tmp 82)⟩,
 ⟨(some 84), (some (83, false)), .mov (.tmp 5)⟩,
 ⟨(some 85), (some (83, false)), .mov (.tmp 10)⟩,
 ⟨(some 86), (some (83, false)), .bin .gtr (.tmp 84) (.tmp 85)⟩,
 ⟨(some 87), none, .pick (.tmp 83) (.lit (.bool true)) (.tmp 86)⟩,
 ⟨(some 88), none, .mov (.tmp 87)⟩,
 ⟨(some 89), (some (88, false)), .mov (.tmp 9)⟩,
 ⟨(some 90), (some (88, false)), .mov (.tmp 5)⟩,
 ⟨(some 91), (some (88, false)), .call (.tmp 89) [(.tmp 90)]⟩,
 ⟨(some 92), (some (88, false)), .un .not (.tmp 91)⟩,
 ⟨(some 93), none, .pick (.tmp 88) (.lit (.bool true)) (.tmp 92)⟩])
 (.cond (.tmp 93) (.seq (.reg [⟨(some 4), none, .mov (.lit (.bool false))⟩])
 (.ret))
 (.skip)))
 (.seq (.reg [⟨(some 11), none, .mov (.lit (.int .i64 0))⟩])
 (.seq (.seq (.reg [⟨(some 94), none, .faddr 1 (.tmp 2)⟩,
 ⟨(some 95), none, .load false 1 (.tmp 94)⟩,
 ⟨(some 96), none, .len (.tmp 95)⟩,
 ⟨(some 97), none, .mov (.lit (.int .i64 0))⟩])
 (.block 0 (.loop (.seq (.reg [⟨(some 98), none, .bin .lss (.tmp 97) (.tmp 96)⟩])
 (.seq (.cond (.tmp 98) (.skip)
 (.exit 0))
 (.seq (.block 1 (.seq (.reg [⟨(some 99), none, .mov (.tmp 97)⟩,
 ⟨(some 12), none, .mov (.tmp 99)⟩])
 (.seq (.seq (.reg [⟨(some 100), none, .mov (.tmp 5)⟩,
 ⟨(some 101), none, .mov (.tmp 12)⟩,
 ⟨(some 102), none, .bin .shr (.tmp 100) (.tmp 101)⟩,
 ⟨(some 103), none, .bin .and (.tmp 102) (.lit (.int .i64 1))⟩,
 ⟨(some 104), none, .bin .eql (.tmp 103) (.lit (.int .i64 0))⟩])
 (.cond (.tmp 104) (.exit 1)
 (.skip)))
 (.seq (.reg [⟨(some 106), none, .load true 2 (.tmp 2)⟩,
 ⟨(some 107), none, .mov (.tmp 12)⟩,
 ⟨(some 108), none, .call (.fn 13) [(.tmp 106), (.tmp 107)]⟩,
 ⟨(some 105), none, .mov (.tmp 108)⟩,
 ⟨(some 109), none, .ext (.tmp 105) 0⟩,
 ⟨(some 110), none, .ext (.tmp 105) 1⟩,
 ⟨(some 13), none, .mov (.tmp 109)⟩,
 ⟨(some 14), none, .mov (.tmp 110)⟩])
 (.seq (.seq (.reg [⟨(some 111), none, .mov (.tmp 14)⟩,
 ⟨(some 112), none, .bin .neq (.tmp 111) (.lit (.int .i64 0))⟩,
 ⟨(some 113), none, .mov (.tmp 112)⟩,
 ⟨(some 114), (some (113, false)), .mov (.tmp 13)⟩,
 ⟨(some 115), (some (113, false)), .bin .lss (.tmp 114) (.lit (.int .i64 0))⟩,
 ⟨(some 116), none, .pick (.tmp 113) (.lit (.bool true)) (.tmp 115)⟩,
 ⟨(some 117), none, .mov (.tmp 116)⟩,
 ⟨(some 118), (some (117, false)), .mov (.tmp 9)⟩,
 ⟨(some 119), (some (117, false)), .mov (.tmp 5)⟩,
 ⟨(some 120), (some (117, false)), .mov (.tmp 12)⟩,
 ⟨(some 121), (some (117, false)), .bin .shl (.lit (.int .i64 1)) (.tmp 120)⟩,
 ⟨(some 122), (some (117, false)), .bin .andNot (.tmp 119) (.tmp 121)⟩,
 ⟨(some 123), (some (117, false)), .call (.tmp 118) [(.tmp 122)]⟩,
 ⟨(some 124), none, .pick (.tmp 117) (.lit (.bool true)) (.tmp 123)⟩])
 (.cond (.tmp 124) (.seq (.reg [⟨(some 4), none, .mov (.lit (.bool false))⟩])
 (.ret))
 (.skip)))
 (.reg [⟨(some 125), none, .mov (.tmp 11)⟩,
 ⟨(some 126), none, .mov (.tmp 13)⟩,
 ⟨(some 127), none, .bin .or (.tmp 125) (.tmp 126)⟩,
 ⟨(some 11), none, .mov (.tmp 127)⟩]))))))
 (.reg [⟨(some 128), none, .bin .add (.tmp 97) (.lit (.int .i64 1))⟩,
 ⟨(some 97), none, .mov (.tmp 128)⟩])))))))
 (.seq (.reg [⟨(some 129), none, .mov (.tmp 1)⟩,
 ⟨(some 130), none, .conv .i64 (.tmp 129)⟩,
 ⟨(some 131), none, .mov (.tmp 10)⟩,
 ⟨(some 132), none, .bin .and (.tmp 130) (.tmp 131)⟩,
 ⟨(some 15), none, .mov (.tmp 132)⟩,
 ⟨(some 16), none, .mov (.fn 24)⟩])
 (.seq (.reg [⟨(some 133), none, .mov (.tmp 16)⟩,
 ⟨(some 134), none, .mov (.tmp 11)⟩,
 ⟨(some 135), none, .call (.tmp 133) [(.tmp 134)]⟩,
 ⟨(some 136), none, .mov (.tmp 16)⟩,
 ⟨(some 137), none, .mov (.tmp 5)⟩,
 ⟨(some 138), none, .call (.tmp 136) [(.tmp 137)]⟩,
 ⟨(some 139), none, .bin .lss (.tmp 135) (.tmp 138)⟩,
 ⟨(some 140), none, .mov (.tmp 139)⟩,
 ⟨(some 141), (some (140, true)), .mov (.tmp 9)⟩,
 ⟨(some 142), (some (140, true)), .mov (.tmp 15)⟩,
 ⟨(some 143), (some (140, true)), .call (.tmp 141) [(.tmp 142)]⟩,
 ⟨(some 144), (some (140, true)), .un .not (.tmp 143)⟩,
 ⟨(some 145), (some (140, true)), .mov (.tmp 144)⟩,
 ⟨(some 146), (some (145, false)), .mov (.tmp 16)⟩,
 ⟨(some 147), (some (145, false)), .mov (.tmp 15)⟩,
 ⟨(some 148), (some (145, false)), .call (.tmp 146) [(.tmp 147)]⟩,
 ⟨(some 149), (some (145, false)), .mov (.tmp 16)⟩,
 ⟨(some 150), (some (145, false)), .mov (.tmp 5)⟩,
 ⟨(some 151), (some (145, false)), .call (.tmp 149) [(.tmp 150)]⟩,
 ⟨(some 152), (some (145, false)), .bin .gtr (.tmp 148) (.tmp 151)⟩,
 ⟨(some 153), (some (140, true)), .pick (.tmp 145) (.lit (.bool true)) (.tmp 152)⟩,
 ⟨(some 154), (some (140, true)), .mov (.tmp 153)⟩,
 ⟨(some 155), (some (154, false)), .mov (.tmp 16)⟩,
 ⟨(some 156), (some (154, false)), .mov (.tmp 15)⟩,
 ⟨(some 157), (some (154, false)), .call (.tmp 155) [(.tmp 156)]⟩,
 ⟨(some 158), (some (154, false)), .mov (.tmp 16)⟩,
 ⟨(some 159), (some (154, false)), .mov (.tmp 5)⟩,
 ⟨(some 160), (some (154, false)), .call (.tmp 158) [(.tmp 159)]⟩,
 ⟨(some 161), (some (154, false)), .bin .eql (.tmp 157) (.tmp 160)⟩,
 ⟨(some 162), (some (154, false)), .mov (.tmp 161)⟩,
 ⟨(some 163), (some (162, true)), .mov (.tmp 15)⟩,
 ⟨(some 164), (some (162, true)), .mov (.tmp 5)⟩,
 ⟨(some 165), (some (162, true)), .bin .geq (.tmp 163) (.tmp 164)⟩,
 ⟨(some 166), (some (154, false)), .pick (.tmp 162) (.tmp 165) (.lit (.bool false))⟩,
 ⟨(some 167), (some (140, true)), .pick (.tmp 154) (.lit (.bool true)) (.tmp 166)⟩,
 ⟨(some 168), none, .pick (.tmp 140) (.tmp 167) (.lit (.bool false))⟩,
 ⟨(some 169), none, .mov (.tmp 168)⟩,
 ⟨(some 170), (some (169, true)), .call (.fn 20) []⟩,
 ⟨(some 171), none, .pick (.tmp 169) (.tmp 170) (.lit (.bool false))⟩,
 ⟨(some 4), none, .mov (.tmp 171)⟩])
 (.ret))))))))))))))
theorem k8 : FnC Tryd.prog 8 172 [] [7] [.tmp 4] c8 2 := ⟨Tryd.f8, _, Tryd.func8, rfl, by decide, rfl, by decide, by kernel_rfl, by kernel_rfl⟩
/-- dipworks/dipworkslaw07.WatchClash$1 -/
def c31 : AC :=
 .seq (.reg [⟨(some 3), none, .mov (.lit (.bool false))⟩])
 (.seq (.reg [⟨(some 9), none, .load true 2 (.tmp 1)⟩,
 ⟨(some 4), none, .alloc [(.slice none 0 0), (.slice none 0 0)]⟩,
 ⟨none, none, .store 2 (.tmp 4) (.tmp 9)⟩])
 (.seq (.reg [⟨(some 10), none, .faddr 1 (.tmp 4)⟩,
 ⟨none, none, .store 1 (.tmp 10) (.lit (.slice none 0 0))⟩])
 (.seq (.seq (.reg [⟨(some 11), none, .faddr 1 (.tmp 1)⟩,
 ⟨(some 12), none, .load false 1 (.tmp 11)⟩,
 ⟨(some 13), none, .len (.tmp 12)⟩,
 ⟨(some 14), none, .mov (.lit (.int .i64 0))⟩])
 (.block 0 (.loop (.seq (.reg [⟨(some 15), none, .bin .lss (.tmp 14) (.tmp 13)⟩])
 (.seq (.cond (.tmp 15) (.skip)
 (.exit 0))
 (.seq (.block 1 (.seq (.reg [⟨(some 16), none, .mov (.tmp 14)⟩,
 ⟨(some 17), none, .iaddr 5 (.tmp 12) (.tmp 14)⟩,
 ⟨(some 18), none, .load true 5 (.tmp 17)⟩,
 ⟨(some 6), none, .alloc [(.int .i64 0), (.int .i64 0), (.int .i64 0), (.int .i64 0), (.bool false)]⟩,
 ⟨(some 5), none, .mov (.tmp 16)⟩,
 ⟨none, none, .store 5 (.tmp 6) (.tmp 18)⟩])
 (.seq (.reg [⟨(some 19), none, .mov (.tmp 0)⟩,
 ⟨(some 20), none, .mov (.tmp 5)⟩,
 ⟨(some 21), none, .bin .shr (.tmp 19) (.tmp 20)⟩,
 ⟨(some 22), none, .bin .and (.tmp 21) (.lit (.int .i64 1))⟩,
 ⟨(some 23), none, .bin .eql (.tmp 22) (.lit (.int .i64 1))⟩])
 (.cond (.tmp 23) (.reg [⟨(some 24), none, .faddr 1 (.tmp 4)⟩,
 ⟨(some 25), none, .load false 1 (.tmp 24)⟩,
 ⟨(some 26), none, .load true 5 (.tmp 6)⟩,
 ⟨(some 27), none, .bslice 5 (.agg #[(.int .i64 0), (.int .i64 0), (.int .i64 0), (.int .i64 0), (.bool false)]) 1 [(0, (.tmp 26))]⟩,
 ⟨(some 28), none, .app 5 40 (.tmp 25) (.tmp 27)⟩,
 ⟨(some 29), none, .faddr 1 (.tmp 4)⟩,
 ⟨none, none, .store 1 (.tmp 29) (.tmp 28)⟩])
 (.skip)))))
 (.reg [⟨(some 30), none, .bin .add (.tmp 14) (.lit (.int .i64 1))⟩,
 ⟨(some 14), none, .mov (.tmp 30)⟩])))))))
 (.seq (.seq (.gcp)
 (.reg [⟨(some 32), none, .load true 2 (.tmp 4)⟩,
 ⟨(some 33), none, .call (.fn 15) [(.tmp 32)]⟩,
 ⟨(some 31), none, .mov (.tmp 33)⟩,
 ⟨(some 34), none, .ext (.tmp 31) 0⟩,
 ⟨(some 35), none, .ext (.tmp 31) 1⟩,
 ⟨(some 7), none, .mov (.tmp 34)⟩,
 ⟨(some 8), none, .mov (.tmp 35)⟩]))
 (.seq (.reg [⟨(some 36), none, .mov (.tmp 8)⟩,
 ⟨(some 37), none, .bin .eql (.tmp 36) (.lit (.int .i64 0))⟩,
 ⟨(some 38), none, .mov (.tmp 37)⟩,
 ⟨(some 39), (some (38, true)), .mov (.tmp 7)⟩,
 ⟨(some 40), (some (38, true)), .bin .eql (.tmp 39) (.lit (.int .i64 0))⟩,
 ⟨(some 41), none, .pick (.tmp 38) (.tmp 40) (.lit (.bool false))⟩,
 ⟨(some 3), none, .mov (.tmp 41)⟩])
 (.ret))))))
theorem k31 : FnC Tryd.prog 31 42 [] [9] [.tmp 3] c31 2 := ⟨Tryd.f31, _, Tryd.func31, rfl, by decide, rfl, by decide, by kernel_rfl, by kernel_rfl⟩
end Go.Proofs.YtnmmhkkmejbckaaDoor

/- WatchClash: do the finds of a set clash (the document's closure). -/
namespace Go.Proofs.YtnmmhkkmejbckaaDoor
open Go Go.Ab

/-- The finds of a set. -/
def pickF (fs : List Fi) (set : Nat) : Nat → List Fi
  | 0 => []
  | j + 1 => pickF fs set j ++ if set.testBit j then (fs[j]?).toList else []
theorem pickF_len (fs : List Fi) (set : Nat) : ∀ j, (pickF fs set j).length ≤ j
  | 0 => Nat.le_refl _
  | j + 1 => by
    unfold pickF
    have := pickF_len fs set j
    split
    · rw [List.length_append]
      cases fs[j]? <;> simp <;> omega
    · rw [List.append_nil]; omega
theorem pickF_mem {fs : List Fi} {set : Nat} {x : Fi} : ∀ {j : Nat}, x ∈ pickF fs set j → x ∈ fs
  | 0, h => by cases h
  | j + 1, h => by
    unfold pickF at h
    rcases List.mem_append.1 h with h | h
    · exact pickF_mem h
    · split at h
      · rw [Option.mem_toList] at h; exact List.mem_of_getElem? h
      · cases h
theorem pickF_map (os : List Ow) (fs : List Fi) (set : Nat) : ∀ j, j ≤ fs.length → (pickF fs set j).map (fitN os) = pickN (fs.map (fitN os)) set j
  | 0, _ => rfl
  | j + 1, hj => by
    unfold pickF pickN
    rw [List.map_append, pickF_map os fs set j (by omega), List.getD_eq_getElem?_getD, List.getElem?_map, List.getElem?_eq_getElem (show j < fs.length by omega)]
    split <;> rfl
def pickW (w : Wa) (set : Nat) : Wa := { os := w.os, fs := pickF w.fs set w.fs.length }
theorem pickW_fits (w : Wa) (set : Nat) : (pickW w set).fits = pick w.fits set := by
  unfold Wa.fits pickW pick
  simp only
  rw [pickF_map w.os w.fs set _ (Nat.le_refl _), List.length_map]
theorem pickW_OK {w : Wa} (hw : w.OK) (set : Nat) : (pickW w set).OK :=
  ⟨hw.no, Nat.le_trans (pickF_len _ _ _) hw.nf, hw.os, fun f hf => hw.fs f (pickF_mem hf)⟩

set_option maxRecDepth 8000 in
set_option maxHeartbeats 8000000 in
theorem clash_ok (w : Wa) (hw : w.OK) (set : Nat) (hs : set < 64) : ACall Tryd.prog 31 [.t (vi set), .t (.ptr (tWa w) 0)] [] (ret (vb (decide (waysN (pick w.fits set) = 0)))) := by
  refine ACall.walk k31 ?_
  have hx := pickW_OK hw set
  have hxok := ((pickW w set).ok_iff).2 hx
  have hLx : Lens (pickW w set) := ⟨by have := hx.no; omega, by have := hx.nf; omega⟩
  have hco := Count_ok (pickW w set) hLx
  rw [show specCount (pickW w set) = (((waysN (pickW w set).fits : Nat) : Int), 0) by unfold specCount; rw [hxok]; rfl, pickW_fits] at hco
  have hn4 := hw.nf
  have hpf : (pickW w set).fs = pickF w.fs set w.fs.length := rfl
  have hpo : (pickW w set).os = w.os := rfl
  unfold c31
  unfold tWa wa2 at hco ⊢
  rw [hpf, hpo] at hco
  simp only [oneE] at hco
  simp only [go_sem, Nat.reduceEqDiff, Nat.reduceAdd, Nat.reduceSub, Nat.reduceMul, Nat.reduceLT, Nat.reduceLeDiff, Nat.reduceMod, Nat.reduceDiv, Int.reduceToNat, Int.reduceLT, Int.reduceLE, Bool.not_true, Bool.not_false, reduceIte, Int.reduceEq, Int.reduceBEq, Int.reduceBNe, Int.reduceGT, Int.reduceGE, Int.reduceNeg, Int.reduceAdd, Int.reduceSub, Nat.reduceBEq, decide_true, decide_false, undef, beq_self_eq_true, bne_self_eq_false, Bool.and_true, Bool.true_and, Bool.and_false, Bool.false_and, Bool.or_true, Bool.true_or, Bool.or_false, Bool.false_or, List.length_map]
  refine awpL_loopK w.fs.length (fun j s => s = { env := [(14, .t (vi j)), (0, .t (vi set)), (4, .ptr 0 0), (12, .t (.slice 5 (w.fs.map tFi))), (13, .t (vi w.fs.length))], σ := [.cells [.t (.slice 4 (w.os.map tOw)), .loc 1 (pickF w.fs set j).length], .row 5 (((pickF w.fs set j).map tFi).map .t)] })
    ⟨_, (Sub.ghostC 0 1 5 (by decide) rfl rfl).trans (Sub.gc [0, 1] [14, 0, 4, 12, 13] rfl rfl), rfl⟩ ?_
  rintro j s hj rfl
  have hj0 : ((j : Int) < 0) = False := eq_false (by omega)
  have hpl := pickF_len w.fs set j
  cases g : decide ((j : Int) < w.fs.length)
  · have hje : j = w.fs.length := by have := of_decide_eq_false g; omega
    rw [hje] at hpl ⊢
    rw [hje] at g
    generalize pickF w.fs set w.fs.length = P at *
    simp only [go_sem, Nat.reduceEqDiff, Nat.reduceAdd, Nat.reduceSub, Nat.reduceMul, Nat.reduceLT, Nat.reduceLeDiff, Nat.reduceMod, Nat.reduceDiv, Int.reduceToNat, Int.reduceLT, Int.reduceLE, Bool.not_true, Bool.not_false, reduceIte, Int.reduceEq, Int.reduceBEq, Int.reduceBNe, Int.reduceGT, Int.reduceGE, Int.reduceNeg, Int.reduceAdd, Int.reduceSub, Nat.reduceBEq, decide_true, decide_false, undef, beq_self_eq_true, bne_self_eq_false, Bool.and_true, Bool.true_and, Bool.and_false, Bool.false_and, Bool.or_true, Bool.true_or, Bool.or_false, Bool.false_or, g]
    refine awpL_gcpE [0] [4] { env := [(4, .ptr 0 0)], σ := [.cells [.t (.slice 4 (w.os.map tOw)), .t (.slice 5 (P.map tFi))]] } (St.gc_mk rfl (by
      unfold σgc
      simp only [List.map_cons, List.map_nil, List.getD_cons_zero, AO.gc]
      rw [gc_loc (n := 10) (xs := P.map tFi) rfl rfl (by rw [List.length_map])]
      rfl) rfl rfl) rfl rfl ?_
    simp only [go_sem, Nat.reduceEqDiff, Nat.reduceAdd, Nat.reduceSub, Nat.reduceMul, Nat.reduceLT, Nat.reduceLeDiff, Nat.reduceMod, Nat.reduceDiv, Int.reduceToNat, Int.reduceLT, Int.reduceLE, Bool.not_true, Bool.not_false, reduceIte, Int.reduceEq, Int.reduceBEq, Int.reduceBNe, Int.reduceGT, Int.reduceGE, Int.reduceNeg, Int.reduceAdd, Int.reduceSub, Nat.reduceBEq, decide_true, decide_false, undef, beq_self_eq_true, bne_self_eq_false, Bool.and_true, Bool.true_and, Bool.and_false, Bool.false_and, Bool.or_true, Bool.true_or, Bool.or_false, Bool.false_or]
    refine ACallL.quiet1 hco rfl rfl rfl ?_
    generalize waysN (pick w.fits set) = N at *
    by_cases hN : N = 0
    · subst hN
      simp only [go_sem, Nat.reduceEqDiff, Nat.reduceAdd, Nat.reduceSub, Nat.reduceMul, Nat.reduceLT, Nat.reduceLeDiff, Nat.reduceMod, Nat.reduceDiv, Int.reduceToNat, Int.reduceLT, Int.reduceLE, Bool.not_true, Bool.not_false, reduceIte, Int.reduceEq, Int.reduceBEq, Int.reduceBNe, Int.reduceGT, Int.reduceGE, Int.reduceNeg, Int.reduceAdd, Int.reduceSub, Nat.reduceBEq, decide_true, decide_false, undef, beq_self_eq_true, bne_self_eq_false, Bool.and_true, Bool.true_and, Bool.and_false, Bool.false_and, Bool.or_true, Bool.true_or, Bool.or_false, Bool.false_or]
      exact finL_ret [] ⟨rfl, rfl, rfl, rfl, _, rfl, ret_mk rfl⟩
    · have z : ((N : Int) == 0) = false := beq_false_of_ne (by omega)
      simp only [go_sem, Nat.reduceEqDiff, Nat.reduceAdd, Nat.reduceSub, Nat.reduceMul, Nat.reduceLT, Nat.reduceLeDiff, Nat.reduceMod, Nat.reduceDiv, Int.reduceToNat, Int.reduceLT, Int.reduceLE, Bool.not_true, Bool.not_false, reduceIte, Int.reduceEq, Int.reduceBEq, Int.reduceBNe, Int.reduceGT, Int.reduceGE, Int.reduceNeg, Int.reduceAdd, Int.reduceSub, Nat.reduceBEq, decide_true, decide_false, undef, beq_self_eq_true, bne_self_eq_false, Bool.and_true, Bool.true_and, Bool.and_false, Bool.false_and, Bool.or_true, Bool.true_or, Bool.or_false, Bool.false_or, z]
      exact finL_ret [] ⟨rfl, rfl, rfl, rfl, _, rfl, ret_mk (by rw [decide_eq_false hN])⟩
  have hjl : j < w.fs.length := by have := of_decide_eq_true g; omega
  have hxj : w.fs[j]? = some w.fs[j] := List.getElem?_eq_getElem hjl
  have hst : pickF w.fs set (j + 1) = pickF w.fs set j ++ if set.testBit j then (w.fs[j]?).toList else [] := rfl
  rw [hst, hxj]
  have hw1 : IntKind.i64.wrap ((j : Int) + 1) = ((j + 1 : Nat) : Int) := by rw [wrap_id (by omega) (by omega)]; omega
  have hb := bit_eq (a := set) (i := j) (by omega)
  generalize pickF w.fs set j = P at *
  generalize w.fs[j] = x at *
  have hto : tFi x = .agg [vi x.hut, vi x.minute, vi x.lo, vi x.hi, vb x.stopped] := rfl
  cases hbb : set.testBit j
  · rw [hbb] at hb
    simp only [go_sem, Nat.reduceEqDiff, Nat.reduceAdd, Nat.reduceSub, Nat.reduceMul, Nat.reduceLT, Nat.reduceLeDiff, Nat.reduceMod, Nat.reduceDiv, Int.reduceToNat, Int.reduceLT, Int.reduceLE, Bool.not_true, Bool.not_false, reduceIte, Int.reduceEq, Int.reduceBEq, Int.reduceBNe, Int.reduceGT, Int.reduceGE, Int.reduceNeg, Int.reduceAdd, Int.reduceSub, Nat.reduceBEq, decide_true, decide_false, undef, beq_self_eq_true, bne_self_eq_false, Bool.and_true, Bool.true_and, Bool.and_false, Bool.false_and, Bool.or_true, Bool.true_or, Bool.or_false, Bool.false_or, g, hj0, List.getElem?_map, hxj, Option.map_some, hto, IntKind.bits, hb, hw1, List.append_nil]
    exact ⟨hjl, _, Sub.gc [0, 1] [14, 0, 4, 12, 13] rfl rfl, St.gc_mk rfl (by unfold σgc; simp only [List.map_cons, List.map_nil, List.getD_cons_zero, List.getD_cons_succ, AO.gc, gc_row]; rfl) rfl rfl⟩
  · rw [hbb] at hb
    have hl1 : (P ++ [x]).length = P.length + 1 := by simp
    have x1 : (P.length + 1 ≤ maxLen) = True := eq_true (by unfold maxLen; omega)
    have x2 : ((P.length + 1) * 40 ≤ 140737488355328) = True := eq_true (by omega)
    have happ : (P.map tFi).map E.t ++ [.t (.agg [vi x.hut, vi x.minute, vi x.lo, vi x.hi, vb x.stopped])] = ((P ++ [x]).map tFi).map E.t := by simp [tFi]
    simp only [go_sem, Nat.reduceEqDiff, Nat.reduceAdd, Nat.reduceSub, Nat.reduceMul, Nat.reduceLT, Nat.reduceLeDiff, Nat.reduceMod, Nat.reduceDiv, Int.reduceToNat, Int.reduceLT, Int.reduceLE, Bool.not_true, Bool.not_false, reduceIte, Int.reduceEq, Int.reduceBEq, Int.reduceBNe, Int.reduceGT, Int.reduceGE, Int.reduceNeg, Int.reduceAdd, Int.reduceSub, Nat.reduceBEq, decide_true, decide_false, undef, beq_self_eq_true, bne_self_eq_false, Bool.and_true, Bool.true_and, Bool.and_false, Bool.false_and, Bool.or_true, Bool.true_or, Bool.or_false, Bool.false_or, g, hj0, List.getElem?_map, hxj, Option.map_some, hto, IntKind.bits, hb, hw1, List.length_map, x1, x2, happ, Option.toList_some, hl1]
    exact ⟨hjl, _, Sub.gc [0, 1] [14, 0, 4, 12, 13] rfl rfl, St.gc_mk rfl (by unfold σgc; simp only [List.map_cons, List.map_nil, List.getD_cons_zero, List.getD_cons_succ, AO.gc, gc_row]; rfl) rfl rfl⟩
end Go.Proofs.YtnmmhkkmejbckaaDoor

/- WatchClash. -/
namespace Go.Proofs.YtnmmhkkmejbckaaDoor
open Go Go.Ab

theorem specClash_at {w : Wa} (hok : w.ok = true) : specClash w = if waysN w.fits = 0 then (match clashF w.fits with
  | some s => (((s : Nat) : Int), (0 : Int))
  | none => (0, 4)) else (0, 4) := by unfold specClash; rw [hok, if_pos rfl]; rfl
def M8 (w : Wa) (u : Nat) (st : St) : Prop := lk st.env 1 = .t (.lit (.int .u8 u)) ∧ lk st.env 2 = .t (.ptr (tWa w) 0) ∧ lk st.env 5 = .t (vi (specClash w).1) ∧ lk st.env 6 = .t (vi (specClash w).2) ∧ lk st.env 7 = .t (vi (waysN w.fits : Nat)) ∧ lk st.env 8 = .t (vi 0) ∧ lk st.env 9 = .t (.fn (.func 31) [] [.ptr (tWa w) 0]) ∧ lk st.env 10 = .t (vi ((2 ^ w.fs.length - 1 : Nat) : Int)) ∧ st.σ = [] ∧ st.df = [] ∧ st.k = 0
set_option maxRecDepth 8000 in
set_option maxHeartbeats 8000000 in
theorem WatchClash_ok (w : Wa) (hL : Lens w) (u : Nat) (hu : u < 256) : ACall Tryd.prog 8 [.t (tWa w), .t (.lit (.int .u8 u))] [] (res (.ret (.t (vb true)))) := by
  refine ACall.walk k8 ?_
  have h26 := long_ok w
  have h27 := rwatches_ok w hL
  have q1 := Clash_ok w hL
  have q2 := Count_ok w hL
  have hcl := fun hw : w.OK => clash_ok w hw
  unfold c8
  refine awpL_chop 7 (c1 := ?a1) (c2 := ?a2) (fun st => w.OK ∧ M8 w u st) ?hc ?_ ?_
  case hc => simp only [chop]; rfl
  · unfold tWa wa2 at h26 h27 q1 q2 ⊢
    simp only [go_sem, Nat.reduceEqDiff, Nat.reduceAdd, Nat.reduceSub, Nat.reduceMul, Nat.reduceLT, Nat.reduceLeDiff, Nat.reduceMod, Nat.reduceDiv, Int.reduceToNat, Int.reduceLT, Int.reduceLE, Bool.not_true, Bool.not_false, reduceIte, Int.reduceEq, Int.reduceBEq, Int.reduceBNe, Int.reduceGT, Int.reduceGE, Int.reduceNeg, Int.reduceAdd, Int.reduceSub, Nat.reduceBEq, decide_true, decide_false, undef, beq_self_eq_true, bne_self_eq_false, Bool.and_true, Bool.true_and, Bool.and_false, Bool.false_and, Bool.or_true, Bool.true_or, Bool.or_false, Bool.false_or]
    refine ACallL.quiet1 h26 rfl rfl rfl ?_
    cases hlg : w.long
    rotate_left
    · simp only [go_sem, Nat.reduceEqDiff, Nat.reduceAdd, Nat.reduceSub, Nat.reduceMul, Nat.reduceLT, Nat.reduceLeDiff, Nat.reduceMod, Nat.reduceDiv, Int.reduceToNat, Int.reduceLT, Int.reduceLE, Bool.not_true, Bool.not_false, reduceIte, Int.reduceEq, Int.reduceBEq, Int.reduceBNe, Int.reduceGT, Int.reduceGE, Int.reduceNeg, Int.reduceAdd, Int.reduceSub, Nat.reduceBEq, decide_true, decide_false, undef, beq_self_eq_true, bne_self_eq_false, Bool.and_true, Bool.true_and, Bool.and_false, Bool.false_and, Bool.or_true, Bool.true_or, Bool.or_false, Bool.false_or]
      refine ACallL.quiet1 alive_ok rfl rfl rfl ?_
      simp only [go_sem, Nat.reduceEqDiff, Nat.reduceAdd, Nat.reduceSub, Nat.reduceMul, Nat.reduceLT, Nat.reduceLeDiff, Nat.reduceMod, Nat.reduceDiv, Int.reduceToNat, Int.reduceLT, Int.reduceLE, Bool.not_true, Bool.not_false, reduceIte, Int.reduceEq, Int.reduceBEq, Int.reduceBNe, Int.reduceGT, Int.reduceGE, Int.reduceNeg, Int.reduceAdd, Int.reduceSub, Nat.reduceBEq, decide_true, decide_false, undef, beq_self_eq_true, bne_self_eq_false, Bool.and_true, Bool.true_and, Bool.and_false, Bool.false_and, Bool.or_true, Bool.true_or, Bool.or_false, Bool.false_or]
      exact finL_ret [] ⟨rfl, rfl, rfl, rfl, _, rfl, res_mk rfl⟩
    cases hok : w.ok
    · have e1 : specClash w = (0, 1) := by unfold specClash; rw [hok]; rfl
      have e2 : specCount w = (0, 1) := by unfold specCount; rw [hok]; rfl
      rw [e1] at q1
      rw [e2] at q2
      rw [hok] at h27
      simp only [oneE] at q1 q2
      simp only [go_sem, Nat.reduceEqDiff, Nat.reduceAdd, Nat.reduceSub, Nat.reduceMul, Nat.reduceLT, Nat.reduceLeDiff, Nat.reduceMod, Nat.reduceDiv, Int.reduceToNat, Int.reduceLT, Int.reduceLE, Bool.not_true, Bool.not_false, reduceIte, Int.reduceEq, Int.reduceBEq, Int.reduceBNe, Int.reduceGT, Int.reduceGE, Int.reduceNeg, Int.reduceAdd, Int.reduceSub, Nat.reduceBEq, decide_true, decide_false, undef, beq_self_eq_true, bne_self_eq_false, Bool.and_true, Bool.true_and, Bool.and_false, Bool.false_and, Bool.or_true, Bool.true_or, Bool.or_false, Bool.false_or]
      refine ACallL.quiet1 q1 rfl rfl rfl ?_
      simp only [go_sem, Nat.reduceEqDiff, Nat.reduceAdd, Nat.reduceSub, Nat.reduceMul, Nat.reduceLT, Nat.reduceLeDiff, Nat.reduceMod, Nat.reduceDiv, Int.reduceToNat, Int.reduceLT, Int.reduceLE, Bool.not_true, Bool.not_false, reduceIte, Int.reduceEq, Int.reduceBEq, Int.reduceBNe, Int.reduceGT, Int.reduceGE, Int.reduceNeg, Int.reduceAdd, Int.reduceSub, Nat.reduceBEq, decide_true, decide_false, undef, beq_self_eq_true, bne_self_eq_false, Bool.and_true, Bool.true_and, Bool.and_false, Bool.false_and, Bool.or_true, Bool.true_or, Bool.or_false, Bool.false_or]
      refine ACallL.quiet1 q2 rfl rfl rfl ?_
      simp only [go_sem, Nat.reduceEqDiff, Nat.reduceAdd, Nat.reduceSub, Nat.reduceMul, Nat.reduceLT, Nat.reduceLeDiff, Nat.reduceMod, Nat.reduceDiv, Int.reduceToNat, Int.reduceLT, Int.reduceLE, Bool.not_true, Bool.not_false, reduceIte, Int.reduceEq, Int.reduceBEq, Int.reduceBNe, Int.reduceGT, Int.reduceGE, Int.reduceNeg, Int.reduceAdd, Int.reduceSub, Nat.reduceBEq, decide_true, decide_false, undef, beq_self_eq_true, bne_self_eq_false, Bool.and_true, Bool.true_and, Bool.and_false, Bool.false_and, Bool.or_true, Bool.true_or, Bool.or_false, Bool.false_or]
      refine ACallL.quiet1 h27 rfl rfl rfl ?_
      simp only [go_sem, Nat.reduceEqDiff, Nat.reduceAdd, Nat.reduceSub, Nat.reduceMul, Nat.reduceLT, Nat.reduceLeDiff, Nat.reduceMod, Nat.reduceDiv, Int.reduceToNat, Int.reduceLT, Int.reduceLE, Bool.not_true, Bool.not_false, reduceIte, Int.reduceEq, Int.reduceBEq, Int.reduceBNe, Int.reduceGT, Int.reduceGE, Int.reduceNeg, Int.reduceAdd, Int.reduceSub, Nat.reduceBEq, decide_true, decide_false, undef, beq_self_eq_true, bne_self_eq_false, Bool.and_true, Bool.true_and, Bool.and_false, Bool.false_and, Bool.or_true, Bool.true_or, Bool.or_false, Bool.false_or]
      refine ACallL.quiet1 alive_ok rfl rfl rfl ?_
      simp only [go_sem, Nat.reduceEqDiff, Nat.reduceAdd, Nat.reduceSub, Nat.reduceMul, Nat.reduceLT, Nat.reduceLeDiff, Nat.reduceMod, Nat.reduceDiv, Int.reduceToNat, Int.reduceLT, Int.reduceLE, Bool.not_true, Bool.not_false, reduceIte, Int.reduceEq, Int.reduceBEq, Int.reduceBNe, Int.reduceGT, Int.reduceGE, Int.reduceNeg, Int.reduceAdd, Int.reduceSub, Nat.reduceBEq, decide_true, decide_false, undef, beq_self_eq_true, bne_self_eq_false, Bool.and_true, Bool.true_and, Bool.and_false, Bool.false_and, Bool.or_true, Bool.true_or, Bool.or_false, Bool.false_or]
      exact finL_ret [] ⟨rfl, rfl, rfl, rfl, _, rfl, res_mk rfl⟩
    have hw := (w.ok_iff).1 hok
    have hn4 := hw.nf
    have e2 : specCount w = (((waysN w.fits : Nat) : Int), 0) := by unfold specCount; rw [hok]; rfl
    rw [e2] at q2
    rw [hok] at h27
    simp only [oneE] at q1 q2
    have hshl : IntKind.i64.wrap (1 * 2 ^ (min w.fs.length 64)) = ((2 ^ w.fs.length : Nat) : Int) := shl_one (by omega)
    have hp : 2 ^ w.fs.length ≤ 2 ^ 4 := Nat.pow_le_pow_right (by omega) (by omega)
    have hp0 := Nat.two_pow_pos w.fs.length
    have hsub : IntKind.i64.wrap (((2 ^ w.fs.length : Nat) : Int) - 1) = ((2 ^ w.fs.length - 1 : Nat) : Int) := by rw [wrap_id (by omega) (by omega)]; omega
    have hl0 : ((w.fs.length : Int) < 0) = False := eq_false (by omega)
    have hM : ∀ env : List (Nat × E), lk env 1 = .t (.lit (.int .u8 u)) → lk env 2 = .t (.ptr (tWa w) 0) → lk env 5 = .t (vi (specClash w).1) → lk env 6 = .t (vi (specClash w).2) → lk env 7 = .t (vi (waysN w.fits : Nat)) → lk env 8 = .t (vi 0) → lk env 9 = .t (.fn (.func 31) [] [.ptr (tWa w) 0]) → lk env 10 = .t (vi ((2 ^ w.fs.length - 1 : Nat) : Int)) → w.OK ∧ M8 w u { env := env, σ := [] } := fun env a b c d e f g h => ⟨hw, a, b, c, d, e, f, g, h, rfl, rfl, rfl⟩
    unfold tWa wa2 at hM
    generalize (specClash w).1 = C1 at *
    generalize (specClash w).2 = C2 at *
    generalize waysN w.fits = N at *
    simp only [go_sem, Nat.reduceEqDiff, Nat.reduceAdd, Nat.reduceSub, Nat.reduceMul, Nat.reduceLT, Nat.reduceLeDiff, Nat.reduceMod, Nat.reduceDiv, Int.reduceToNat, Int.reduceLT, Int.reduceLE, Bool.not_true, Bool.not_false, reduceIte, Int.reduceEq, Int.reduceBEq, Int.reduceBNe, Int.reduceGT, Int.reduceGE, Int.reduceNeg, Int.reduceAdd, Int.reduceSub, Nat.reduceBEq, decide_true, decide_false, undef, beq_self_eq_true, bne_self_eq_false, Bool.and_true, Bool.true_and, Bool.and_false, Bool.false_and, Bool.or_true, Bool.true_or, Bool.or_false, Bool.false_or]
    refine ACallL.quiet1 q1 rfl rfl rfl ?_
    simp only [go_sem, Nat.reduceEqDiff, Nat.reduceAdd, Nat.reduceSub, Nat.reduceMul, Nat.reduceLT, Nat.reduceLeDiff, Nat.reduceMod, Nat.reduceDiv, Int.reduceToNat, Int.reduceLT, Int.reduceLE, Bool.not_true, Bool.not_false, reduceIte, Int.reduceEq, Int.reduceBEq, Int.reduceBNe, Int.reduceGT, Int.reduceGE, Int.reduceNeg, Int.reduceAdd, Int.reduceSub, Nat.reduceBEq, decide_true, decide_false, undef, beq_self_eq_true, bne_self_eq_false, Bool.and_true, Bool.true_and, Bool.and_false, Bool.false_and, Bool.or_true, Bool.true_or, Bool.or_false, Bool.false_or]
    refine ACallL.quiet1 q2 rfl rfl rfl ?_
    simp only [go_sem, Nat.reduceEqDiff, Nat.reduceAdd, Nat.reduceSub, Nat.reduceMul, Nat.reduceLT, Nat.reduceLeDiff, Nat.reduceMod, Nat.reduceDiv, Int.reduceToNat, Int.reduceLT, Int.reduceLE, Bool.not_true, Bool.not_false, reduceIte, Int.reduceEq, Int.reduceBEq, Int.reduceBNe, Int.reduceGT, Int.reduceGE, Int.reduceNeg, Int.reduceAdd, Int.reduceSub, Nat.reduceBEq, decide_true, decide_false, undef, beq_self_eq_true, bne_self_eq_false, Bool.and_true, Bool.true_and, Bool.and_false, Bool.false_and, Bool.or_true, Bool.true_or, Bool.or_false, Bool.false_or]
    refine ACallL.quiet1 h27 rfl rfl rfl ?_
    simp only [go_sem, Nat.reduceEqDiff, Nat.reduceAdd, Nat.reduceSub, Nat.reduceMul, Nat.reduceLT, Nat.reduceLeDiff, Nat.reduceMod, Nat.reduceDiv, Int.reduceToNat, Int.reduceLT, Int.reduceLE, Bool.not_true, Bool.not_false, reduceIte, Int.reduceEq, Int.reduceBEq, Int.reduceBNe, Int.reduceGT, Int.reduceGE, Int.reduceNeg, Int.reduceAdd, Int.reduceSub, Nat.reduceBEq, decide_true, decide_false, undef, beq_self_eq_true, bne_self_eq_false, Bool.and_true, Bool.true_and, Bool.and_false, Bool.false_and, Bool.or_true, Bool.true_or, Bool.or_false, Bool.false_or]
    refine awpL_gcpE [] [1, 2, 5, 6, 7, 8] { env := [(1, .t (.lit (.int .u8 u))), (2, .t (.ptr (.agg [.slice 4 (w.os.map tOw), .slice 5 (w.fs.map tFi)]) 0)), (5, .t (vi C1)), (6, .t (vi C2)), (7, .t (vi N)), (8, .t (vi 0))], σ := [] } rfl rfl rfl ?_
    simp only [go_sem, Nat.reduceEqDiff, Nat.reduceAdd, Nat.reduceSub, Nat.reduceMul, Nat.reduceLT, Nat.reduceLeDiff, Nat.reduceMod, Nat.reduceDiv, Int.reduceToNat, Int.reduceLT, Int.reduceLE, Bool.not_true, Bool.not_false, reduceIte, Int.reduceEq, Int.reduceBEq, Int.reduceBNe, Int.reduceGT, Int.reduceGE, Int.reduceNeg, Int.reduceAdd, Int.reduceSub, Nat.reduceBEq, decide_true, decide_false, undef, beq_self_eq_true, bne_self_eq_false, Bool.and_true, Bool.true_and, Bool.and_false, Bool.false_and, Bool.or_true, Bool.true_or, Bool.or_false, Bool.false_or, List.length_map, hshl, hsub, hl0]
    exact hM _ rfl rfl rfl rfl rfl rfl rfl rfl
  rintro ⟨env, σ, df, dk⟩ ⟨hw, p1, p2, p5, p6, p7, p8, p9, p10, hσ, hdf, hk⟩
  simp only at p1 p2 p5 p6 p7 p8 p9 p10 hσ hdf hk
  subst hσ hdf hk
  clear h26 h27 q1 q2
  have hok := (w.ok_iff).2 hw
  have hn4 := hw.nf
  have hsp := specClash_at hok
  have hcl := hcl hw
  by_cases hz : waysN w.fits = 0
  rotate_left
  · rw [if_neg hz] at hsp
    rw [hsp] at p5 p6
    simp only at p5 p6
    have z : (((waysN w.fits : Nat) : Int) == 0) = false := beq_false_of_ne (by omega)
    simp only [go_sem, Nat.reduceEqDiff, Nat.reduceAdd, Nat.reduceSub, Nat.reduceMul, Nat.reduceLT, Nat.reduceLeDiff, Nat.reduceMod, Nat.reduceDiv, Int.reduceToNat, Int.reduceLT, Int.reduceLE, Bool.not_true, Bool.not_false, reduceIte, Int.reduceEq, Int.reduceBEq, Int.reduceBNe, Int.reduceGT, Int.reduceGE, Int.reduceNeg, Int.reduceAdd, Int.reduceSub, Nat.reduceBEq, decide_true, decide_false, undef, beq_self_eq_true, bne_self_eq_false, Bool.and_true, Bool.true_and, Bool.and_false, Bool.false_and, Bool.or_true, Bool.true_or, Bool.or_false, Bool.false_or, p5, p6, p7, p8, z]
    refine ACallL.quiet1 alive_ok rfl rfl rfl ?_
    simp only [go_sem, Nat.reduceEqDiff, Nat.reduceAdd, Nat.reduceSub, Nat.reduceMul, Nat.reduceLT, Nat.reduceLeDiff, Nat.reduceMod, Nat.reduceDiv, Int.reduceToNat, Int.reduceLT, Int.reduceLE, Bool.not_true, Bool.not_false, reduceIte, Int.reduceEq, Int.reduceBEq, Int.reduceBNe, Int.reduceGT, Int.reduceGE, Int.reduceNeg, Int.reduceAdd, Int.reduceSub, Nat.reduceBEq, decide_true, decide_false, undef, beq_self_eq_true, bne_self_eq_false, Bool.and_true, Bool.true_and, Bool.and_false, Bool.false_and, Bool.or_true, Bool.true_or, Bool.or_false, Bool.false_or]
    exact finL_ret [] ⟨rfl, rfl, rfl, rfl, _, rfl, res_mk rfl⟩
  obtain ⟨s, hs, hs2, hs1, hsz, hcr, hfew, hmin⟩ := clash_all hw hz
  obtain ⟨f1, f2⟩ := fits_small hw
  have hlf : w.fits.length = w.fs.length := by unfold Wa.fits; simp
  rw [if_pos hz, hs] at hsp
  rw [hsp] at p5 p6
  simp only at p5 p6
  rw [hlf] at hs2 hcr hfew hmin
  have hp : 2 ^ w.fs.length ≤ 2 ^ 4 := Nat.pow_le_pow_right (by omega) (by omega)
  have hp0 := Nat.two_pow_pos w.fs.length
  rw [hz] at p7
  have cs := hcl s (by omega)
  rw [hsz] at cs
  have g1 : decide ((s : Int) < 1) = false := decide_eq_false (by omega)
  have g2 : decide ((s : Int) > ((2 ^ w.fs.length - 1 : Nat) : Int)) = false := decide_eq_false (by omega)
  have hsize : ∀ x : Nat, x < 1024 → ACall Tryd.prog 24 [.t (vi x)] [] (ret (vi (size x))) := fun x hx => rsize_ok x hx
  have hfit := fun j => Fits_ok w (j : Nat) hL
  generalize hEV : 2 ^ w.fs.length - 1 = EV at *
  generalize hWW : tWa w = WW at *
  have z0 : ((0 : Nat) : Int) = 0 := rfl
  rw [z0] at p7
  refine awpL_chop 5 (c1 := ?b1) (c2 := ?b2) (fun st => lk st.env 1 = .t (.lit (.int .u8 u)) ∧ lk st.env 5 = .t (vi s) ∧ lk st.env 9 = .t (.fn (.func 31) [] [.ptr WW 0]) ∧ lk st.env 10 = .t (vi EV) ∧ lk st.env 11 = .t (vi (orP w.fits s w.fs.length : Nat)) ∧ st.σ = [] ∧ st.df = [] ∧ st.k = 0) ?hc2 ?_ ?_
  case hc2 => simp only [chop]; rfl
  · simp only [go_sem, Nat.reduceEqDiff, Nat.reduceAdd, Nat.reduceSub, Nat.reduceMul, Nat.reduceLT, Nat.reduceLeDiff, Nat.reduceMod, Nat.reduceDiv, Int.reduceToNat, Int.reduceLT, Int.reduceLE, Bool.not_true, Bool.not_false, reduceIte, Int.reduceEq, Int.reduceBEq, Int.reduceBNe, Int.reduceGT, Int.reduceGE, Int.reduceNeg, Int.reduceAdd, Int.reduceSub, Nat.reduceBEq, decide_true, decide_false, undef, beq_self_eq_true, bne_self_eq_false, Bool.and_true, Bool.true_and, Bool.and_false, Bool.false_and, Bool.or_true, Bool.true_or, Bool.or_false, Bool.false_or, p2, p5, p6, p7, p8, p9, p10, g1, g2]
    refine ACallL.quiet1 cs rfl rfl rfl ?_
    have hWl : WW = .agg [.slice 4 (w.os.map tOw), .slice 5 (w.fs.map tFi)] := hWW.symm
    have p2a := p2
    rw [hWl] at p2a
    simp only [go_sem, Nat.reduceEqDiff, Nat.reduceAdd, Nat.reduceSub, Nat.reduceMul, Nat.reduceLT, Nat.reduceLeDiff, Nat.reduceMod, Nat.reduceDiv, Int.reduceToNat, Int.reduceLT, Int.reduceLE, Bool.not_true, Bool.not_false, reduceIte, Int.reduceEq, Int.reduceBEq, Int.reduceBNe, Int.reduceGT, Int.reduceGE, Int.reduceNeg, Int.reduceAdd, Int.reduceSub, Nat.reduceBEq, decide_true, decide_false, undef, beq_self_eq_true, bne_self_eq_false, Bool.and_true, Bool.true_and, Bool.and_false, Bool.false_and, Bool.or_true, Bool.true_or, Bool.or_false, Bool.false_or, p2a, p5, p9, p10, List.length_map]
    refine awpL_loopK w.fs.length (fun j st => st = { env := [(97, .t (vi j)), (1, .t (.lit (.int .u8 u))), (2, .t (.ptr WW 0)), (5, .t (vi s)), (9, .t (.fn (.func 31) [] [.ptr WW 0])), (10, .t (vi EV)), (11, .t (vi (orP w.fits s j : Nat))), (96, .t (vi w.fs.length))], σ := [] })
      ⟨_, Sub.gc [] [97, 1, 2, 5, 9, 10, 11, 96] rfl rfl, ?_⟩ ?_
    · exact St.gc_mk (by simp only [List.map_cons, List.map_nil, lk, Nat.reduceEqDiff, reduceIte, p1, p2, p5, p9, p10]; rfl) rfl rfl rfl
    clear p2a p1 p2 p5 p6 p7 p8 p9 p10 env
    rintro j st hj rfl
    have hj0 : ((j : Int) < 0) = False := eq_false (by omega)
    cases g : decide ((j : Int) < w.fs.length)
    · have hje : j = w.fs.length := by have := of_decide_eq_false g; omega
      rw [hje] at g ⊢
      simp only [go_sem, Nat.reduceEqDiff, Nat.reduceAdd, Nat.reduceSub, Nat.reduceMul, Nat.reduceLT, Nat.reduceLeDiff, Nat.reduceMod, Nat.reduceDiv, Int.reduceToNat, Int.reduceLT, Int.reduceLE, Bool.not_true, Bool.not_false, reduceIte, Int.reduceEq, Int.reduceBEq, Int.reduceBNe, Int.reduceGT, Int.reduceGE, Int.reduceNeg, Int.reduceAdd, Int.reduceSub, Nat.reduceBEq, decide_true, decide_false, undef, beq_self_eq_true, bne_self_eq_false, Bool.and_true, Bool.true_and, Bool.and_false, Bool.false_and, Bool.or_true, Bool.true_or, Bool.or_false, Bool.false_or, g]
    have hjl : j < w.fs.length := by have := of_decide_eq_true g; omega
    have hxj : w.fs[j]? = some w.fs[j] := List.getElem?_eq_getElem hjl
    have hfj := hfit j
    have hfe : specFits w j = (((w.fits.getD j 0 : Nat) : Int), 0) := by
      unfold specFits
      rw [hok, if_pos rfl, isF_at hjl, if_pos rfl, Int.toNat_natCast]
    rw [hfe] at hfj
    simp only [oneE] at hfj
    have hF64 : w.fits.getD j 0 < 64 := by
      rw [List.getD_eq_getElem?_getD, List.getElem?_eq_getElem (by omega)]
      exact f2 _ (List.getElem_mem _)
    have hO64 := orP_lt f2 s j
    have hoe : orP w.fits s (j + 1) = orP w.fits s j ||| if s.testBit j then w.fits.getD j 0 else 0 := rfl
    rw [hoe]
    have hb := bit_eq0 (a := s) (i := j) (by omega)
    have hw1 : IntKind.i64.wrap ((j : Int) + 1) = ((j + 1 : Nat) : Int) := by rw [wrap_id (by omega) (by omega)]; omega
    have hcj := hcr j hjl
    have hshl : IntKind.i64.wrap (1 * 2 ^ (min j 64)) = ((2 ^ j : Nat) : Int) := shl_one (by omega)
    have hpj : 2 ^ j ≤ 2 ^ 4 := Nat.pow_le_pow_right (by omega) (by omega)
    have hnd := ndiff_le s (2 ^ j)
    have hand : bits .andNot .i64 (s : Int) ((2 ^ j : Nat) : Int) = ((ndiff s (2 ^ j) : Nat) : Int) := bits_andNot (by omega) (by omega)
    have hcj2 := hcl (ndiff s (2 ^ j)) (by omega)
    generalize orP w.fits s j = O at *
    generalize w.fits.getD j 0 = F at *
    have hor : bits .or .i64 (O : Int) (F : Int) = ((O ||| F : Nat) : Int) := bits_or (by omega) (by omega)
    have gF : decide ((F : Int) < 0) = false := decide_eq_false (by omega)
    cases hbb : s.testBit j
    · rw [hbb] at hb
      simp only [go_sem, Nat.reduceEqDiff, Nat.reduceAdd, Nat.reduceSub, Nat.reduceMul, Nat.reduceLT, Nat.reduceLeDiff, Nat.reduceMod, Nat.reduceDiv, Int.reduceToNat, Int.reduceLT, Int.reduceLE, Bool.not_true, Bool.not_false, reduceIte, Int.reduceEq, Int.reduceBEq, Int.reduceBNe, Int.reduceGT, Int.reduceGE, Int.reduceNeg, Int.reduceAdd, Int.reduceSub, Nat.reduceBEq, decide_true, decide_false, undef, beq_self_eq_true, bne_self_eq_false, Bool.and_true, Bool.true_and, Bool.and_false, Bool.false_and, Bool.or_true, Bool.true_or, Bool.or_false, Bool.false_or, g, hj0, IntKind.bits, hb, hw1, Nat.or_zero]
      exact ⟨hjl, _, Sub.gc [] [97, 1, 2, 5, 9, 10, 11, 96] rfl rfl, St.gc_mk rfl rfl rfl rfl⟩
    · rw [hbb] at hb
      rw [decide_eq_false (hcj hbb)] at hcj2
      have hWl2 : WW = .agg [.slice 4 (w.os.map tOw), .slice 5 (w.fs.map tFi)] := hWW.symm
      rw [hWl2] at hfj hcj2 ⊢
      simp only [go_sem, Nat.reduceEqDiff, Nat.reduceAdd, Nat.reduceSub, Nat.reduceMul, Nat.reduceLT, Nat.reduceLeDiff, Nat.reduceMod, Nat.reduceDiv, Int.reduceToNat, Int.reduceLT, Int.reduceLE, Bool.not_true, Bool.not_false, reduceIte, Int.reduceEq, Int.reduceBEq, Int.reduceBNe, Int.reduceGT, Int.reduceGE, Int.reduceNeg, Int.reduceAdd, Int.reduceSub, Nat.reduceBEq, decide_true, decide_false, undef, beq_self_eq_true, bne_self_eq_false, Bool.and_true, Bool.true_and, Bool.and_false, Bool.false_and, Bool.or_true, Bool.true_or, Bool.or_false, Bool.false_or, g, hj0, IntKind.bits, hb]
      refine ACallL.quiet1 hfj rfl rfl rfl ?_
      simp only [go_sem, Nat.reduceEqDiff, Nat.reduceAdd, Nat.reduceSub, Nat.reduceMul, Nat.reduceLT, Nat.reduceLeDiff, Nat.reduceMod, Nat.reduceDiv, Int.reduceToNat, Int.reduceLT, Int.reduceLE, Bool.not_true, Bool.not_false, reduceIte, Int.reduceEq, Int.reduceBEq, Int.reduceBNe, Int.reduceGT, Int.reduceGE, Int.reduceNeg, Int.reduceAdd, Int.reduceSub, Nat.reduceBEq, decide_true, decide_false, undef, beq_self_eq_true, bne_self_eq_false, Bool.and_true, Bool.true_and, Bool.and_false, Bool.false_and, Bool.or_true, Bool.true_or, Bool.or_false, Bool.false_or, gF, hj0, hshl, IntKind.bits, hand]
      refine ACallL.quiet1 hcj2 rfl rfl rfl ?_
      simp only [go_sem, Nat.reduceEqDiff, Nat.reduceAdd, Nat.reduceSub, Nat.reduceMul, Nat.reduceLT, Nat.reduceLeDiff, Nat.reduceMod, Nat.reduceDiv, Int.reduceToNat, Int.reduceLT, Int.reduceLE, Bool.not_true, Bool.not_false, reduceIte, Int.reduceEq, Int.reduceBEq, Int.reduceBNe, Int.reduceGT, Int.reduceGE, Int.reduceNeg, Int.reduceAdd, Int.reduceSub, Nat.reduceBEq, decide_true, decide_false, undef, beq_self_eq_true, bne_self_eq_false, Bool.and_true, Bool.true_and, Bool.and_false, Bool.false_and, Bool.or_true, Bool.true_or, Bool.or_false, Bool.false_or, IntKind.bits, hor, hw1]
      exact ⟨hjl, _, Sub.gc [] [97, 1, 2, 5, 9, 10, 11, 96] rfl rfl, St.gc_mk rfl rfl rfl rfl⟩
  clear p1 p2 p5 p6 p7 p8 p9 p10 env
  rintro ⟨env, σ, df, dk⟩ ⟨p1, p5, p9, p10, p11, hσ, hdf, hk⟩
  simp only at p1 p5 p9 p10 p11 hσ hdf hk
  subst hσ hdf hk
  have hO64 := orP_lt f2 s w.fs.length
  have c1 := hsize (orP w.fits s w.fs.length) (by omega)
  have c2 := hsize s (by omega)
  have wu : IntKind.i64.wrap (u : Int) = u := wrap_id (by omega) (by omega)
  have hand : bits .and .i64 (u : Int) (EV : Int) = ((u &&& EV : Nat) : Int) := bits_and (by omega) (by omega)
  have hown : u &&& EV ≤ EV := Nat.and_le_right
  have c3 := hcl (u &&& EV) (by omega)
  have c4 := hsize (u &&& EV) (by omega)
  have hm := hmin (u &&& EV) (by omega)
  generalize (u &&& EV) = own at *
  generalize orP w.fits s w.fs.length = O at *
  have g3 : decide ((size O : Int) < (size s : Int)) = true := decide_eq_true (by omega)
  have hWl : WW = .agg [.slice 4 (w.os.map tOw), .slice 5 (w.fs.map tFi)] := hWW.symm
  simp only [go_sem, Nat.reduceEqDiff, Nat.reduceAdd, Nat.reduceSub, Nat.reduceMul, Nat.reduceLT, Nat.reduceLeDiff, Nat.reduceMod, Nat.reduceDiv, Int.reduceToNat, Int.reduceLT, Int.reduceLE, Bool.not_true, Bool.not_false, reduceIte, Int.reduceEq, Int.reduceBEq, Int.reduceBNe, Int.reduceGT, Int.reduceGE, Int.reduceNeg, Int.reduceAdd, Int.reduceSub, Nat.reduceBEq, decide_true, decide_false, undef, beq_self_eq_true, bne_self_eq_false, Bool.and_true, Bool.true_and, Bool.and_false, Bool.false_and, Bool.or_true, Bool.true_or, Bool.or_false, Bool.false_or, p1, p5, p9, p10, p11, wu, IntKind.bits, hand]
  refine ACallL.quiet1 c1 rfl rfl rfl ?_
  simp only [go_sem, Nat.reduceEqDiff, Nat.reduceAdd, Nat.reduceSub, Nat.reduceMul, Nat.reduceLT, Nat.reduceLeDiff, Nat.reduceMod, Nat.reduceDiv, Int.reduceToNat, Int.reduceLT, Int.reduceLE, Bool.not_true, Bool.not_false, reduceIte, Int.reduceEq, Int.reduceBEq, Int.reduceBNe, Int.reduceGT, Int.reduceGE, Int.reduceNeg, Int.reduceAdd, Int.reduceSub, Nat.reduceBEq, decide_true, decide_false, undef, beq_self_eq_true, bne_self_eq_false, Bool.and_true, Bool.true_and, Bool.and_false, Bool.false_and, Bool.or_true, Bool.true_or, Bool.or_false, Bool.false_or, p5]
  refine ACallL.quiet1 c2 rfl rfl rfl ?_
  simp only [go_sem, Nat.reduceEqDiff, Nat.reduceAdd, Nat.reduceSub, Nat.reduceMul, Nat.reduceLT, Nat.reduceLeDiff, Nat.reduceMod, Nat.reduceDiv, Int.reduceToNat, Int.reduceLT, Int.reduceLE, Bool.not_true, Bool.not_false, reduceIte, Int.reduceEq, Int.reduceBEq, Int.reduceBNe, Int.reduceGT, Int.reduceGE, Int.reduceNeg, Int.reduceAdd, Int.reduceSub, Nat.reduceBEq, decide_true, decide_false, undef, beq_self_eq_true, bne_self_eq_false, Bool.and_true, Bool.true_and, Bool.and_false, Bool.false_and, Bool.or_true, Bool.true_or, Bool.or_false, Bool.false_or, p9, g3]
  refine ACallL.quiet1 c3 rfl rfl rfl ?_
  by_cases ho : waysN (pick w.fits own) = 0
  rotate_left
  · simp only [ho, go_sem, Nat.reduceEqDiff, Nat.reduceAdd, Nat.reduceSub, Nat.reduceMul, Nat.reduceLT, Nat.reduceLeDiff, Nat.reduceMod, Nat.reduceDiv, Int.reduceToNat, Int.reduceLT, Int.reduceLE, Bool.not_true, Bool.not_false, reduceIte, Int.reduceEq, Int.reduceBEq, Int.reduceBNe, Int.reduceGT, Int.reduceGE, Int.reduceNeg, Int.reduceAdd, Int.reduceSub, Nat.reduceBEq, decide_true, decide_false, undef, beq_self_eq_true, bne_self_eq_false, Bool.and_true, Bool.true_and, Bool.and_false, Bool.false_and, Bool.or_true, Bool.true_or, Bool.or_false, Bool.false_or]
    refine ACallL.quiet1 alive_ok rfl rfl rfl ?_
    simp only [go_sem, Nat.reduceEqDiff, Nat.reduceAdd, Nat.reduceSub, Nat.reduceMul, Nat.reduceLT, Nat.reduceLeDiff, Nat.reduceMod, Nat.reduceDiv, Int.reduceToNat, Int.reduceLT, Int.reduceLE, Bool.not_true, Bool.not_false, reduceIte, Int.reduceEq, Int.reduceBEq, Int.reduceBNe, Int.reduceGT, Int.reduceGE, Int.reduceNeg, Int.reduceAdd, Int.reduceSub, Nat.reduceBEq, decide_true, decide_false, undef, beq_self_eq_true, bne_self_eq_false, Bool.and_true, Bool.true_and, Bool.and_false, Bool.false_and, Bool.or_true, Bool.true_or, Bool.or_false, Bool.false_or]
    exact finL_ret [] ⟨rfl, rfl, rfl, rfl, _, rfl, res_mk rfl⟩
  simp only [ho, go_sem, Nat.reduceEqDiff, Nat.reduceAdd, Nat.reduceSub, Nat.reduceMul, Nat.reduceLT, Nat.reduceLeDiff, Nat.reduceMod, Nat.reduceDiv, Int.reduceToNat, Int.reduceLT, Int.reduceLE, Bool.not_true, Bool.not_false, reduceIte, Int.reduceEq, Int.reduceBEq, Int.reduceBNe, Int.reduceGT, Int.reduceGE, Int.reduceNeg, Int.reduceAdd, Int.reduceSub, Nat.reduceBEq, decide_true, decide_false, undef, beq_self_eq_true, bne_self_eq_false, Bool.and_true, Bool.true_and, Bool.and_false, Bool.false_and, Bool.or_true, Bool.true_or, Bool.or_false, Bool.false_or]
  refine ACallL.quiet1 c4 rfl rfl rfl ?_
  simp only [go_sem, Nat.reduceEqDiff, Nat.reduceAdd, Nat.reduceSub, Nat.reduceMul, Nat.reduceLT, Nat.reduceLeDiff, Nat.reduceMod, Nat.reduceDiv, Int.reduceToNat, Int.reduceLT, Int.reduceLE, Bool.not_true, Bool.not_false, reduceIte, Int.reduceEq, Int.reduceBEq, Int.reduceBNe, Int.reduceGT, Int.reduceGE, Int.reduceNeg, Int.reduceAdd, Int.reduceSub, Nat.reduceBEq, decide_true, decide_false, undef, beq_self_eq_true, bne_self_eq_false, Bool.and_true, Bool.true_and, Bool.and_false, Bool.false_and, Bool.or_true, Bool.true_or, Bool.or_false, Bool.false_or, p5]
  refine ACallL.quiet1 c2 rfl rfl rfl ?_
  rcases hm ho with h | ⟨h1, h2⟩
  · have g4 : decide ((size own : Int) > (size s : Int)) = true := decide_eq_true (by omega)
    simp only [go_sem, Nat.reduceEqDiff, Nat.reduceAdd, Nat.reduceSub, Nat.reduceMul, Nat.reduceLT, Nat.reduceLeDiff, Nat.reduceMod, Nat.reduceDiv, Int.reduceToNat, Int.reduceLT, Int.reduceLE, Bool.not_true, Bool.not_false, reduceIte, Int.reduceEq, Int.reduceBEq, Int.reduceBNe, Int.reduceGT, Int.reduceGE, Int.reduceNeg, Int.reduceAdd, Int.reduceSub, Nat.reduceBEq, decide_true, decide_false, undef, beq_self_eq_true, bne_self_eq_false, Bool.and_true, Bool.true_and, Bool.and_false, Bool.false_and, Bool.or_true, Bool.true_or, Bool.or_false, Bool.false_or, g4]
    refine ACallL.quiet1 alive_ok rfl rfl rfl ?_
    simp only [go_sem, Nat.reduceEqDiff, Nat.reduceAdd, Nat.reduceSub, Nat.reduceMul, Nat.reduceLT, Nat.reduceLeDiff, Nat.reduceMod, Nat.reduceDiv, Int.reduceToNat, Int.reduceLT, Int.reduceLE, Bool.not_true, Bool.not_false, reduceIte, Int.reduceEq, Int.reduceBEq, Int.reduceBNe, Int.reduceGT, Int.reduceGE, Int.reduceNeg, Int.reduceAdd, Int.reduceSub, Nat.reduceBEq, decide_true, decide_false, undef, beq_self_eq_true, bne_self_eq_false, Bool.and_true, Bool.true_and, Bool.and_false, Bool.false_and, Bool.or_true, Bool.true_or, Bool.or_false, Bool.false_or]
    exact finL_ret [] ⟨rfl, rfl, rfl, rfl, _, rfl, res_mk rfl⟩
  · have g4 : decide ((size own : Int) > (size s : Int)) = false := decide_eq_false (by omega)
    have g5 : ((size own : Int) == (size s : Int)) = true := beq_iff_eq.2 (by omega)
    have g6 : decide ((own : Int) ≥ (s : Int)) = true := decide_eq_true (by omega)
    simp only [go_sem, Nat.reduceEqDiff, Nat.reduceAdd, Nat.reduceSub, Nat.reduceMul, Nat.reduceLT, Nat.reduceLeDiff, Nat.reduceMod, Nat.reduceDiv, Int.reduceToNat, Int.reduceLT, Int.reduceLE, Bool.not_true, Bool.not_false, reduceIte, Int.reduceEq, Int.reduceBEq, Int.reduceBNe, Int.reduceGT, Int.reduceGE, Int.reduceNeg, Int.reduceAdd, Int.reduceSub, Nat.reduceBEq, decide_true, decide_false, undef, beq_self_eq_true, bne_self_eq_false, Bool.and_true, Bool.true_and, Bool.and_false, Bool.false_and, Bool.or_true, Bool.true_or, Bool.or_false, Bool.false_or, g4]
    refine ACallL.quiet1 c4 rfl rfl rfl ?_
    simp only [go_sem, Nat.reduceEqDiff, Nat.reduceAdd, Nat.reduceSub, Nat.reduceMul, Nat.reduceLT, Nat.reduceLeDiff, Nat.reduceMod, Nat.reduceDiv, Int.reduceToNat, Int.reduceLT, Int.reduceLE, Bool.not_true, Bool.not_false, reduceIte, Int.reduceEq, Int.reduceBEq, Int.reduceBNe, Int.reduceGT, Int.reduceGE, Int.reduceNeg, Int.reduceAdd, Int.reduceSub, Nat.reduceBEq, decide_true, decide_false, undef, beq_self_eq_true, bne_self_eq_false, Bool.and_true, Bool.true_and, Bool.and_false, Bool.false_and, Bool.or_true, Bool.true_or, Bool.or_false, Bool.false_or, p5]
    refine ACallL.quiet1 c2 rfl rfl rfl ?_
    simp only [go_sem, Nat.reduceEqDiff, Nat.reduceAdd, Nat.reduceSub, Nat.reduceMul, Nat.reduceLT, Nat.reduceLeDiff, Nat.reduceMod, Nat.reduceDiv, Int.reduceToNat, Int.reduceLT, Int.reduceLE, Bool.not_true, Bool.not_false, reduceIte, Int.reduceEq, Int.reduceBEq, Int.reduceBNe, Int.reduceGT, Int.reduceGE, Int.reduceNeg, Int.reduceAdd, Int.reduceSub, Nat.reduceBEq, decide_true, decide_false, undef, beq_self_eq_true, bne_self_eq_false, Bool.and_true, Bool.true_and, Bool.and_false, Bool.false_and, Bool.or_true, Bool.true_or, Bool.or_false, Bool.false_or, g5, g6, p5]
    refine ACallL.quiet1 alive_ok rfl rfl rfl ?_
    simp only [go_sem, Nat.reduceEqDiff, Nat.reduceAdd, Nat.reduceSub, Nat.reduceMul, Nat.reduceLT, Nat.reduceLeDiff, Nat.reduceMod, Nat.reduceDiv, Int.reduceToNat, Int.reduceLT, Int.reduceLE, Bool.not_true, Bool.not_false, reduceIte, Int.reduceEq, Int.reduceBEq, Int.reduceBNe, Int.reduceGT, Int.reduceGE, Int.reduceNeg, Int.reduceAdd, Int.reduceSub, Nat.reduceBEq, decide_true, decide_false, undef, beq_self_eq_true, bne_self_eq_false, Bool.and_true, Bool.true_and, Bool.and_false, Bool.false_and, Bool.or_true, Bool.true_or, Bool.or_false, Bool.false_or]
    exact finL_ret [] ⟨rfl, rfl, rfl, rfl, _, rfl, res_mk rfl⟩
end Go.Proofs.YtnmmhkkmejbckaaDoor
