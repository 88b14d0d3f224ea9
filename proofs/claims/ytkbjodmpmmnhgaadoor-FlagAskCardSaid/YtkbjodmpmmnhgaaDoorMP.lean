/- Proved here: laws that the statements need (FlC39, FlX2). No conditions but those that each law states. -/
import Derived.Test.YtkbjodmpmmnhgaaDoorFL
import Derived.Test.YtkbjodmpmmnhgaaDoorProg
import Derived.Test.YtkbjodmpmmnhgaaDoorMN

set_option linter.unusedSimpArgs false
set_option linter.unusedVariables false

/- Compiled code of functions, printed by program; each is checked to be the program's. No conditions. -/
namespace Go.Proofs.YtkbjodmpmmnhgaaDoor
open Go Go.Ab
/-- dipworks/dipworkslaw10.FlagAsk -/
def c9 : AC :=
 .seq (.reg [⟨(some 2), none, .box (.tmp 0)⟩,
    ⟨(some 4), none, .mov (.lit (.bool false))⟩])
 (.seq (.seq (.reg [⟨(some 16), none, .load true 5 (.tmp 2)⟩,
     ⟨(some 17), none, .call (.fn 31) [(.tmp 16)]⟩,
     ⟨(some 18), none, .un .not (.tmp 17)⟩])
  (.cond (.tmp 18) (.seq (.reg [⟨(some 19), none, .call (.fn 14) []⟩,
      ⟨(some 4), none, .mov (.tmp 19)⟩])
   (.ret))
    (.skip)))
 (.seq (.reg [⟨(some 21), none, .load true 5 (.tmp 2)⟩,
    ⟨(some 22), none, .call (.fn 27) [(.tmp 21)]⟩,
    ⟨(some 20), none, .mov (.tmp 22)⟩,
    ⟨(some 23), none, .ext (.tmp 20) 0⟩,
    ⟨(some 24), none, .ext (.tmp 20) 1⟩,
    ⟨(some 25), none, .ext (.tmp 20) 2⟩,
    ⟨(some 5), none, .mov (.tmp 23)⟩,
    ⟨(some 6), none, .mov (.tmp 24)⟩,
    ⟨(some 7), none, .mov (.tmp 25)⟩])
 (.seq (.reg [⟨(some 27), none, .load true 5 (.tmp 2)⟩,
    ⟨(some 28), none, .call (.fn 19) [(.tmp 27)]⟩,
    ⟨(some 26), none, .mov (.tmp 28)⟩,
    ⟨(some 29), none, .ext (.tmp 26) 0⟩,
    ⟨(some 30), none, .ext (.tmp 26) 1⟩,
    ⟨(some 8), none, .mov (.tmp 29)⟩,
    ⟨(some 9), none, .mov (.tmp 30)⟩])
 (.seq (.seq (.reg [⟨(some 31), none, .mov (.tmp 9)⟩,
     ⟨(some 32), none, .bin .neq (.tmp 31) (.lit (.int .i64 0))⟩])
  (.cond (.tmp 32) (.seq (.reg [⟨(some 4), none, .mov (.lit (.bool false))⟩])
   (.ret))
    (.skip)))
 (.seq (.seq (.reg [⟨(some 33), none, .mov (.tmp 8)⟩,
     ⟨(some 34), none, .bin .lss (.tmp 33) (.lit (.int .i64 2))⟩])
  (.cond (.tmp 34) (.seq (.reg [⟨(some 10), none, .mov (.lit (.int .i64 11))⟩])
   (.seq (.seq (.reg [⟨(some 35), none, .mov (.tmp 8)⟩,
       ⟨(some 36), none, .bin .eql (.tmp 35) (.lit (.int .i64 0))⟩])
    (.cond (.tmp 36) (.reg [⟨(some 10), none, .mov (.lit (.int .i64 10))⟩])
      (.skip)))
   (.seq (.reg [⟨(some 37), none, .mov (.tmp 7)⟩,
      ⟨(some 38), none, .mov (.tmp 10)⟩,
      ⟨(some 39), none, .bin .eql (.tmp 37) (.tmp 38)⟩,
      ⟨(some 40), none, .mov (.tmp 39)⟩,
      ⟨(some 41), (some (40, true)), .mov (.tmp 5)⟩,
      ⟨(some 42), (some (40, true)), .bin .eql (.tmp 41) (.lit (.int .i64 0))⟩,
      ⟨(some 43), none, .pick (.tmp 40) (.tmp 42) (.lit (.bool false))⟩,
      ⟨(some 44), none, .mov (.tmp 43)⟩,
      ⟨(some 45), (some (44, true)), .mov (.tmp 6)⟩,
      ⟨(some 46), (some (44, true)), .bin .eql (.tmp 45) (.lit (.int .i64 0))⟩,
      ⟨(some 47), none, .pick (.tmp 44) (.tmp 46) (.lit (.bool false))⟩,
      ⟨(some 48), none, .mov (.tmp 47)⟩,
      ⟨(some 49), (some (48, true)), .call (.fn 14) []⟩,
      ⟨(some 50), none, .pick (.tmp 48) (.tmp 49) (.lit (.bool false))⟩,
      ⟨(some 4), none, .mov (.tmp 50)⟩])
   (.ret))))
    (.skip)))
 (.seq (.seq (.reg [⟨(some 51), none, .mov (.tmp 7)⟩,
     ⟨(some 52), none, .bin .neq (.tmp 51) (.lit (.int .i64 0))⟩,
     ⟨(some 53), none, .mov (.tmp 52)⟩,
     ⟨(some 54), (some (53, false)), .mov (.tmp 5)⟩,
     ⟨(some 55), (some (53, false)), .bin .lss (.tmp 54) (.lit (.int .i64 0))⟩,
     ⟨(some 56), none, .pick (.tmp 53) (.lit (.bool true)) (.tmp 55)⟩,
     ⟨(some 57), none, .mov (.tmp 56)⟩,
     ⟨(some 58), (some (57, false)), .mov (.tmp 5)⟩,
     ⟨(some 59), (some (57, false)), .faddr 3 (.tmp 2)⟩,
     ⟨(some 60), (some (57, false)), .load false 1 (.tmp 59)⟩,
     ⟨(some 61), (some (57, false)), .len (.tmp 60)⟩,
     ⟨(some 62), (some (57, false)), .bin .geq (.tmp 58) (.tmp 61)⟩,
     ⟨(some 63), none, .pick (.tmp 57) (.lit (.bool true)) (.tmp 62)⟩])
  (.cond (.tmp 63) (.seq (.reg [⟨(some 4), none, .mov (.lit (.bool false))⟩])
   (.ret))
    (.skip)))
 (.seq (.reg [⟨(some 64), none, .mov (.tmp 1)⟩,
    ⟨(some 65), none, .conv .i64 (.tmp 64)⟩,
    ⟨(some 66), none, .faddr 3 (.tmp 2)⟩,
    ⟨(some 67), none, .load false 1 (.tmp 66)⟩,
    ⟨(some 68), none, .len (.tmp 67)⟩,
    ⟨(some 69), none, .bin .rem (.tmp 65) (.tmp 68)⟩,
    ⟨(some 11), none, .mov (.tmp 69)⟩])
 (.seq (.reg [⟨(some 71), none, .load true 5 (.tmp 2)⟩,
    ⟨(some 72), none, .mov (.tmp 5)⟩,
    ⟨(some 73), none, .call (.fn 40) [(.tmp 71), (.tmp 72)]⟩,
    ⟨(some 70), none, .mov (.tmp 73)⟩,
    ⟨(some 74), none, .ext (.tmp 70) 0⟩,
    ⟨(some 75), none, .ext (.tmp 70) 1⟩,
    ⟨(some 12), none, .mov (.tmp 74)⟩,
    ⟨(some 13), none, .mov (.tmp 75)⟩])
 (.seq (.reg [⟨(some 77), none, .load true 5 (.tmp 2)⟩,
    ⟨(some 78), none, .mov (.tmp 11)⟩,
    ⟨(some 79), none, .call (.fn 40) [(.tmp 77), (.tmp 78)]⟩,
    ⟨(some 76), none, .mov (.tmp 79)⟩,
    ⟨(some 80), none, .ext (.tmp 76) 0⟩,
    ⟨(some 81), none, .ext (.tmp 76) 1⟩,
    ⟨(some 14), none, .mov (.tmp 80)⟩,
    ⟨(some 15), none, .mov (.tmp 81)⟩])
 (.seq (.reg [⟨(some 82), none, .mov (.tmp 12)⟩,
    ⟨(some 83), none, .mov (.tmp 6)⟩,
    ⟨(some 84), none, .bin .eql (.tmp 82) (.tmp 83)⟩,
    ⟨(some 85), none, .mov (.tmp 84)⟩,
    ⟨(some 86), (some (85, true)), .mov (.tmp 13)⟩,
    ⟨(some 87), (some (85, true)), .mov (.tmp 8)⟩,
    ⟨(some 88), (some (85, true)), .bin .eql (.tmp 86) (.tmp 87)⟩,
    ⟨(some 89), none, .pick (.tmp 85) (.tmp 88) (.lit (.bool false))⟩,
    ⟨(some 90), none, .mov (.tmp 89)⟩,
    ⟨(some 91), (some (90, true)), .mov (.tmp 15)⟩,
    ⟨(some 92), (some (90, true)), .mov (.tmp 8)⟩,
    ⟨(some 93), (some (90, true)), .bin .eql (.tmp 91) (.tmp 92)⟩,
    ⟨(some 94), none, .pick (.tmp 90) (.tmp 93) (.lit (.bool false))⟩,
    ⟨(some 95), none, .mov (.tmp 94)⟩,
    ⟨(some 96), (some (95, true)), .mov (.tmp 14)⟩,
    ⟨(some 97), (some (95, true)), .mov (.tmp 6)⟩,
    ⟨(some 98), (some (95, true)), .bin .gtr (.tmp 96) (.tmp 97)⟩,
    ⟨(some 99), (some (95, true)), .mov (.tmp 98)⟩,
    ⟨(some 100), (some (99, false)), .mov (.tmp 14)⟩,
    ⟨(some 101), (some (99, false)), .mov (.tmp 6)⟩,
    ⟨(some 102), (some (99, false)), .bin .eql (.tmp 100) (.tmp 101)⟩,
    ⟨(some 103), (some (99, false)), .mov (.tmp 102)⟩,
    ⟨(some 104), (some (103, true)), .mov (.tmp 11)⟩,
    ⟨(some 105), (some (103, true)), .mov (.tmp 5)⟩,
    ⟨(some 106), (some (103, true)), .bin .geq (.tmp 104) (.tmp 105)⟩,
    ⟨(some 107), (some (99, false)), .pick (.tmp 103) (.tmp 106) (.lit (.bool false))⟩,
    ⟨(some 108), (some (95, true)), .pick (.tmp 99) (.lit (.bool true)) (.tmp 107)⟩,
    ⟨(some 109), none, .pick (.tmp 95) (.tmp 108) (.lit (.bool false))⟩,
    ⟨(some 110), none, .mov (.tmp 109)⟩,
    ⟨(some 111), (some (110, true)), .call (.fn 14) []⟩,
    ⟨(some 112), none, .pick (.tmp 110) (.tmp 111) (.lit (.bool false))⟩,
    ⟨(some 4), none, .mov (.tmp 112)⟩])
 (.ret)))))))))))
theorem k9 : FnC Tryd.prog 9 113 [] [] [.tmp 4] c9 2 := ⟨Tryd.f9, _, Tryd.func9, rfl, by decide, rfl, by decide, by kernel_rfl, by kernel_rfl⟩
/-- dipworks/dipworkslaw10.most -/
def c40 : AC :=
 .seq (.reg [⟨(some 2), none, .box (.tmp 0)⟩,
    ⟨(some 4), none, .mov (.lit (.int .i64 0))⟩,
    ⟨(some 5), none, .mov (.lit (.int .i64 0))⟩])
 (.seq (.seq (.reg [⟨(some 11), none, .mov (.lit (.int .i64 0))⟩])
  (.block 0 (.loop (.seq (.reg [⟨(some 12), none, .bin .lss (.tmp 11) (.lit (.int .i64 3))⟩])
   (.seq (.cond (.tmp 12) (.skip)
      (.exit 0))
   (.seq (.block 1 (.seq (.reg [⟨(some 13), none, .mov (.tmp 11)⟩,
       ⟨(some 6), none, .mov (.tmp 13)⟩])
    (.seq (.reg [⟨(some 15), none, .load true 5 (.tmp 2)⟩,
       ⟨(some 16), none, .mov (.tmp 1)⟩,
       ⟨(some 17), none, .mov (.tmp 6)⟩,
       ⟨(some 18), none, .call (.fn 67) [(.tmp 15), (.tmp 16), (.tmp 17)]⟩,
       ⟨(some 14), none, .mov (.tmp 18)⟩,
       ⟨(some 19), none, .ext (.tmp 14) 0⟩,
       ⟨(some 20), none, .ext (.tmp 14) 1⟩,
       ⟨(some 7), none, .alloc [(.int .i64 0), (.int .i64 0), (.int .i64 0), (.slice none 0 0), (.slice none 0 0)]⟩,
       ⟨none, none, .store 5 (.tmp 7) (.tmp 19)⟩,
       ⟨(some 8), none, .mov (.tmp 20)⟩])
    (.seq (.seq (.reg [⟨(some 21), none, .mov (.tmp 8)⟩,
        ⟨(some 22), none, .un .not (.tmp 21)⟩])
     (.cond (.tmp 22) (.exit 1)
       (.skip)))
    (.seq (.reg [⟨(some 24), none, .load true 5 (.tmp 7)⟩,
       ⟨(some 25), none, .call (.fn 19) [(.tmp 24)]⟩,
       ⟨(some 23), none, .mov (.tmp 25)⟩,
       ⟨(some 26), none, .ext (.tmp 23) 0⟩,
       ⟨(some 27), none, .ext (.tmp 23) 1⟩,
       ⟨(some 9), none, .mov (.tmp 26)⟩,
       ⟨(some 10), none, .mov (.tmp 27)⟩])
    (.seq (.seq (.reg [⟨(some 28), none, .mov (.tmp 10)⟩,
        ⟨(some 29), none, .bin .neq (.tmp 28) (.lit (.int .i64 0))⟩])
     (.cond (.tmp 29) (.seq (.reg [⟨(some 4), none, .mov (.lit (.int .i64 (-1)))⟩,
         ⟨(some 5), none, .mov (.lit (.int .i64 (-1)))⟩])
      (.ret))
       (.skip)))
    (.reg [⟨(some 30), none, .mov (.tmp 4)⟩,
      ⟨(some 31), none, .mov (.tmp 9)⟩,
      ⟨(some 32), none, .mxmn true (.tmp 30) [(.tmp 31)]⟩,
      ⟨(some 33), none, .mov (.tmp 5)⟩,
      ⟨(some 34), none, .mov (.tmp 9)⟩,
      ⟨(some 35), none, .bin .add (.tmp 33) (.tmp 34)⟩,
      ⟨(some 4), none, .mov (.tmp 32)⟩,
      ⟨(some 5), none, .mov (.tmp 35)⟩])))))))
   (.reg [⟨(some 36), none, .bin .add (.tmp 11) (.lit (.int .i64 1))⟩,
     ⟨(some 11), none, .mov (.tmp 36)⟩])))))))
 (.seq (.reg [⟨(some 37), none, .mov (.tmp 4)⟩,
    ⟨(some 38), none, .mov (.tmp 5)⟩,
    ⟨(some 4), none, .mov (.tmp 37)⟩,
    ⟨(some 5), none, .mov (.tmp 38)⟩])
 (.ret)))
theorem k40 : FnC Tryd.prog 40 39 [] [] [.tmp 4, .tmp 5] c40 2 := ⟨Tryd.f40, _, Tryd.func40, rfl, by decide, rfl, by decide, by kernel_rfl, by kernel_rfl⟩
/-- dipworks/dipworkslaw10.of -/
def c67 : AC :=
 .seq (.reg [⟨(some 3), none, .box (.tmp 0)⟩,
    ⟨(some 6), none, .alloc [(.int .i64 0), (.int .i64 0), (.int .i64 0), (.slice none 0 0), (.slice none 0 0)]⟩,
    ⟨(some 7), none, .mov (.lit (.bool false))⟩])
 (.seq (.reg [⟨(some 13), none, .load true 5 (.tmp 3)⟩,
    ⟨(some 14), none, .mov (.tmp 1)⟩,
    ⟨(some 15), none, .call (.fn 15) [(.tmp 13), (.tmp 14)]⟩,
    ⟨(some 12), none, .mov (.tmp 15)⟩,
    ⟨(some 16), none, .ext (.tmp 12) 0⟩,
    ⟨(some 17), none, .ext (.tmp 12) 1⟩,
    ⟨(some 8), none, .mov (.tmp 16)⟩,
    ⟨(some 9), none, .mov (.tmp 17)⟩])
 (.seq (.reg [⟨(some 18), none, .load true 5 (.tmp 3)⟩,
    ⟨(some 10), none, .alloc [(.int .i64 0), (.int .i64 0), (.int .i64 0), (.slice none 0 0), (.slice none 0 0)]⟩,
    ⟨none, none, .store 5 (.tmp 10) (.tmp 18)⟩])
 (.seq (.reg [⟨(some 19), none, .bslice 3 (.agg #[(.int .i64 0), (.int .i64 0), (.int .i64 0)]) 0 []⟩,
    ⟨(some 20), none, .faddr 3 (.tmp 3)⟩,
    ⟨(some 21), none, .load false 1 (.tmp 20)⟩,
    ⟨(some 22), none, .app 3 24 (.tmp 19) (.tmp 21)⟩,
    ⟨(some 23), none, .faddr 3 (.tmp 10)⟩,
    ⟨none, none, .store 1 (.tmp 23) (.tmp 22)⟩])
 (.seq (.reg [⟨(some 24), none, .call (.fn 38) [(.lit (.int .i64 0)), (.lit (.int .i64 0))]⟩,
    ⟨(some 25), none, .build [(.int .i64 0), (.int .i64 0), (.int .i64 0)] [(0, 2, (.tmp 24))]⟩,
    ⟨(some 11), none, .alloc [(.int .i64 0), (.int .i64 0), (.int .i64 0)]⟩,
    ⟨none, none, .store 3 (.tmp 11) (.tmp 25)⟩])
 (.seq (.seq (.reg [⟨(some 26), none, .mov (.tmp 2)⟩])
  (.block 0 (.seq (.reg [⟨(some 28), none, .bin .eql (.tmp 26) (.lit (.int .i64 1))⟩,
     ⟨(some 27), none, .mov (.tmp 28)⟩])
  (.cond (.tmp 27) (.reg [⟨(some 29), none, .faddr 0 (.tmp 3)⟩,
     ⟨(some 30), none, .load false 1 (.tmp 29)⟩,
     ⟨(some 31), none, .faddr 0 (.tmp 3)⟩,
     ⟨(some 32), none, .load false 1 (.tmp 31)⟩,
     ⟨(some 33), none, .call (.fn 38) [(.tmp 30), (.tmp 32)]⟩,
     ⟨(some 34), none, .faddr 0 (.tmp 11)⟩,
     ⟨none, none, .store 2 (.tmp 34) (.tmp 33)⟩])
    (.seq (.reg [⟨(some 36), none, .bin .eql (.tmp 26) (.lit (.int .i64 2))⟩,
      ⟨(some 35), none, .mov (.tmp 36)⟩])
   (.cond (.tmp 35) (.reg [⟨(some 37), none, .faddr 2 (.tmp 11)⟩,
      ⟨none, none, .store 1 (.tmp 37) (.lit (.int .i64 2))⟩])
     (.skip)))))))
 (.seq (.reg [⟨(some 38), none, .faddr 3 (.tmp 10)⟩,
    ⟨(some 39), none, .load false 1 (.tmp 38)⟩,
    ⟨(some 40), none, .mov (.tmp 1)⟩,
    ⟨(some 41), none, .load true 3 (.tmp 11)⟩,
    ⟨(some 42), none, .iaddr 3 (.tmp 39) (.tmp 40)⟩,
    ⟨none, none, .store 3 (.tmp 42) (.tmp 41)⟩])
 (.seq (.draw (.step ⟨(some 43), none, .load true 5 (.tmp 10)⟩ (
    .step ⟨(some 44), none, .mov (.tmp 9)⟩ (
    .step ⟨(some 45), none, .bin .eql (.tmp 44) (.lit (.int .i64 0))⟩ (
    .step ⟨(some 46), none, .mov (.tmp 45)⟩ (
    .step ⟨(some 47), (some (46, true)), .mov (.tmp 8)⟩ (
    .step ⟨(some 48), (some (46, true)), .mov (.tmp 2)⟩ (
    .step ⟨(some 49), (some (46, true)), .bin .shr (.tmp 47) (.tmp 48)⟩ (
    .step ⟨(some 50), (some (46, true)), .bin .and (.tmp 49) (.lit (.int .i64 1))⟩ (
    .step ⟨(some 51), (some (46, true)), .bin .eql (.tmp 50) (.lit (.int .i64 1))⟩ (
    .step ⟨(some 52), none, .pick (.tmp 46) (.tmp 51) (.lit (.bool false))⟩ (
    .ev ⟨none, none, .store 5 (.tmp 6) (.tmp 43)⟩ [] (
    .step ⟨(some 7), none, .mov (.tmp 52)⟩ (
     .done))
    (.stop)))))))))))))
 (.ret))))))))
theorem k67 : FnC Tryd.prog 67 53 [6] [] [.cell 6 true 5, .tmp 7] c67 3 := ⟨Tryd.f67, _, Tryd.func67, rfl, by decide, rfl, by decide, by kernel_rfl, by kernel_rfl⟩
end Go.Proofs.YtkbjodmpmmnhgaaDoor

/- FlagAsk. -/
namespace Go.Proofs.YtkbjodmpmmnhgaaDoor
open Go Go.Ab

/-- An hour of a known kind. -/
def hrK (f : Fl) : Nat → Hr
  | 0 => ⟨0, 0, 0⟩
  | 1 => ⟨f.low, f.low, 0⟩
  | _ => ⟨0, 0, 2⟩
def setH (f : Fl) (h k : Nat) : Fl := { f with hs := f.hs.set h (hrK f k) }
theorem setH_OK {f : Fl} (hf : f.OK) (h k : Nat) : (setH f h k).OK := by
  refine ⟨hf.low, hf.lh, hf.high, hf.quiet, by simp only [setH, List.length_set]; exact hf.nh, hf.ns, fun x hx => ?_, fun s hs => by simp only [setH, List.length_set]; exact hf.ss s hs⟩
  rcases List.mem_or_eq_of_mem_set hx with h | rfl
  · exact hf.hs x h
  · have h1 := hf.low
    have h2 := hf.lh
    have h3 := hf.high
    match k with
    | 0 => simp only [hrK]; omega
    | 1 => simp only [hrK]; omega
    | _ + 2 => simp only [hrK]; omega
theorem kAcc_setH (f : Fl) (h k : Nat) (lo : Int) : ∀ j, kAcc (setH f h k) lo j = kAcc f lo j
  | 0 => rfl
  | j + 1 => by simp only [kAcc, kAcc_setH f h k lo j]; rfl
theorem kindsN_setH (f : Fl) (h k : Nat) (x : Hr) : kindsN (setH f h k) x = kindsN f x := by unfold kindsN; simp only [kAcc_setH]
theorem Kf_setH_ne (f : Fl) {h k i : Nat} (hi : i ≠ h) : Kf (setH f h k) i = Kf f i := by
  unfold Kf
  simp only [kindsN_setH]
  simp only [setH, List.getElem?_set_ne (Ne.symm hi)]
theorem kset_one {m k : Nat} (hk : k < 3) (h : ∀ j < 3, m.testBit j = decide (j = k)) : kset m = [k] := by
  have h0 := h 0 (by decide)
  have h1 := h 1 (by decide)
  have h2 := h 2 (by decide)
  have : kset m = (if m.testBit 0 then [0] else []) ++ ((if m.testBit 1 then [1] else []) ++ (if m.testBit 2 then [2] else [])) := by
    show [0, 1, 2].filter m.testBit = _
    simp only [List.filter]
    cases m.testBit 0 <;> cases m.testBit 1 <;> cases m.testBit 2 <;> rfl
  rw [this, h0, h1, h2]
  have : k = 0 ∨ k = 1 ∨ k = 2 := by omega
  rcases this with rfl | rfl | rfl <;> rfl
theorem kset_setH (f : Fl) (hf : f.OK) {h k : Nat} (hh : h < f.hs.length) (hk : k < 3) (hc : (Kf f h).testBit k = true) : kset (Kf (setH f h k) h) = [k] := by
  refine kset_one hk fun j hj => ?_
  have h1 := hf.low
  have h2 := hf.lh
  have hK : Kf (setH f h k) h = kindsN f (hrK f k) := by
    unfold Kf
    simp only [kindsN_setH]
    simp only [setH, List.getElem?_set_self hh]
  have hl : (hrK f k).lo ≤ (hrK f k).hi := by
    have : k = 0 ∨ k = 1 ∨ k = 2 := by omega
    rcases this with rfl | rfl | rfl <;> simp [hrK]
  rw [hK, Bool.eq_iff_iff, kindsN_bit f _ hl j hj, decide_eq_true_eq]
  have : k = 0 ∨ k = 1 ∨ k = 2 := by omega
  rcases this with rfl | rfl | rfl
  · simp only [hrK, canW]
    constructor
    · rintro ⟨i, hi, h | h⟩
      · omega
      · have : i = 0 := by omega
        subst this
        unfold kindZ at h
        rw [if_neg (by simp; omega), if_pos (by omega)] at h
        omega
    · rintro rfl
      refine ⟨0, by omega, .inr ⟨by omega, ?_⟩⟩
      unfold kindZ
      rw [if_neg (by simp; omega), if_pos (by omega)]
      rfl
  · -- some wind is between
    have hlt : f.low < f.high := by
      have hg : f.hs[h]? = some f.hs[h] := List.getElem?_eq_getElem hh
      have hm := hf.hs _ (List.getElem_mem hh)
      have hK2 : Kf f h = kindsN f f.hs[h] := by unfold Kf; rw [hg]
      rw [hK2, kindsN_bit f _ hm.2.1 1 (by omega)] at hc
      obtain ⟨i, hi, h | h⟩ := hc
      · omega
      · have h3 := h.2
        unfold kindZ at h3
        split at h3
        · omega
        · split at h3
          · omega
          · rename_i e1 e2
            simp at e1
            omega
    simp only [hrK, canW]
    constructor
    · rintro ⟨i, hi, h | h⟩
      · omega
      · have : i = 0 := by omega
        subst this
        unfold kindZ at h
        rw [if_neg (by simp; omega), if_neg (by simp)] at h
        omega
    · rintro rfl
      refine ⟨0, by omega, .inr ⟨by omega, ?_⟩⟩
      unfold kindZ
      rw [if_neg (by simp; omega), if_neg (by simp)]
      rfl
  · simp only [hrK, canW]
    constructor
    · rintro ⟨i, hi, h | h⟩
      · omega
      · omega
    · rintro rfl
      exact ⟨0, by omega, .inl ⟨by omega, rfl⟩⟩
theorem kls_setH_far (f : Fl) (h k : Nat) : ∀ (l h0 : Nat), h < h0 → kls (setH f h k) l h0 = kls f l h0
  | 0, _, _ => rfl
  | l + 1, h0, hlt => by
    simp only [kls, Kf_setH_ne f (show h0 ≠ h by omega), kls_setH_far f h k l (h0 + 1) (by omega)]
theorem flatMap_pick {α : Type} (k : Nat) (g : Nat → List α) (p : Nat → α → Bool) : ∀ (l : List Nat), l.Nodup → k ∈ l → (∀ x ∈ l, x ≠ k → (g x).filter (p x) = []) → (l.flatMap fun x => (g x).filter (p x)) = (g k).filter (p k)
  | [], _, h, _ => by cases h
  | x :: r, hn, h, hz => by
    simp only [List.flatMap_cons]
    rw [List.nodup_cons] at hn
    by_cases e : x = k
    · subst e
      have : (r.flatMap fun y => (g y).filter (p y)) = [] := by
        rw [List.flatMap_eq_nil_iff]
        intro y hy
        exact hz y (by simp [hy]) fun e => hn.1 (e ▸ hy)
      rw [this, List.append_nil]
    · rw [hz x (by simp) e, List.nil_append]
      refine flatMap_pick k g p r hn.2 ?_ fun y hy => hz y (by simp [hy])
      rcases List.mem_cons.1 h with h | h
      · exact absurd h.symm e
      · exact h
theorem kls_setH (f : Fl) (hf : f.OK) {h k : Nat} (hk : k < 3) (hh : h < f.hs.length) (hc : (Kf f h).testBit k = true) : ∀ (l h0 : Nat), h0 ≤ h → h < h0 + l → kls (setH f h k) l h0 = (kls f l h0).filter fun ks => ks[h - h0]? == some k
  | 0, _, _, _ => by omega
  | l + 1, h0, h1, h2 => by
    simp only [kls]
    rw [filter_flatMap]
    by_cases e : h0 = h
    · subst e
      rw [kset_setH f hf hh hk hc, kls_setH_far f h0 k l (h0 + 1) (by omega)]
      simp only [List.flatMap_cons, List.flatMap_nil, List.append_nil, Nat.sub_self]
      rw [flatMap_pick k (fun x => (kls f l (h0 + 1)).map (x :: ·)) (fun _ ks => ks[0]? == some k) (kset (Kf f h0)) (by
        unfold kset; exact List.Pairwise.filter _ List.nodup_range) ((kset_mem _ _).2 ⟨hk, hc⟩) (fun x _ hne => by
        rw [List.filter_eq_nil_iff]
        intro ks hks
        obtain ⟨r, _, rfl⟩ := List.mem_map.1 hks
        simpa using hne)]
      rw [List.filter_eq_self.2 fun ks hks => by
        obtain ⟨r, _, rfl⟩ := List.mem_map.1 hks
        simp]
    · rw [Kf_setH_ne f e, kls_setH f hf hk hh hc l (h0 + 1) (by omega) (by omega)]
      congr 1
      funext x
      rw [List.filter_map]
      congr 1
      refine List.filter_congr fun ks _ => ?_
      simp only [Function.comp]
      rw [show h - h0 = h - (h0 + 1) + 1 by omega, List.getElem?_cons_succ]
theorem truths_setH (f : Fl) (hf : f.OK) {h k : Nat} (hk : k < 3) (hh : h < f.hs.length) (hc : (Kf f h).testBit k = true) : (truths (setH f h k)).length = kindN f h k := by
  have hr : rows (setH f h k) = (rows f).filter fun ks => ks[h]? == some k := by
    have := kls_setH f hf hk hh hc f.hs.length 0 (by omega) (by omega)
    rw [Nat.sub_zero] at this
    unfold rows
    rw [show (setH f h k).hs.length = f.hs.length by simp [setH]]
    exact this
  unfold truths kindN
  rw [hr, List.countP_eq_length_filter, List.filter_filter]
  unfold truths
  rw [List.filter_filter]
  congr 1
  refine List.filter_congr fun ks _ => ?_
  rw [Bool.and_comm]
  rfl
theorem kindN_zero (f : Fl) {h k : Nat} (hc : (Kf f h).testBit k = false) : kindN f h k = 0 := by
  unfold kindN
  rw [List.countP_eq_zero]
  intro ks hks
  simp only [beq_iff_eq]
  intro e
  have := ((kls_mem f _ _ _).1 (truths_rows hks)).2 h k e
  rw [kset_mem, Nat.zero_add, hc] at this
  simp at this
def smK (f : Fl) (h : Nat) : Nat → Nat
  | 0 => 0
  | k + 1 => smK f h k + kindN f h k
theorem smK3 (f : Fl) {h : Nat} (hh : h < f.hs.length) : smK f h 3 = (truths f).length := by
  simp only [smK, kindN, Nat.zero_add]
  have key : ∀ (l : List (List Nat)), (∀ ks ∈ l, ∃ x, ks[h]? = some x ∧ x < 3) → (l.countP fun ks => ks[h]? == some 0) + (l.countP fun ks => ks[h]? == some 1) + (l.countP fun ks => ks[h]? == some 2) = l.length := by
    intro l
    induction l with
    | nil => intro _; rfl
    | cons ks l ih =>
      intro hl
      have := ih fun y hy => hl y (by simp [hy])
      obtain ⟨x, hx, hx3⟩ := hl ks (by simp)
      simp only [List.countP_cons, List.length_cons, hx]
      have : x = 0 ∨ x = 1 ∨ x = 2 := by omega
      rcases this with rfl | rfl | rfl <;> simp <;> omega
  refine key _ fun ks hks => ?_
  have hl := truths_len hks
  exact ⟨ks[h], List.getElem?_eq_getElem (by omega), truths_k3 hks _ (List.getElem_mem _)⟩

theorem gc_fl (A B C D : AO) (a b c s r : T) (xs : List T) (n : Nat) (hn : n = xs.length) : E.gc [] [A, B, C, .row 3 (xs.map .t), D] 12 (.tup [.agg [.t a, .t b, .t c, .loc 3 n, .t s], .t r]) = .tup [.t (.agg [a, b, c, .slice 3 xs, s]), .t r] := by
  have h : E.gc [] [A, B, C, .row 3 (xs.map .t), D] 10 (.loc 3 n) = .t (.slice 3 xs) := gc_loc (n := 8) rfl rfl hn
  rw [E.gc]
  simp only [List.map_cons, List.map_nil, gc_t]
  rw [E.gc]
  simp only [List.map_cons, List.map_nil, gc_t, h]
  rfl

set_option maxRecDepth 8000 in
set_option maxHeartbeats 4000000 in
theorem of_ok (f : Fl) (hL : Lens f) (hf : f.OK) (h k : Nat) (hh : h < f.hs.length) (hk : k < 3) : ACall Tryd.prog 67 [.t (.agg (fl5 f)), .t (vi h), .t (vi k)] [] (res (.ret (.tup [.t (.agg (fl5 (setH f h k))), .t (vb ((Kf f h).testBit k))]))) := by
  refine ACall.walk k67 ?_
  have h15 := Kinds_ok f h hL
  have hok := (Fl.ok_iff f).2 hf
  have hn := hf.nh
  have hKl : Kf f h < 8 := by
    unfold Kf
    split
    · exact kindsN_lt _ _
    · decide
  have e1 : specKinds f h = (((Kf f h : Nat) : Int), 0) := by simp only [specKinds, hok, isH_iff.2 ⟨Int.natCast_nonneg h, Int.ofNat_lt.2 hh⟩]; rfl
  rw [e1] at h15
  simp only [oneE, fl5] at h15
  have hbit := bit_eq (a := Kf f h) (i := k) (by omega)
  unfold c67 fl5
  simp only [go_sem, Nat.reduceEqDiff, Nat.reduceAdd, Nat.reduceSub, Nat.reduceMul, Nat.reduceLT, Nat.reduceLeDiff, Nat.reduceMod, Nat.reduceDiv, Int.reduceToNat, Int.reduceLT, Int.reduceLE, Bool.not_true, Bool.not_false, reduceIte, Int.reduceEq, Int.reduceBEq, Int.reduceBNe, Int.reduceGT, Int.reduceGE, Int.reduceNeg, Int.reduceAdd, Int.reduceSub, Nat.reduceBEq, decide_true, decide_false, undef, beq_self_eq_true, bne_self_eq_false, Bool.and_true, Bool.true_and, Bool.and_false, Bool.false_and, Bool.or_true, Bool.true_or, Bool.or_false, Bool.false_or]
  refine ACallL.quiet1 h15 rfl rfl rfl ?_
  simp only [go_sem, Nat.reduceEqDiff, Nat.reduceAdd, Nat.reduceSub, Nat.reduceMul, Nat.reduceLT, Nat.reduceLeDiff, Nat.reduceMod, Nat.reduceDiv, Int.reduceToNat, Int.reduceLT, Int.reduceLE, Bool.not_true, Bool.not_false, reduceIte, Int.reduceEq, Int.reduceBEq, Int.reduceBNe, Int.reduceGT, Int.reduceGE, Int.reduceNeg, Int.reduceAdd, Int.reduceSub, Nat.reduceBEq, decide_true, decide_false, undef, beq_self_eq_true, bne_self_eq_false, Bool.and_true, Bool.true_and, Bool.and_false, Bool.false_and, Bool.or_true, Bool.true_or, Bool.or_false, Bool.false_or, undef, List.length_map]
  refine ⟨⟨by unfold maxLen; omega, by omega⟩, ?_⟩
  refine ACallL.quiet1 (span2_ok _ _) rfl rfl rfl ?_
  have hg : f.hs[h]? = some f.hs[h] := List.getElem?_eq_getElem hh
  have hset : ∀ x : Hr, ((f.hs.map tHr).map E.t).set h (E.t (.agg [vi x.lo, vi x.hi, vi x.th])) = ((f.hs.set h x).map tHr).map E.t := fun x => by
    rw [List.map_set, List.map_set]; rfl
  have hlt : (h : Int) < (f.hs.length : Int) := by omega
  generalize f.hs[h] = y at *
  have : k = 0 ∨ k = 1 ∨ k = 2 := by omega
  rcases this with rfl | rfl | rfl
  · have hset0 := hset ⟨0, 0, 0⟩
    simp only at hset0
    simp only [go_sem, Nat.reduceEqDiff, Nat.reduceAdd, Nat.reduceSub, Nat.reduceMul, Nat.reduceLT, Nat.reduceLeDiff, Nat.reduceMod, Nat.reduceDiv, Int.reduceToNat, Int.reduceLT, Int.reduceLE, Bool.not_true, Bool.not_false, reduceIte, Int.reduceEq, Int.reduceBEq, Int.reduceBNe, Int.reduceGT, Int.reduceGE, Int.reduceNeg, Int.reduceAdd, Int.reduceSub, Nat.reduceBEq, decide_true, decide_false, undef, beq_self_eq_true, bne_self_eq_false, Bool.and_true, Bool.true_and, Bool.and_false, Bool.false_and, Bool.or_true, Bool.true_or, Bool.or_false, Bool.false_or, undef, List.length_map]
    refine ⟨hlt, ?_⟩
    simp only [go_sem, Nat.reduceEqDiff, Nat.reduceAdd, Nat.reduceSub, Nat.reduceMul, Nat.reduceLT, Nat.reduceLeDiff, Nat.reduceMod, Nat.reduceDiv, Int.reduceToNat, Int.reduceLT, Int.reduceLE, Bool.not_true, Bool.not_false, reduceIte, Int.reduceEq, Int.reduceBEq, Int.reduceBNe, Int.reduceGT, Int.reduceGE, Int.reduceNeg, Int.reduceAdd, Int.reduceSub, Nat.reduceBEq, decide_true, decide_false, undef, beq_self_eq_true, bne_self_eq_false, Bool.and_true, Bool.true_and, Bool.and_false, Bool.false_and, Bool.or_true, Bool.true_or, Bool.or_false, Bool.false_or, undef, List.length_map, List.getElem?_map, hg, tHr, Option.map_some]
    simp only [go_sem, Nat.reduceEqDiff, Nat.reduceAdd, Nat.reduceSub, Nat.reduceMul, Nat.reduceLT, Nat.reduceLeDiff, Nat.reduceMod, Nat.reduceDiv, Int.reduceToNat, Int.reduceLT, Int.reduceLE, Bool.not_true, Bool.not_false, reduceIte, Int.reduceEq, Int.reduceBEq, Int.reduceBNe, Int.reduceGT, Int.reduceGE, Int.reduceNeg, Int.reduceAdd, Int.reduceSub, Nat.reduceBEq, decide_true, decide_false, undef, beq_self_eq_true, bne_self_eq_false, Bool.and_true, Bool.true_and, Bool.and_false, Bool.false_and, Bool.or_true, Bool.true_or, Bool.or_false, Bool.false_or, undef, List.length_map, List.getElem?_map, hg, tHr, Option.map_some, hset0, hbit]
    exact finL_ret [] ⟨rfl, rfl, rfl, rfl, _, rfl, res_mk (congrArg Out.ret (gc_fl _ _ _ _ _ _ _ _ _ _ _ (by simp)))⟩
  · have hset0 := hset ⟨f.low, f.low, 0⟩
    simp only at hset0
    simp only [go_sem, Nat.reduceEqDiff, Nat.reduceAdd, Nat.reduceSub, Nat.reduceMul, Nat.reduceLT, Nat.reduceLeDiff, Nat.reduceMod, Nat.reduceDiv, Int.reduceToNat, Int.reduceLT, Int.reduceLE, Bool.not_true, Bool.not_false, reduceIte, Int.reduceEq, Int.reduceBEq, Int.reduceBNe, Int.reduceGT, Int.reduceGE, Int.reduceNeg, Int.reduceAdd, Int.reduceSub, Nat.reduceBEq, decide_true, decide_false, undef, beq_self_eq_true, bne_self_eq_false, Bool.and_true, Bool.true_and, Bool.and_false, Bool.false_and, Bool.or_true, Bool.true_or, Bool.or_false, Bool.false_or, undef, List.length_map]
    refine ACallL.quiet1 (span2_ok _ _) rfl rfl rfl ?_
    simp only [go_sem, Nat.reduceEqDiff, Nat.reduceAdd, Nat.reduceSub, Nat.reduceMul, Nat.reduceLT, Nat.reduceLeDiff, Nat.reduceMod, Nat.reduceDiv, Int.reduceToNat, Int.reduceLT, Int.reduceLE, Bool.not_true, Bool.not_false, reduceIte, Int.reduceEq, Int.reduceBEq, Int.reduceBNe, Int.reduceGT, Int.reduceGE, Int.reduceNeg, Int.reduceAdd, Int.reduceSub, Nat.reduceBEq, decide_true, decide_false, undef, beq_self_eq_true, bne_self_eq_false, Bool.and_true, Bool.true_and, Bool.and_false, Bool.false_and, Bool.or_true, Bool.true_or, Bool.or_false, Bool.false_or, undef, List.length_map]
    refine ⟨hlt, ?_⟩
    simp only [go_sem, Nat.reduceEqDiff, Nat.reduceAdd, Nat.reduceSub, Nat.reduceMul, Nat.reduceLT, Nat.reduceLeDiff, Nat.reduceMod, Nat.reduceDiv, Int.reduceToNat, Int.reduceLT, Int.reduceLE, Bool.not_true, Bool.not_false, reduceIte, Int.reduceEq, Int.reduceBEq, Int.reduceBNe, Int.reduceGT, Int.reduceGE, Int.reduceNeg, Int.reduceAdd, Int.reduceSub, Nat.reduceBEq, decide_true, decide_false, undef, beq_self_eq_true, bne_self_eq_false, Bool.and_true, Bool.true_and, Bool.and_false, Bool.false_and, Bool.or_true, Bool.true_or, Bool.or_false, Bool.false_or, undef, List.length_map, List.getElem?_map, hg, tHr, Option.map_some]
    simp only [go_sem, Nat.reduceEqDiff, Nat.reduceAdd, Nat.reduceSub, Nat.reduceMul, Nat.reduceLT, Nat.reduceLeDiff, Nat.reduceMod, Nat.reduceDiv, Int.reduceToNat, Int.reduceLT, Int.reduceLE, Bool.not_true, Bool.not_false, reduceIte, Int.reduceEq, Int.reduceBEq, Int.reduceBNe, Int.reduceGT, Int.reduceGE, Int.reduceNeg, Int.reduceAdd, Int.reduceSub, Nat.reduceBEq, decide_true, decide_false, undef, beq_self_eq_true, bne_self_eq_false, Bool.and_true, Bool.true_and, Bool.and_false, Bool.false_and, Bool.or_true, Bool.true_or, Bool.or_false, Bool.false_or, undef, List.length_map, List.getElem?_map, hg, tHr, Option.map_some, hset0, hbit]
    exact finL_ret [] ⟨rfl, rfl, rfl, rfl, _, rfl, res_mk (congrArg Out.ret (gc_fl _ _ _ _ _ _ _ _ _ _ _ (by simp)))⟩
  · have hset0 := hset ⟨0, 0, 2⟩
    simp only at hset0
    simp only [go_sem, Nat.reduceEqDiff, Nat.reduceAdd, Nat.reduceSub, Nat.reduceMul, Nat.reduceLT, Nat.reduceLeDiff, Nat.reduceMod, Nat.reduceDiv, Int.reduceToNat, Int.reduceLT, Int.reduceLE, Bool.not_true, Bool.not_false, reduceIte, Int.reduceEq, Int.reduceBEq, Int.reduceBNe, Int.reduceGT, Int.reduceGE, Int.reduceNeg, Int.reduceAdd, Int.reduceSub, Nat.reduceBEq, decide_true, decide_false, undef, beq_self_eq_true, bne_self_eq_false, Bool.and_true, Bool.true_and, Bool.and_false, Bool.false_and, Bool.or_true, Bool.true_or, Bool.or_false, Bool.false_or, undef, List.length_map]
    refine ⟨hlt, ?_⟩
    simp only [go_sem, Nat.reduceEqDiff, Nat.reduceAdd, Nat.reduceSub, Nat.reduceMul, Nat.reduceLT, Nat.reduceLeDiff, Nat.reduceMod, Nat.reduceDiv, Int.reduceToNat, Int.reduceLT, Int.reduceLE, Bool.not_true, Bool.not_false, reduceIte, Int.reduceEq, Int.reduceBEq, Int.reduceBNe, Int.reduceGT, Int.reduceGE, Int.reduceNeg, Int.reduceAdd, Int.reduceSub, Nat.reduceBEq, decide_true, decide_false, undef, beq_self_eq_true, bne_self_eq_false, Bool.and_true, Bool.true_and, Bool.and_false, Bool.false_and, Bool.or_true, Bool.true_or, Bool.or_false, Bool.false_or, undef, List.length_map, List.getElem?_map, hg, tHr, Option.map_some]
    simp only [go_sem, Nat.reduceEqDiff, Nat.reduceAdd, Nat.reduceSub, Nat.reduceMul, Nat.reduceLT, Nat.reduceLeDiff, Nat.reduceMod, Nat.reduceDiv, Int.reduceToNat, Int.reduceLT, Int.reduceLE, Bool.not_true, Bool.not_false, reduceIte, Int.reduceEq, Int.reduceBEq, Int.reduceBNe, Int.reduceGT, Int.reduceGE, Int.reduceNeg, Int.reduceAdd, Int.reduceSub, Nat.reduceBEq, decide_true, decide_false, undef, beq_self_eq_true, bne_self_eq_false, Bool.and_true, Bool.true_and, Bool.and_false, Bool.false_and, Bool.or_true, Bool.true_or, Bool.or_false, Bool.false_or, undef, List.length_map, List.getElem?_map, hg, tHr, Option.map_some, hset0, hbit]
    exact finL_ret [] ⟨rfl, rfl, rfl, rfl, _, rfl, res_mk (congrArg Out.ret (gc_fl _ _ _ _ _ _ _ _ _ _ _ (by simp)))⟩
theorem smK_le (f : Fl) (h : Nat) : ∀ k, smK f h k ≤ k * (truths f).length
  | 0 => by simp [smK]
  | k + 1 => by
    have := smK_le f h k
    have h2 : kindN f h k ≤ (truths f).length := List.countP_le_length
    simp only [smK]
    rw [Nat.succ_mul]
    omega
set_option maxRecDepth 8000 in
set_option maxHeartbeats 4000000 in
theorem most_ok (f : Fl) (hL : Lens f) (hf : f.OK) (h : Nat) (hh : h < f.hs.length) : ACall Tryd.prog 40 [.t (.agg (fl5 f)), .t (vi h)] [] (res (.ret (.tup [.t (vi (mostK f h)), .t (vi (truths f).length)]))) := by
  refine ACall.walk k40 ?_
  unfold c40 fl5
  have hle := truths_le f hf
  have hn := hf.nh
  simp only [go_sem, Nat.reduceEqDiff, Nat.reduceAdd, Nat.reduceSub, Nat.reduceMul, Nat.reduceLT, Nat.reduceLeDiff, Nat.reduceMod, Nat.reduceDiv, Int.reduceToNat, Int.reduceLT, Int.reduceLE, Bool.not_true, Bool.not_false, reduceIte, Int.reduceEq, Int.reduceBEq, Int.reduceBNe, Int.reduceGT, Int.reduceGE, Int.reduceNeg, Int.reduceAdd, Int.reduceSub, Nat.reduceBEq, decide_true, decide_false, undef, beq_self_eq_true, bne_self_eq_false, Bool.and_true, Bool.true_and, Bool.and_false, Bool.false_and, Bool.or_true, Bool.true_or, Bool.or_false, Bool.false_or]
  refine awpL_loopK 3 (fun k s => s = { env := [(11, .t (vi k)), (4, .t (vi (mxK f h k))), (5, .t (vi (smK f h k))), (1, .t (vi h)), (2, .ptr 0 0)], σ := [.cells ((fl5 f).map .t)] }) ⟨_, Sub.gc [0] [11, 4, 5, 1, 2] rfl rfl, rfl⟩ ?_
  rintro k s hk rfl
  simp only [fl5, go_sem, Nat.reduceEqDiff, Nat.reduceAdd, Nat.reduceSub, Nat.reduceMul, Nat.reduceLT, Nat.reduceLeDiff, Nat.reduceMod, Nat.reduceDiv, Int.reduceToNat, Int.reduceLT, Int.reduceLE, Bool.not_true, Bool.not_false, reduceIte, Int.reduceEq, Int.reduceBEq, Int.reduceBNe, Int.reduceGT, Int.reduceGE, Int.reduceNeg, Int.reduceAdd, Int.reduceSub, Nat.reduceBEq, decide_true, decide_false, undef, beq_self_eq_true, bne_self_eq_false, Bool.and_true, Bool.true_and, Bool.and_false, Bool.false_and, Bool.or_true, Bool.true_or, Bool.or_false, Bool.false_or]
  refine BrL.mk (fun g => ?_) (fun g => ?_)
  · have hk' : k < 3 := by simp at g; omega
    have hw : IntKind.i64.wrap ((k : Int) + 1) = ((k + 1 : Nat) : Int) := by rw [wrap_id (by omega) (by omega)]; omega
    have h67 := of_ok f hL hf h k hh hk'
    have hsum := smK_le f h k
    have hkl : kindN f h k ≤ (truths f).length := List.countP_le_length
    have hm : mxK f h (k + 1) = max (mxK f h k) (kindN f h k) := rfl
    have hs : smK f h (k + 1) = smK f h k + kindN f h k := rfl
    have hb3 : k * (truths f).length ≤ 2 * (truths f).length := Nat.mul_le_mul_right _ (by omega)
    simp only [fl5] at h67
    simp only [g, go_sem, Nat.reduceEqDiff, Nat.reduceAdd, Nat.reduceSub, Nat.reduceMul, Nat.reduceLT, Nat.reduceLeDiff, Nat.reduceMod, Nat.reduceDiv, Int.reduceToNat, Int.reduceLT, Int.reduceLE, Bool.not_true, Bool.not_false, reduceIte, Int.reduceEq, Int.reduceBEq, Int.reduceBNe, Int.reduceGT, Int.reduceGE, Int.reduceNeg, Int.reduceAdd, Int.reduceSub, Nat.reduceBEq, decide_true, decide_false, undef, beq_self_eq_true, bne_self_eq_false, Bool.and_true, Bool.true_and, Bool.and_false, Bool.false_and, Bool.or_true, Bool.true_or, Bool.or_false, Bool.false_or]
    refine ACallL.fresh1 h67 rfl ?_
    cases hc : (Kf f h).testBit k
    · have hz := kindN_zero f hc
      rw [hz] at hm hs
      simp only [go_sem, Nat.reduceEqDiff, Nat.reduceAdd, Nat.reduceSub, Nat.reduceMul, Nat.reduceLT, Nat.reduceLeDiff, Nat.reduceMod, Nat.reduceDiv, Int.reduceToNat, Int.reduceLT, Int.reduceLE, Bool.not_true, Bool.not_false, reduceIte, Int.reduceEq, Int.reduceBEq, Int.reduceBNe, Int.reduceGT, Int.reduceGE, Int.reduceNeg, Int.reduceAdd, Int.reduceSub, Nat.reduceBEq, decide_true, decide_false, undef, beq_self_eq_true, bne_self_eq_false, Bool.and_true, Bool.true_and, Bool.and_false, Bool.false_and, Bool.or_true, Bool.true_or, Bool.or_false, Bool.false_or, undef, hw]
      refine ⟨hk', _, Sub.gc [0] [11, 4, 5, 1, 2] rfl rfl, ?_⟩
      rw [hm, hs, Nat.max_zero, Nat.add_zero]
      rfl
    · have hg := setH_OK hf h k
      have ht := truths_setH f hf hk' hh hc
      have h19 := Count_ok (setH f h k) (by simpa [setH] using hL)
      have e1 : specCount (setH f h k) = (((kindN f h k : Nat) : Int), 0) := by simp only [specCount, (Fl.ok_iff _).2 hg, ht]; rfl
      rw [e1] at h19
      simp only [oneE, fl5] at h19
      generalize setH f h k = x at *
      generalize kindN f h k = y at *
      generalize mxK f h k = m at *
      generalize smK f h k = sm at *
      have hw2 : IntKind.i64.wrap ((sm : Int) + y) = ((sm + y : Nat) : Int) := by rw [wrap_id (by omega) (by omega)]; omega
      have hmx : max (m : Int) (y : Int) = ((max m y : Nat) : Int) := by omega
      simp only [go_sem, Nat.reduceEqDiff, Nat.reduceAdd, Nat.reduceSub, Nat.reduceMul, Nat.reduceLT, Nat.reduceLeDiff, Nat.reduceMod, Nat.reduceDiv, Int.reduceToNat, Int.reduceLT, Int.reduceLE, Bool.not_true, Bool.not_false, reduceIte, Int.reduceEq, Int.reduceBEq, Int.reduceBNe, Int.reduceGT, Int.reduceGE, Int.reduceNeg, Int.reduceAdd, Int.reduceSub, Nat.reduceBEq, decide_true, decide_false, undef, beq_self_eq_true, bne_self_eq_false, Bool.and_true, Bool.true_and, Bool.and_false, Bool.false_and, Bool.or_true, Bool.true_or, Bool.or_false, Bool.false_or, undef]
      refine ACallL.quiet1 h19 rfl rfl rfl ?_
      simp only [go_sem, Nat.reduceEqDiff, Nat.reduceAdd, Nat.reduceSub, Nat.reduceMul, Nat.reduceLT, Nat.reduceLeDiff, Nat.reduceMod, Nat.reduceDiv, Int.reduceToNat, Int.reduceLT, Int.reduceLE, Bool.not_true, Bool.not_false, reduceIte, Int.reduceEq, Int.reduceBEq, Int.reduceBNe, Int.reduceGT, Int.reduceGE, Int.reduceNeg, Int.reduceAdd, Int.reduceSub, Nat.reduceBEq, decide_true, decide_false, undef, beq_self_eq_true, bne_self_eq_false, Bool.and_true, Bool.true_and, Bool.and_false, Bool.false_and, Bool.or_true, Bool.true_or, Bool.or_false, Bool.false_or, undef, hw, hw2, hmx]
      refine ⟨hk', _, Sub.gc [0] [11, 4, 5, 1, 2] rfl rfl, ?_⟩
      rw [hm, hs]
      rfl
  · have hk' : k = 3 := by simp at g; omega
    subst hk'
    simp only [g, go_sem, Nat.reduceEqDiff, Nat.reduceAdd, Nat.reduceSub, Nat.reduceMul, Nat.reduceLT, Nat.reduceLeDiff, Nat.reduceMod, Nat.reduceDiv, Int.reduceToNat, Int.reduceLT, Int.reduceLE, Bool.not_true, Bool.not_false, reduceIte, Int.reduceEq, Int.reduceBEq, Int.reduceBNe, Int.reduceGT, Int.reduceGE, Int.reduceNeg, Int.reduceAdd, Int.reduceSub, Nat.reduceBEq, decide_true, decide_false, undef, beq_self_eq_true, bne_self_eq_false, Bool.and_true, Bool.true_and, Bool.and_false, Bool.false_and, Bool.or_true, Bool.true_or, Bool.or_false, Bool.false_or]
    exact finL_ret [] ⟨rfl, rfl, rfl, rfl, _, rfl, res_mk (by rw [mxK3, smK3 f hh]; rfl)⟩

theorem bestA_least (f : Fl) : ∀ m j, j < m → mostK f (bestA f m) < mostK f j ∨ (mostK f j = mostK f (bestA f m) ∧ bestA f m ≤ j)
  | 0, j, h => by omega
  | m + 1, j, h => by
    have ih := bestA_least f m
    simp only [bestA]
    split
    · rename_i c
      by_cases e : j = m
      · subst e; exact .inr ⟨rfl, Nat.le_refl _⟩
      · rcases ih j (by omega) with h1 | h1
        · left; omega
        · left; omega
    · rename_i c
      by_cases e : j = m
      · subst e
        have := bestA_le f j
        rcases Nat.lt_or_ge (mostK f (bestA f j)) (mostK f j) with h1 | h1
        · exact .inl h1
        · right; omega
      · exact ih j (by omega)

set_option maxRecDepth 8000 in
set_option maxHeartbeats 4000000 in
theorem FlagAsk_ok (f : Fl) (hL : Lens f) (u : Nat) (hu : u < 256) : ACall Tryd.prog 9 [.t (.agg (fl5 f)), .t (.lit (.int .u8 u))] [] (res (.ret (.t (vb true)))) := by
  refine ACall.walk k9 ?_
  have h31 := fine_ok f hL
  have h27 := Ask_ok f hL
  have h19 := Count_ok f hL
  unfold c9 fl5
  simp only [fl5] at h31 h27 h19
  simp only [go_sem, Nat.reduceEqDiff, Nat.reduceAdd, Nat.reduceSub, Nat.reduceMul, Nat.reduceLT, Nat.reduceLeDiff, Nat.reduceMod, Nat.reduceDiv, Int.reduceToNat, Int.reduceLT, Int.reduceLE, Bool.not_true, Bool.not_false, reduceIte, Int.reduceEq, Int.reduceBEq, Int.reduceBNe, Int.reduceGT, Int.reduceGE, Int.reduceNeg, Int.reduceAdd, Int.reduceSub, Nat.reduceBEq, decide_true, decide_false, undef, beq_self_eq_true, bne_self_eq_false, Bool.and_true, Bool.true_and, Bool.and_false, Bool.false_and, Bool.or_true, Bool.true_or, Bool.or_false, Bool.false_or]
  refine ACallL.quiet1 h31 rfl rfl rfl ?_
  cases hF : fineB f
  · simp only [go_sem, Nat.reduceEqDiff, Nat.reduceAdd, Nat.reduceSub, Nat.reduceMul, Nat.reduceLT, Nat.reduceLeDiff, Nat.reduceMod, Nat.reduceDiv, Int.reduceToNat, Int.reduceLT, Int.reduceLE, Bool.not_true, Bool.not_false, reduceIte, Int.reduceEq, Int.reduceBEq, Int.reduceBNe, Int.reduceGT, Int.reduceGE, Int.reduceNeg, Int.reduceAdd, Int.reduceSub, Nat.reduceBEq, decide_true, decide_false, undef, beq_self_eq_true, bne_self_eq_false, Bool.and_true, Bool.true_and, Bool.and_false, Bool.false_and, Bool.or_true, Bool.true_or, Bool.or_false, Bool.false_or, undef]
    refine ACallL.quiet1 awake_ok rfl rfl rfl ?_
    simp only [go_sem, Nat.reduceEqDiff, Nat.reduceAdd, Nat.reduceSub, Nat.reduceMul, Nat.reduceLT, Nat.reduceLeDiff, Nat.reduceMod, Nat.reduceDiv, Int.reduceToNat, Int.reduceLT, Int.reduceLE, Bool.not_true, Bool.not_false, reduceIte, Int.reduceEq, Int.reduceBEq, Int.reduceBNe, Int.reduceGT, Int.reduceGE, Int.reduceNeg, Int.reduceAdd, Int.reduceSub, Nat.reduceBEq, decide_true, decide_false, undef, beq_self_eq_true, bne_self_eq_false, Bool.and_true, Bool.true_and, Bool.and_false, Bool.false_and, Bool.or_true, Bool.true_or, Bool.or_false, Bool.false_or, undef]
    exact finL_ret [] ⟨rfl, rfl, rfl, rfl, _, rfl, res_mk rfl⟩
  obtain ⟨hok, hf⟩ := fine_iff hF
  have hn := hf.nh
  have hle := truths_le f hf
  have e1 : specCount f = ((((truths f).length : Nat) : Int), 0) := by simp only [specCount, hok]; rfl
  rw [e1] at h19
  simp only [oneE] at h19
  by_cases h1 : 1 < (truths f).length
  · have hT : noT f = false := by
      unfold noT
      cases ht : truths f with
      | nil => rw [ht] at h1; simp at h1
      | cons x r => rfl
    have hpos : 0 < f.hs.length := by
      rcases Nat.eq_zero_or_pos f.hs.length with e | e
      · have h2 := rows_many f 0 0
        have h3 : (truths f).length ≤ (rows f).length := List.length_filter_le _ _
        unfold rows at h3
        rw [e] at h3
        simp only [Nat.pow_zero] at h2
        omega
      · exact e
    have e2 : specAsk f = (((bestA f f.hs.length : Nat) : Int), ((mostK f (bestA f f.hs.length) : Nat) : Int), 0) := by
      simp only [specAsk, hok, hT, if_pos h1, bestA_askF f _ hpos]; rfl
    rw [e2] at h27
    simp only [twoE] at h27
    have hb := bestA_le f f.hs.length
    have hbl := bestA_least f f.hs.length
    have m1 := most_ok f hL hf (bestA f f.hs.length) (by omega)
    have hi : u % f.hs.length < f.hs.length := Nat.mod_lt _ hpos
    have m2 := most_ok f hL hf (u % f.hs.length) hi
    have d3 := hbl _ hi
    simp only [fl5] at m1 m2
    generalize mostK f (bestA f f.hs.length) = lf at *
    generalize mostK f (u % f.hs.length) = lk at *
    generalize bestA f f.hs.length = b at *
    have g1 : decide (((truths f).length : Int) < 2) = false := by simp; omega
    have g2 : decide ((b : Int) < 0) = false := decide_eq_false (by omega)
    have g3 : decide ((b : Int) ≥ f.hs.length) = false := by simp; omega
    have n0 : ¬ ((f.hs.length : Int) = 0) := by omega
    have t1 := mod_nat u f.hs.length
    have w0 : IntKind.i64.wrap (u : Int) = u := wrap_id (by omega) (by omega)
    simp only [go_sem, Nat.reduceEqDiff, Nat.reduceAdd, Nat.reduceSub, Nat.reduceMul, Nat.reduceLT, Nat.reduceLeDiff, Nat.reduceMod, Nat.reduceDiv, Int.reduceToNat, Int.reduceLT, Int.reduceLE, Bool.not_true, Bool.not_false, reduceIte, Int.reduceEq, Int.reduceBEq, Int.reduceBNe, Int.reduceGT, Int.reduceGE, Int.reduceNeg, Int.reduceAdd, Int.reduceSub, Nat.reduceBEq, decide_true, decide_false, undef, beq_self_eq_true, bne_self_eq_false, Bool.and_true, Bool.true_and, Bool.and_false, Bool.false_and, Bool.or_true, Bool.true_or, Bool.or_false, Bool.false_or, undef]
    refine ACallL.quiet1 h27 rfl rfl rfl ?_
    simp only [go_sem, Nat.reduceEqDiff, Nat.reduceAdd, Nat.reduceSub, Nat.reduceMul, Nat.reduceLT, Nat.reduceLeDiff, Nat.reduceMod, Nat.reduceDiv, Int.reduceToNat, Int.reduceLT, Int.reduceLE, Bool.not_true, Bool.not_false, reduceIte, Int.reduceEq, Int.reduceBEq, Int.reduceBNe, Int.reduceGT, Int.reduceGE, Int.reduceNeg, Int.reduceAdd, Int.reduceSub, Nat.reduceBEq, decide_true, decide_false, undef, beq_self_eq_true, bne_self_eq_false, Bool.and_true, Bool.true_and, Bool.and_false, Bool.false_and, Bool.or_true, Bool.true_or, Bool.or_false, Bool.false_or, undef]
    refine ACallL.quiet1 h19 rfl rfl rfl ?_
    simp only [go_sem, Nat.reduceEqDiff, Nat.reduceAdd, Nat.reduceSub, Nat.reduceMul, Nat.reduceLT, Nat.reduceLeDiff, Nat.reduceMod, Nat.reduceDiv, Int.reduceToNat, Int.reduceLT, Int.reduceLE, Bool.not_true, Bool.not_false, reduceIte, Int.reduceEq, Int.reduceBEq, Int.reduceBNe, Int.reduceGT, Int.reduceGE, Int.reduceNeg, Int.reduceAdd, Int.reduceSub, Nat.reduceBEq, decide_true, decide_false, undef, beq_self_eq_true, bne_self_eq_false, Bool.and_true, Bool.true_and, Bool.and_false, Bool.false_and, Bool.or_true, Bool.true_or, Bool.or_false, Bool.false_or, undef, g1, g2, g3, List.length_map, n0, t1, w0]
    refine ACallL.quiet1 m1 rfl rfl rfl ?_
    simp only [go_sem, Nat.reduceEqDiff, Nat.reduceAdd, Nat.reduceSub, Nat.reduceMul, Nat.reduceLT, Nat.reduceLeDiff, Nat.reduceMod, Nat.reduceDiv, Int.reduceToNat, Int.reduceLT, Int.reduceLE, Bool.not_true, Bool.not_false, reduceIte, Int.reduceEq, Int.reduceBEq, Int.reduceBNe, Int.reduceGT, Int.reduceGE, Int.reduceNeg, Int.reduceAdd, Int.reduceSub, Nat.reduceBEq, decide_true, decide_false, undef, beq_self_eq_true, bne_self_eq_false, Bool.and_true, Bool.true_and, Bool.and_false, Bool.false_and, Bool.or_true, Bool.true_or, Bool.or_false, Bool.false_or, undef, List.length_map]
    refine ACallL.quiet1 m2 rfl rfl rfl ?_
    cases hA : decide ((lk : Int) > (lf : Int))
    · have hB : ((lk : Int) == (lf : Int)) = true := by simp at hA ⊢; omega
      have hC : decide (((u % f.hs.length : Nat) : Int) ≥ b) = true := by simp at hA ⊢; omega
      simp only [go_sem, Nat.reduceEqDiff, Nat.reduceAdd, Nat.reduceSub, Nat.reduceMul, Nat.reduceLT, Nat.reduceLeDiff, Nat.reduceMod, Nat.reduceDiv, Int.reduceToNat, Int.reduceLT, Int.reduceLE, Bool.not_true, Bool.not_false, reduceIte, Int.reduceEq, Int.reduceBEq, Int.reduceBNe, Int.reduceGT, Int.reduceGE, Int.reduceNeg, Int.reduceAdd, Int.reduceSub, Nat.reduceBEq, decide_true, decide_false, undef, beq_self_eq_true, bne_self_eq_false, Bool.and_true, Bool.true_and, Bool.and_false, Bool.false_and, Bool.or_true, Bool.true_or, Bool.or_false, Bool.false_or, undef, hA, hB, hC]
      refine ACallL.quiet1 awake_ok rfl rfl rfl ?_
      simp only [go_sem, Nat.reduceEqDiff, Nat.reduceAdd, Nat.reduceSub, Nat.reduceMul, Nat.reduceLT, Nat.reduceLeDiff, Nat.reduceMod, Nat.reduceDiv, Int.reduceToNat, Int.reduceLT, Int.reduceLE, Bool.not_true, Bool.not_false, reduceIte, Int.reduceEq, Int.reduceBEq, Int.reduceBNe, Int.reduceGT, Int.reduceGE, Int.reduceNeg, Int.reduceAdd, Int.reduceSub, Nat.reduceBEq, decide_true, decide_false, undef, beq_self_eq_true, bne_self_eq_false, Bool.and_true, Bool.true_and, Bool.and_false, Bool.false_and, Bool.or_true, Bool.true_or, Bool.or_false, Bool.false_or, undef]
      exact finL_ret [] ⟨rfl, rfl, rfl, rfl, _, rfl, res_mk rfl⟩
    · simp only [go_sem, Nat.reduceEqDiff, Nat.reduceAdd, Nat.reduceSub, Nat.reduceMul, Nat.reduceLT, Nat.reduceLeDiff, Nat.reduceMod, Nat.reduceDiv, Int.reduceToNat, Int.reduceLT, Int.reduceLE, Bool.not_true, Bool.not_false, reduceIte, Int.reduceEq, Int.reduceBEq, Int.reduceBNe, Int.reduceGT, Int.reduceGE, Int.reduceNeg, Int.reduceAdd, Int.reduceSub, Nat.reduceBEq, decide_true, decide_false, undef, beq_self_eq_true, bne_self_eq_false, Bool.and_true, Bool.true_and, Bool.and_false, Bool.false_and, Bool.or_true, Bool.true_or, Bool.or_false, Bool.false_or, undef, hA]
      refine ACallL.quiet1 awake_ok rfl rfl rfl ?_
      simp only [go_sem, Nat.reduceEqDiff, Nat.reduceAdd, Nat.reduceSub, Nat.reduceMul, Nat.reduceLT, Nat.reduceLeDiff, Nat.reduceMod, Nat.reduceDiv, Int.reduceToNat, Int.reduceLT, Int.reduceLE, Bool.not_true, Bool.not_false, reduceIte, Int.reduceEq, Int.reduceBEq, Int.reduceBNe, Int.reduceGT, Int.reduceGE, Int.reduceNeg, Int.reduceAdd, Int.reduceSub, Nat.reduceBEq, decide_true, decide_false, undef, beq_self_eq_true, bne_self_eq_false, Bool.and_true, Bool.true_and, Bool.and_false, Bool.false_and, Bool.or_true, Bool.true_or, Bool.or_false, Bool.false_or, undef]
      exact finL_ret [] ⟨rfl, rfl, rfl, rfl, _, rfl, res_mk rfl⟩
  · simp only [go_sem, Nat.reduceEqDiff, Nat.reduceAdd, Nat.reduceSub, Nat.reduceMul, Nat.reduceLT, Nat.reduceLeDiff, Nat.reduceMod, Nat.reduceDiv, Int.reduceToNat, Int.reduceLT, Int.reduceLE, Bool.not_true, Bool.not_false, reduceIte, Int.reduceEq, Int.reduceBEq, Int.reduceBNe, Int.reduceGT, Int.reduceGE, Int.reduceNeg, Int.reduceAdd, Int.reduceSub, Nat.reduceBEq, decide_true, decide_false, undef, beq_self_eq_true, bne_self_eq_false, Bool.and_true, Bool.true_and, Bool.and_false, Bool.false_and, Bool.or_true, Bool.true_or, Bool.or_false, Bool.false_or, undef]
    cases hT : noT f
    · have hl1 : (truths f).length = 1 := by
        have := noT_ne hT
        cases ht : truths f with
        | nil => exact absurd ht this
        | cons x r => rw [ht] at h1; simp at h1; simp [h1]
      have e2 : specAsk f = (0, 0, 11) := by simp only [specAsk, hok, hT, if_neg h1]; rfl
      rw [e2] at h27
      rw [hl1] at h19
      simp only [twoE] at h27
      refine ACallL.quiet1 h27 rfl rfl rfl ?_
      simp only [go_sem, Nat.reduceEqDiff, Nat.reduceAdd, Nat.reduceSub, Nat.reduceMul, Nat.reduceLT, Nat.reduceLeDiff, Nat.reduceMod, Nat.reduceDiv, Int.reduceToNat, Int.reduceLT, Int.reduceLE, Bool.not_true, Bool.not_false, reduceIte, Int.reduceEq, Int.reduceBEq, Int.reduceBNe, Int.reduceGT, Int.reduceGE, Int.reduceNeg, Int.reduceAdd, Int.reduceSub, Nat.reduceBEq, decide_true, decide_false, undef, beq_self_eq_true, bne_self_eq_false, Bool.and_true, Bool.true_and, Bool.and_false, Bool.false_and, Bool.or_true, Bool.true_or, Bool.or_false, Bool.false_or, undef]
      refine ACallL.quiet1 h19 rfl rfl rfl ?_
      simp only [go_sem, Nat.reduceEqDiff, Nat.reduceAdd, Nat.reduceSub, Nat.reduceMul, Nat.reduceLT, Nat.reduceLeDiff, Nat.reduceMod, Nat.reduceDiv, Int.reduceToNat, Int.reduceLT, Int.reduceLE, Bool.not_true, Bool.not_false, reduceIte, Int.reduceEq, Int.reduceBEq, Int.reduceBNe, Int.reduceGT, Int.reduceGE, Int.reduceNeg, Int.reduceAdd, Int.reduceSub, Nat.reduceBEq, decide_true, decide_false, undef, beq_self_eq_true, bne_self_eq_false, Bool.and_true, Bool.true_and, Bool.and_false, Bool.false_and, Bool.or_true, Bool.true_or, Bool.or_false, Bool.false_or, undef, Int.natCast_one]
      refine ACallL.quiet1 awake_ok rfl rfl rfl ?_
      simp only [go_sem, Nat.reduceEqDiff, Nat.reduceAdd, Nat.reduceSub, Nat.reduceMul, Nat.reduceLT, Nat.reduceLeDiff, Nat.reduceMod, Nat.reduceDiv, Int.reduceToNat, Int.reduceLT, Int.reduceLE, Bool.not_true, Bool.not_false, reduceIte, Int.reduceEq, Int.reduceBEq, Int.reduceBNe, Int.reduceGT, Int.reduceGE, Int.reduceNeg, Int.reduceAdd, Int.reduceSub, Nat.reduceBEq, decide_true, decide_false, undef, beq_self_eq_true, bne_self_eq_false, Bool.and_true, Bool.true_and, Bool.and_false, Bool.false_and, Bool.or_true, Bool.true_or, Bool.or_false, Bool.false_or, undef]
      exact finL_ret [] ⟨rfl, rfl, rfl, rfl, _, rfl, res_mk rfl⟩
    · have hl0 : (truths f).length = 0 := by rw [noT_nil hT]; rfl
      have e2 : specAsk f = (0, 0, 10) := by simp only [specAsk, hok, hT]; rfl
      rw [e2] at h27
      rw [hl0] at h19
      simp only [twoE] at h27
      refine ACallL.quiet1 h27 rfl rfl rfl ?_
      simp only [go_sem, Nat.reduceEqDiff, Nat.reduceAdd, Nat.reduceSub, Nat.reduceMul, Nat.reduceLT, Nat.reduceLeDiff, Nat.reduceMod, Nat.reduceDiv, Int.reduceToNat, Int.reduceLT, Int.reduceLE, Bool.not_true, Bool.not_false, reduceIte, Int.reduceEq, Int.reduceBEq, Int.reduceBNe, Int.reduceGT, Int.reduceGE, Int.reduceNeg, Int.reduceAdd, Int.reduceSub, Nat.reduceBEq, decide_true, decide_false, undef, beq_self_eq_true, bne_self_eq_false, Bool.and_true, Bool.true_and, Bool.and_false, Bool.false_and, Bool.or_true, Bool.true_or, Bool.or_false, Bool.false_or, undef]
      refine ACallL.quiet1 h19 rfl rfl rfl ?_
      simp only [go_sem, Nat.reduceEqDiff, Nat.reduceAdd, Nat.reduceSub, Nat.reduceMul, Nat.reduceLT, Nat.reduceLeDiff, Nat.reduceMod, Nat.reduceDiv, Int.reduceToNat, Int.reduceLT, Int.reduceLE, Bool.not_true, Bool.not_false, reduceIte, Int.reduceEq, Int.reduceBEq, Int.reduceBNe, Int.reduceGT, Int.reduceGE, Int.reduceNeg, Int.reduceAdd, Int.reduceSub, Nat.reduceBEq, decide_true, decide_false, undef, beq_self_eq_true, bne_self_eq_false, Bool.and_true, Bool.true_and, Bool.and_false, Bool.false_and, Bool.or_true, Bool.true_or, Bool.or_false, Bool.false_or, undef, Int.natCast_zero]
      refine ACallL.quiet1 awake_ok rfl rfl rfl ?_
      simp only [go_sem, Nat.reduceEqDiff, Nat.reduceAdd, Nat.reduceSub, Nat.reduceMul, Nat.reduceLT, Nat.reduceLeDiff, Nat.reduceMod, Nat.reduceDiv, Int.reduceToNat, Int.reduceLT, Int.reduceLE, Bool.not_true, Bool.not_false, reduceIte, Int.reduceEq, Int.reduceBEq, Int.reduceBNe, Int.reduceGT, Int.reduceGE, Int.reduceNeg, Int.reduceAdd, Int.reduceSub, Nat.reduceBEq, decide_true, decide_false, undef, beq_self_eq_true, bne_self_eq_false, Bool.and_true, Bool.true_and, Bool.and_false, Bool.false_and, Bool.or_true, Bool.true_or, Bool.or_false, Bool.false_or, undef]
      exact finL_ret [] ⟨rfl, rfl, rfl, rfl, _, rfl, res_mk rfl⟩
end Go.Proofs.YtkbjodmpmmnhgaaDoor
