/- Proved here: laws that the statements need (RtC2, RtR1, RtR2, RtR3, RtR4, RtR5, RtR6, RtR7, RtR8, RtS1, RtS2). No conditions but those that each law states. -/
import Derived.Test.YtcpkkjbkbdmopaaFL
import Derived.Test.YtcpkkjbkbdmopaaProg
import Derived.Test.YtcpkkjbkbdmopaaDB
import Derived.Test.YtcpkkjbkbdmopaaFJ

set_option linter.unusedSimpArgs false
set_option linter.unusedVariables false

/- Compiled code of functions, printed by program; each is checked to be the program's. No conditions. -/
namespace Go.Proofs.Ytcpkkjbkbdmopaa
open Go Go.Ab
/-- dipworks/dipworksref06.Towels -/
def c19 : AC :=
 .seq (.reg [⟨(some 1), none, .box (.tmp 0)⟩,
 ⟨(some 2), none, .mov (.lit (.bool false))⟩])
 (.seq (.seq (.reg [⟨(some 8), none, .faddr 1 (.tmp 1)⟩,
 ⟨(some 9), none, .load false 1 (.tmp 8)⟩,
 ⟨(some 10), none, .len (.tmp 9)⟩,
 ⟨(some 11), none, .bin .gtr (.tmp 10) (.lit (.int .i64 3))⟩,
 ⟨(some 12), none, .mov (.tmp 11)⟩,
 ⟨(some 13), (some (12, false)), .faddr 2 (.tmp 1)⟩,
 ⟨(some 14), (some (12, false)), .load false 1 (.tmp 13)⟩,
 ⟨(some 15), (some (12, false)), .len (.tmp 14)⟩,
 ⟨(some 16), (some (12, false)), .bin .gtr (.tmp 15) (.lit (.int .i64 3))⟩,
 ⟨(some 17), none, .pick (.tmp 12) (.lit (.bool true)) (.tmp 16)⟩,
 ⟨(some 18), none, .mov (.tmp 17)⟩,
 ⟨(some 19), (some (18, false)), .faddr 0 (.tmp 1)⟩,
 ⟨(some 20), (some (18, false)), .load false 1 (.tmp 19)⟩,
 ⟨(some 21), (some (18, false)), .len (.tmp 20)⟩,
 ⟨(some 22), (some (18, false)), .bin .gtr (.tmp 21) (.lit (.int .i64 6))⟩,
 ⟨(some 23), none, .pick (.tmp 18) (.lit (.bool true)) (.tmp 22)⟩])
 (.cond (.tmp 23) (.seq (.reg [⟨(some 2), none, .mov (.lit (.bool false))⟩])
 (.ret))
 (.skip)))
 (.seq (.seq (.reg [⟨(some 3), none, .mov (.lit (.int .i64 0))⟩])
 (.block 0 (.loop (.seq (.seq (.reg [⟨(some 24), none, .mov (.tmp 3)⟩,
 ⟨(some 25), none, .faddr 1 (.tmp 1)⟩,
 ⟨(some 26), none, .load false 1 (.tmp 25)⟩,
 ⟨(some 27), none, .len (.tmp 26)⟩,
 ⟨(some 28), none, .bin .lss (.tmp 24) (.tmp 27)⟩])
 (.cond (.tmp 28) (.skip)
 (.exit 0)))
 (.seq (.block 1 (.seq (.reg [⟨(some 31), none, .faddr 1 (.tmp 1)⟩,
 ⟨(some 32), none, .load false 1 (.tmp 31)⟩,
 ⟨(some 33), none, .mov (.tmp 3)⟩,
 ⟨(some 34), none, .iaddr 2 (.tmp 32) (.tmp 33)⟩,
 ⟨(some 35), none, .load true 2 (.tmp 34)⟩,
 ⟨(some 36), none, .call (.fn 63) [(.tmp 35), (.lit (.int .i64 24))]⟩,
 ⟨(some 37), none, .un .not (.tmp 36)⟩])
 (.cond (.tmp 37) (.seq (.reg [⟨(some 2), none, .mov (.lit (.bool false))⟩])
 (.ret))
 (.skip))))
 (.reg [⟨(some 29), none, .mov (.tmp 3)⟩,
 ⟨(some 30), none, .bin .add (.tmp 29) (.lit (.int .i64 1))⟩,
 ⟨(some 3), none, .mov (.tmp 30)⟩]))))))
 (.seq (.seq (.reg [⟨(some 4), none, .mov (.lit (.int .i64 0))⟩])
 (.block 2 (.loop (.seq (.seq (.reg [⟨(some 38), none, .mov (.tmp 4)⟩,
 ⟨(some 39), none, .faddr 2 (.tmp 1)⟩,
 ⟨(some 40), none, .load false 1 (.tmp 39)⟩,
 ⟨(some 41), none, .len (.tmp 40)⟩,
 ⟨(some 42), none, .bin .lss (.tmp 38) (.tmp 41)⟩])
 (.cond (.tmp 42) (.skip)
 (.exit 2)))
 (.seq (.block 3 (.seq (.reg [⟨(some 45), none, .faddr 2 (.tmp 1)⟩,
 ⟨(some 46), none, .load false 1 (.tmp 45)⟩,
 ⟨(some 47), none, .mov (.tmp 4)⟩,
 ⟨(some 48), none, .iaddr 2 (.tmp 46) (.tmp 47)⟩,
 ⟨(some 49), none, .load true 2 (.tmp 48)⟩,
 ⟨(some 50), none, .call (.fn 63) [(.tmp 49), (.lit (.int .i64 24))]⟩,
 ⟨(some 51), none, .un .not (.tmp 50)⟩])
 (.cond (.tmp 51) (.seq (.reg [⟨(some 2), none, .mov (.lit (.bool false))⟩])
 (.ret))
 (.skip))))
 (.reg [⟨(some 43), none, .mov (.tmp 4)⟩,
 ⟨(some 44), none, .bin .add (.tmp 43) (.lit (.int .i64 1))⟩,
 ⟨(some 4), none, .mov (.tmp 44)⟩]))))))
 (.seq (.seq (.reg [⟨(some 5), none, .mov (.lit (.int .i64 0))⟩])
 (.block 4 (.loop (.seq (.seq (.reg [⟨(some 52), none, .mov (.tmp 5)⟩,
 ⟨(some 53), none, .faddr 0 (.tmp 1)⟩,
 ⟨(some 54), none, .load false 1 (.tmp 53)⟩,
 ⟨(some 55), none, .len (.tmp 54)⟩,
 ⟨(some 56), none, .bin .lss (.tmp 52) (.tmp 55)⟩])
 (.cond (.tmp 56) (.skip)
 (.exit 4)))
 (.seq (.block 5 (.seq (.reg [⟨(some 59), none, .faddr 0 (.tmp 1)⟩,
 ⟨(some 60), none, .load false 1 (.tmp 59)⟩,
 ⟨(some 61), none, .mov (.tmp 5)⟩,
 ⟨(some 62), none, .iaddr 6 (.tmp 60) (.tmp 61)⟩,
 ⟨(some 63), none, .load true 6 (.tmp 62)⟩,
 ⟨(some 6), none, .alloc [(.int .i64 0), (.int .i64 0), (.int .i64 0), (.int .i64 0), (.int .i64 0), (.int .i64 0)]⟩,
 ⟨none, none, .store 6 (.tmp 6) (.tmp 63)⟩])
 (.seq (.seq (.reg [⟨(some 64), none, .faddr 0 (.tmp 6)⟩,
 ⟨(some 65), none, .load false 1 (.tmp 64)⟩,
 ⟨(some 66), none, .faddr 1 (.tmp 1)⟩,
 ⟨(some 67), none, .load false 1 (.tmp 66)⟩,
 ⟨(some 68), none, .len (.tmp 67)⟩,
 ⟨(some 69), none, .bin .sub (.tmp 68) (.lit (.int .i64 1))⟩,
 ⟨(some 70), none, .call (.fn 64) [(.tmp 65), (.lit (.int .i64 0)), (.tmp 69)]⟩,
 ⟨(some 71), none, .un .not (.tmp 70)⟩,
 ⟨(some 72), none, .mov (.tmp 71)⟩,
 ⟨(some 73), (some (72, false)), .faddr 1 (.tmp 6)⟩,
 ⟨(some 74), (some (72, false)), .load false 1 (.tmp 73)⟩,
 ⟨(some 75), (some (72, false)), .faddr 2 (.tmp 1)⟩,
 ⟨(some 76), (some (72, false)), .load false 1 (.tmp 75)⟩,
 ⟨(some 77), (some (72, false)), .len (.tmp 76)⟩,
 ⟨(some 78), (some (72, false)), .bin .sub (.tmp 77) (.lit (.int .i64 1))⟩,
 ⟨(some 79), (some (72, false)), .call (.fn 64) [(.tmp 74), (.lit (.int .i64 0)), (.tmp 78)]⟩,
 ⟨(some 80), (some (72, false)), .un .not (.tmp 79)⟩,
 ⟨(some 81), none, .pick (.tmp 72) (.lit (.bool true)) (.tmp 80)⟩,
 ⟨(some 82), none, .mov (.tmp 81)⟩,
 ⟨(some 83), (some (82, false)), .faddr 2 (.tmp 6)⟩,
 ⟨(some 84), (some (82, false)), .load true 2 (.tmp 83)⟩,
 ⟨(some 85), (some (82, false)), .call (.fn 63) [(.tmp 84), (.lit (.int .i64 4))]⟩,
 ⟨(some 86), (some (82, false)), .un .not (.tmp 85)⟩,
 ⟨(some 87), none, .pick (.tmp 82) (.lit (.bool true)) (.tmp 86)⟩,
 ⟨(some 88), none, .mov (.tmp 87)⟩,
 ⟨(some 89), (some (88, false)), .faddr 4 (.tmp 6)⟩,
 ⟨(some 90), (some (88, false)), .load true 2 (.tmp 89)⟩,
 ⟨(some 91), (some (88, false)), .call (.fn 63) [(.tmp 90), (.lit (.int .i64 4))]⟩,
 ⟨(some 92), (some (88, false)), .un .not (.tmp 91)⟩,
 ⟨(some 93), none, .pick (.tmp 88) (.lit (.bool true)) (.tmp 92)⟩,
 ⟨(some 94), none, .mov (.tmp 93)⟩,
 ⟨(some 95), (some (94, false)), .faddr 4 (.tmp 6)⟩,
 ⟨(some 96), (some (94, false)), .faddr 0 (.tmp 95)⟩,
 ⟨(some 97), (some (94, false)), .load false 1 (.tmp 96)⟩,
 ⟨(some 98), (some (94, false)), .faddr 2 (.tmp 6)⟩,
 ⟨(some 99), (some (94, false)), .faddr 1 (.tmp 98)⟩,
 ⟨(some 100), (some (94, false)), .load false 1 (.tmp 99)⟩,
 ⟨(some 101), (some (94, false)), .bin .gtr (.tmp 97) (.tmp 100)⟩,
 ⟨(some 102), none, .pick (.tmp 94) (.lit (.bool true)) (.tmp 101)⟩])
 (.cond (.tmp 102) (.seq (.reg [⟨(some 2), none, .mov (.lit (.bool false))⟩])
 (.ret))
 (.skip)))
 (.seq (.reg [⟨(some 7), none, .mov (.lit (.int .i64 0))⟩])
 (.block 6 (.loop (.seq (.seq (.reg [⟨(some 103), none, .mov (.tmp 7)⟩,
 ⟨(some 104), none, .mov (.tmp 5)⟩,
 ⟨(some 105), none, .bin .lss (.tmp 103) (.tmp 104)⟩])
 (.cond (.tmp 105) (.skip)
 (.exit 6)))
 (.seq (.block 7 (.seq (.draw (.step ⟨(some 108), none, .faddr 0 (.tmp 1)⟩ (
 .step ⟨(some 109), none, .load false 1 (.tmp 108)⟩ (
 .step ⟨(some 110), none, .mov (.tmp 7)⟩ (
 .step ⟨(some 111), none, .iaddr 6 (.tmp 109) (.tmp 110)⟩ (
 .step ⟨(some 112), none, .faddr 0 (.tmp 111)⟩ (
 .step ⟨(some 113), none, .load false 1 (.tmp 112)⟩ (
 .step ⟨(some 114), none, .faddr 0 (.tmp 6)⟩ (
 .step ⟨(some 115), none, .load false 1 (.tmp 114)⟩ (
 .step ⟨(some 116), none, .bin .eql (.tmp 113) (.tmp 115)⟩ (
 .step ⟨(some 117), none, .mov (.tmp 116)⟩ (
 .step ⟨(some 118), (some (117, true)), .faddr 0 (.tmp 1)⟩ (
 .step ⟨(some 119), (some (117, true)), .load false 1 (.tmp 118)⟩ (
 .step ⟨(some 120), (some (117, true)), .mov (.tmp 7)⟩ (
 .step ⟨(some 121), (some (117, true)), .iaddr 6 (.tmp 119) (.tmp 120)⟩ (
 .step ⟨(some 122), (some (117, true)), .faddr 1 (.tmp 121)⟩ (
 .step ⟨(some 123), (some (117, true)), .load false 1 (.tmp 122)⟩ (
 .step ⟨(some 124), (some (117, true)), .faddr 1 (.tmp 6)⟩ (
 .step ⟨(some 125), (some (117, true)), .load false 1 (.tmp 124)⟩ (
 .step ⟨(some 126), (some (117, true)), .bin .eql (.tmp 123) (.tmp 125)⟩ (
 .step ⟨(some 127), none, .pick (.tmp 117) (.tmp 126) (.lit (.bool false))⟩ (
 .done))))))))))))))))))))))
 (.cond (.tmp 127) (.seq (.reg [⟨(some 2), none, .mov (.lit (.bool false))⟩])
 (.ret))
 (.skip))))
 (.reg [⟨(some 106), none, .mov (.tmp 7)⟩,
 ⟨(some 107), none, .bin .add (.tmp 106) (.lit (.int .i64 1))⟩,
 ⟨(some 7), none, .mov (.tmp 107)⟩])))))))))
 (.reg [⟨(some 57), none, .mov (.tmp 5)⟩,
 ⟨(some 58), none, .bin .add (.tmp 57) (.lit (.int .i64 1))⟩,
 ⟨(some 5), none, .mov (.tmp 58)⟩]))))))
 (.seq (.reg [⟨(some 2), none, .mov (.lit (.bool true))⟩])
 (.ret))))))
theorem k19 : FnC Try.prog 19 128 [] [] [.tmp 2] c19 1 := ⟨Try.f19, _, Try.func19, rfl, by decide, rfl, by decide, by kernel_rfl, by kernel_rfl⟩
/-- dipworks/dipworksref06.Words -/
def c72 : AC :=
 .seq (.reg [⟨(some 1), none, .box (.tmp 0)⟩,
 ⟨(some 2), none, .alloc [(.int .i64 0), (.int .i64 0)]⟩])
 (.seq (.reg [⟨(some 3), none, .faddr 2 (.tmp 1)⟩,
 ⟨(some 4), none, .faddr 0 (.tmp 3)⟩,
 ⟨(some 5), none, .load false 1 (.tmp 4)⟩,
 ⟨(some 6), none, .faddr 4 (.tmp 1)⟩,
 ⟨(some 7), none, .faddr 1 (.tmp 6)⟩,
 ⟨(some 8), none, .load false 1 (.tmp 7)⟩,
 ⟨(some 9), none, .bin .sub (.tmp 5) (.tmp 8)⟩,
 ⟨(some 10), none, .mxmn true (.lit (.int .i64 0)) [(.tmp 9)]⟩,
 ⟨(some 11), none, .faddr 2 (.tmp 1)⟩,
 ⟨(some 12), none, .faddr 1 (.tmp 11)⟩,
 ⟨(some 13), none, .load false 1 (.tmp 12)⟩,
 ⟨(some 14), none, .faddr 4 (.tmp 1)⟩,
 ⟨(some 15), none, .faddr 0 (.tmp 14)⟩,
 ⟨(some 16), none, .load false 1 (.tmp 15)⟩,
 ⟨(some 17), none, .bin .sub (.tmp 13) (.tmp 16)⟩,
 ⟨(some 18), none, .build [(.int .i64 0), (.int .i64 0)] [(0, 1, (.tmp 10)), (1, 1, (.tmp 17))]⟩,
 ⟨none, none, .store 2 (.tmp 2) (.tmp 18)⟩])
 (.ret))
theorem k72 : FnC Try.prog 72 19 [2] [] [.cell 2 true 2] c72 1 := ⟨Try.f72, _, Try.func72, rfl, by decide, rfl, by decide, by kernel_rfl, by kernel_rfl⟩
/-- dipworks/dipworksref06.span -/
def c63 : AC :=
 .seq (.reg [⟨(some 2), none, .box (.tmp 0)⟩,
 ⟨(some 4), none, .mov (.lit (.bool false))⟩])
 (.seq (.reg [⟨(some 5), none, .faddr 0 (.tmp 2)⟩,
 ⟨(some 6), none, .load false 1 (.tmp 5)⟩,
 ⟨(some 7), none, .bin .leq (.lit (.int .i64 0)) (.tmp 6)⟩,
 ⟨(some 8), none, .mov (.tmp 7)⟩,
 ⟨(some 9), (some (8, true)), .faddr 0 (.tmp 2)⟩,
 ⟨(some 10), (some (8, true)), .load false 1 (.tmp 9)⟩,
 ⟨(some 11), (some (8, true)), .faddr 1 (.tmp 2)⟩,
 ⟨(some 12), (some (8, true)), .load false 1 (.tmp 11)⟩,
 ⟨(some 13), (some (8, true)), .bin .leq (.tmp 10) (.tmp 12)⟩,
 ⟨(some 14), none, .pick (.tmp 8) (.tmp 13) (.lit (.bool false))⟩,
 ⟨(some 15), none, .mov (.tmp 14)⟩,
 ⟨(some 16), (some (15, true)), .faddr 1 (.tmp 2)⟩,
 ⟨(some 17), (some (15, true)), .load false 1 (.tmp 16)⟩,
 ⟨(some 18), (some (15, true)), .mov (.tmp 1)⟩,
 ⟨(some 19), (some (15, true)), .bin .leq (.tmp 17) (.tmp 18)⟩,
 ⟨(some 20), none, .pick (.tmp 15) (.tmp 19) (.lit (.bool false))⟩,
 ⟨(some 4), none, .mov (.tmp 20)⟩])
 (.ret))
theorem k63 : FnC Try.prog 63 21 [] [] [.tmp 4] c63 2 := ⟨Try.f63, _, Try.func63, rfl, by decide, rfl, by decide, by kernel_rfl, by kernel_rfl⟩
/-- dipworks/dipworksref06.in -/
def c64 : AC :=
 .seq (.reg [⟨(some 6), none, .mov (.lit (.bool false))⟩])
 (.seq (.reg [⟨(some 7), none, .mov (.tmp 1)⟩,
 ⟨(some 8), none, .mov (.tmp 0)⟩,
 ⟨(some 9), none, .bin .leq (.tmp 7) (.tmp 8)⟩,
 ⟨(some 10), none, .mov (.tmp 9)⟩,
 ⟨(some 11), (some (10, true)), .mov (.tmp 0)⟩,
 ⟨(some 12), (some (10, true)), .mov (.tmp 2)⟩,
 ⟨(some 13), (some (10, true)), .bin .leq (.tmp 11) (.tmp 12)⟩,
 ⟨(some 14), none, .pick (.tmp 10) (.tmp 13) (.lit (.bool false))⟩,
 ⟨(some 6), none, .mov (.tmp 14)⟩])
 (.ret))
theorem k64 : FnC Try.prog 64 15 [] [] [.tmp 6] c64 3 := ⟨Try.f64, _, Try.func64, rfl, by decide, rfl, by decide, by kernel_rfl, by kernel_rfl⟩
end Go.Proofs.Ytcpkkjbkbdmopaa

/- The document's towels: the small functions. -/
namespace Go.Proofs.Ytcpkkjbkbdmopaa
open Go Go.Ab

theorem rin_ok (n lo hi : Int) : ACall Try.prog 64 [.t (vi n), .t (vi lo), .t (vi hi)] [] (ret (vb (wI n lo hi))) := by
  refine ACall.walk k64 ?_
  unfold c64
  simp only [go_sem, Nat.reduceEqDiff, Nat.reduceAdd, Nat.reduceSub, Nat.reduceMul, Nat.reduceLT, Nat.reduceLeDiff, Nat.reduceMod, Nat.reduceDiv, Int.reduceToNat, Int.reduceLT, Int.reduceLE, Bool.not_true, Bool.not_false, reduceIte]
  refine BrL.mk (fun h => ?_) (fun h => ?_)
  all_goals simp only [h, go_sem, Nat.reduceEqDiff, Nat.reduceAdd, Nat.reduceSub, Nat.reduceMul, Nat.reduceLT, Nat.reduceLeDiff, Nat.reduceMod, Nat.reduceDiv, Int.reduceToNat, Int.reduceLT, Int.reduceLE, Bool.not_true, Bool.not_false, reduceIte]
  all_goals refine finL_ret [] ⟨rfl, rfl, rfl, rfl, _, rfl, ret_mk ?_⟩
  all_goals simp at h
  all_goals simp [wI, h]
  omega

theorem rspan_ok (s : Int × Int) (n : Int) : ACall Try.prog 63 [.t (tS s), .t (vi n)] [] (ret (vb (okS s n))) := by
  refine ACall.walk k63 ?_
  unfold c63 tS
  simp only [go_sem, Nat.reduceEqDiff, Nat.reduceAdd, Nat.reduceSub, Nat.reduceMul, Nat.reduceLT, Nat.reduceLeDiff, Nat.reduceMod, Nat.reduceDiv, Int.reduceToNat, Int.reduceLT, Int.reduceLE, Bool.not_true, Bool.not_false, reduceIte]
  refine BrL.mk (fun h => ?_) (fun h => ?_)
  all_goals simp only [h, go_sem, Nat.reduceEqDiff, Nat.reduceAdd, Nat.reduceSub, Nat.reduceMul, Nat.reduceLT, Nat.reduceLeDiff, Nat.reduceMod, Nat.reduceDiv, Int.reduceToNat, Int.reduceLT, Int.reduceLE, Bool.not_true, Bool.not_false, reduceIte]
  · refine BrL.mk (fun h' => ?_) (fun h' => ?_)
    all_goals simp only [h', go_sem, Nat.reduceEqDiff, Nat.reduceAdd, Nat.reduceSub, Nat.reduceMul, Nat.reduceLT, Nat.reduceLeDiff, Nat.reduceMod, Nat.reduceDiv, Int.reduceToNat, Int.reduceLT, Int.reduceLE, Bool.not_true, Bool.not_false, reduceIte]
    all_goals refine finL_ret [] ⟨rfl, rfl, rfl, rfl, _, rfl, ret_mk ?_⟩
    all_goals simp at h h'
    all_goals simp [okS, h, h']
    omega
  · refine finL_ret [] ⟨rfl, rfl, rfl, rfl, _, rfl, ret_mk ?_⟩
    simp at h
    simp [okS]
    omega

theorem rwords_ok (t : Tw) (ht : t.OK) (b : B) (hb : b ∈ t.bs) : ACall Try.prog 72 [.t (tB b)] [] (ret (tS (words b))) := by
  refine ACall.walk k72 ?_
  unfold c72 tB
  have hq := ht.bs b hb
  have e1 : IntKind.i64.wrap (b.ll - b.bh) = b.ll - b.bh := wrap_id (by omega) (by omega)
  have e2 : IntKind.i64.wrap (b.lh - b.bl) = b.lh - b.bl := wrap_id (by omega) (by omega)
  simp only [go_sem, Nat.reduceEqDiff, Nat.reduceAdd, Nat.reduceSub, Nat.reduceMul, Nat.reduceLT, Nat.reduceLeDiff, Nat.reduceMod, Nat.reduceDiv, Int.reduceToNat, Int.reduceLT, Int.reduceLE, Bool.not_true, Bool.not_false, reduceIte, e1, e2]
  exact finL_ret [] ⟨rfl, rfl, rfl, rfl, _, rfl, res_mk rfl⟩

/-- Of whom a sum is taken. -/
def sumSel (p : B → Bool) (bs : List B) (l : List Int) : Int := ((bs.zip l).map fun x => if p x.1 then x.2 else 0).sum

theorem zip_take {α β : Type} : ∀ (a : List α) (b : List β) (k : Nat), a.zip (b.take k) = (a.zip b).take k
  | [], _, _ => by simp
  | _ :: _, [], _ => by simp
  | _ :: _, _ :: _, 0 => by simp
  | x :: a, y :: b, k + 1 => by simp [zip_take a b k]

theorem sumSel_take (p : B → Bool) (bs : List B) (l : List Int) (k : Nat) (b : B) (x : Int) (hb : bs[k]? = some b) (hx : l[k]? = some x) : sumSel p bs (l.take (k + 1)) = sumSel p bs (l.take k) + if p b then x else 0 := by
  unfold sumSel
  have h1 := zip_take bs l (k + 1)
  have h2 := zip_take bs l k
  have h3 : (bs.zip l)[k]? = some (b, x) := by rw [List.getElem?_zip_eq_some]; exact ⟨hb, hx⟩
  obtain ⟨hlt, e⟩ := List.getElem?_eq_some_iff.1 h3
  rw [h1, h2, List.take_succ_eq_append_getElem hlt, e, List.map_append, List.sum_append]
  simp

theorem sumSel_bound (p : B → Bool) (bs : List B) (l : List Int) (hr : ∀ x ∈ l, 0 ≤ x ∧ x ≤ 4) : 0 ≤ sumSel p bs l ∧ sumSel p bs l ≤ 4 * l.length := by
  unfold sumSel
  induction l generalizing bs with
  | nil => simp
  | cons x l ih =>
    cases bs with
    | nil => simp; omega
    | cons b bs =>
      have h1 := ih bs fun y hy => hr y (by simp [hy])
      have h2 := hr x (by simp)
      simp only [List.zip_cons_cons, List.map_cons, List.sum_cons, List.length_cons]
      split <;> omega

end Go.Proofs.Ytcpkkjbkbdmopaa

/- The document's towels: are counts right, are towels valid. -/
namespace Go.Proofs.Ytcpkkjbkbdmopaa
open Go Go.Ab

theorem brF {A B : Prop} : Br false A B = B := by simp [Br]
theorem brT {A B : Prop} : Br true A B = A := by simp [Br]
attribute [go_sem] brF brT

def rightH (t : Tw) (l : List Int) (a : Nat) (i : Nat) (s : Int × Int) : Bool := !(a.testBit i) || wI (sumSel (fun b => b.hut == (i : Int)) t.bs l) s.1 s.2
def rightV (t : Tw) (l : List Int) (a : Nat) (i : Nat) (s : Int × Int) : Bool := !(a.testBit i) || wI (sumSel (fun b => b.half == (i : Int)) t.bs l) s.1 s.2
def allIx (f : Nat → Int × Int → Bool) (l : List (Int × Int)) : Bool := l.zipIdx.all fun p => f p.2 p.1
def rightL (t : Tw) (l : List Int) (a b : Nat) : Bool := allIx (rightH t l a) t.hs && allIx (rightV t l b) t.vs

theorem allIx_succ (f : Nat → Int × Int → Bool) (l : List (Int × Int)) (k : Nat) (s : Int × Int) (hs : l[k]? = some s) : allIx f (l.take (k + 1)) = (allIx f (l.take k) && f k s) := by
  unfold allIx
  obtain ⟨hk, e⟩ := List.getElem?_eq_some_iff.1 hs
  have hlen : (l.take k).length = k := by simp; omega
  rw [List.take_succ_eq_append_getElem hk, List.zipIdx_append, List.all_append, hlen, e]
  simp

theorem allIx_false (f : Nat → Int × Int → Bool) (l : List (Int × Int)) (k : Nat) (s : Int × Int) (hs : l[k]? = some s) (hf : f k s = false) : allIx f l = false := by
  unfold allIx
  refine List.all_eq_false.2 ⟨(s, k), ?_, by simp [hf]⟩
  rw [List.mem_iff_getElem?]
  exact ⟨k, by simp [List.getElem?_zipIdx, hs]⟩

set_option maxRecDepth 8000 in
set_option maxHeartbeats 2000000 in
theorem rtowels_ok (t : Tw) : ACall Try.prog 19 [.t (.agg (tw3 t))] [] (ret (vb t.ok)) := by
  refine ACall.walk k19 ?_
  unfold c19 tw3
  have fail : ∀ {s : St}, t.ok = false → s.df = [] → s.k = 0 → lk s.env 2 = .t (vb false) → @finL 0 0 ⟨[.tmp 2]⟩ ⟨ret (vb t.ok)⟩ .ret s := fun h h1 h2 h3 =>
    finL_ret [] ⟨by rw [h1]; rfl, h2, rfl, rfl, .t (vb false), by simp only [resV, resEs, Lz_get, h3], res_mk (by rw [h]; rfl)⟩
  cases hA : decide ((t.hs.length : Int) > 3)
  rotate_left
  · simp only [go_sem, Nat.reduceEqDiff, Nat.reduceAdd, Nat.reduceSub, Nat.reduceMul, Nat.reduceLT, Nat.reduceLeDiff, Nat.reduceMod, Nat.reduceDiv, Int.reduceToNat, Int.reduceLT, Int.reduceLE, Bool.not_true, Bool.not_false, reduceIte, List.length_map, hA]
    exact fail (by simp [Tw.ok] at hA ⊢; omega) rfl rfl rfl
  cases hB : decide ((t.vs.length : Int) > 3)
  rotate_left
  · simp only [go_sem, Nat.reduceEqDiff, Nat.reduceAdd, Nat.reduceSub, Nat.reduceMul, Nat.reduceLT, Nat.reduceLeDiff, Nat.reduceMod, Nat.reduceDiv, Int.reduceToNat, Int.reduceLT, Int.reduceLE, Bool.not_true, Bool.not_false, reduceIte, List.length_map, hA, hB]
    exact fail (by simp [Tw.ok] at hB ⊢; omega) rfl rfl rfl
  cases hC : decide ((t.bs.length : Int) > 6)
  rotate_left
  · simp only [go_sem, Nat.reduceEqDiff, Nat.reduceAdd, Nat.reduceSub, Nat.reduceMul, Nat.reduceLT, Nat.reduceLeDiff, Nat.reduceMod, Nat.reduceDiv, Int.reduceToNat, Int.reduceLT, Int.reduceLE, Bool.not_true, Bool.not_false, reduceIte, List.length_map, hA, hB, hC]
    exact fail (by simp [Tw.ok] at hC ⊢; omega) rfl rfl rfl
  have hl : t.bs.length ≤ 6 ∧ t.hs.length ≤ 3 ∧ t.vs.length ≤ 3 := by simp at hA hB hC; omega
  simp only [go_sem, Nat.reduceEqDiff, Nat.reduceAdd, Nat.reduceSub, Nat.reduceMul, Nat.reduceLT, Nat.reduceLeDiff, Nat.reduceMod, Nat.reduceDiv, Int.reduceToNat, Int.reduceLT, Int.reduceLE, Bool.not_true, Bool.not_false, reduceIte, List.length_map, hA, hB, hC]
  clear hA hB hC
  -- huts
  refine awpL_loopK t.hs.length (fun k s => (t.hs.take k).all (okS · 24) = true ∧ s = { env := [(3, .t (vi k)), (1, .t (.ptr (.agg (tw3 t)) 0))], σ := [] }) ⟨_, Sub.gc [] [3, 1] rfl rfl, rfl, rfl⟩ ?_
  rintro k s hk ⟨hal, rfl⟩
  simp only [tw3, go_sem, Nat.reduceEqDiff, Nat.reduceAdd, Nat.reduceSub, Nat.reduceMul, Nat.reduceLT, Nat.reduceLeDiff, Nat.reduceMod, Nat.reduceDiv, Int.reduceToNat, Int.reduceLT, Int.reduceLE, Bool.not_true, Bool.not_false, reduceIte, List.length_map]
  refine BrL.mk (fun h => ?_) (fun h => ?_)
  · have hlt : k < t.hs.length := by simpa using h
    have hx : t.hs[k]? = some t.hs[k] := List.getElem?_eq_getElem hlt
    have htk : t.hs.take (k + 1) = t.hs.take k ++ [t.hs[k]] := List.take_succ_eq_append_getElem hlt
    have hmem := List.getElem_mem hlt
    have e2 : IntKind.i64.wrap ((k : Int) + 1) = ((k + 1 : Nat) : Int) := by rw [wrap_id (by omega) (by omega)]; omega
    generalize t.hs[k] = sp at *
    simp only [h, tw3, go_sem, Nat.reduceEqDiff, Nat.reduceAdd, Nat.reduceSub, Nat.reduceMul, Nat.reduceLT, Nat.reduceLeDiff, Nat.reduceMod, Nat.reduceDiv, Int.reduceToNat, Int.reduceLT, Int.reduceLE, Bool.not_true, Bool.not_false, reduceIte, List.getElem?_map, hx, tS]
    refine ACallL.quiet1 (rspan_ok sp 24) rfl rfl rfl ?_
    cases hs : okS sp 24
    · simp only [go_sem, Nat.reduceEqDiff, Nat.reduceAdd, Nat.reduceSub, Nat.reduceMul, Nat.reduceLT, Nat.reduceLeDiff, Nat.reduceMod, Nat.reduceDiv, Int.reduceToNat, Int.reduceLT, Int.reduceLE, Bool.not_true, Bool.not_false, reduceIte]
      refine fail ?_ rfl rfl rfl
      have : t.hs.all (okS · 24) = false := List.all_eq_false.2 ⟨sp, hmem, by simp [hs]⟩
      simp only [Tw.ok, this, Bool.and_false, Bool.false_and]
    · simp only [go_sem, Nat.reduceEqDiff, Nat.reduceAdd, Nat.reduceSub, Nat.reduceMul, Nat.reduceLT, Nat.reduceLeDiff, Nat.reduceMod, Nat.reduceDiv, Int.reduceToNat, Int.reduceLT, Int.reduceLE, Bool.not_true, Bool.not_false, reduceIte, e2]
      exact ⟨hlt, _, Sub.gc [] [3, 1] rfl rfl, by rw [htk, List.all_append, hal]; simp only [List.all_cons, List.all_nil, hs, Bool.and_true], rfl⟩
  have hkh : k = t.hs.length := by have : ¬ (k : Int) < t.hs.length := by simpa using h
                                   omega
  subst hkh
  rw [List.take_length] at hal
  simp only [h, go_sem, Nat.reduceEqDiff, Nat.reduceAdd, Nat.reduceSub, Nat.reduceMul, Nat.reduceLT, Nat.reduceLeDiff, Nat.reduceMod, Nat.reduceDiv, Int.reduceToNat, Int.reduceLT, Int.reduceLE, Bool.not_true, Bool.not_false, reduceIte]
  -- half hours
  refine awpL_loopK t.vs.length (fun k s => (t.vs.take k).all (okS · 24) = true ∧ s = { env := [(4, .t (vi k)), (1, .t (.ptr (.agg (tw3 t)) 0))], σ := [] }) ⟨_, Sub.gc [] [4, 1] rfl rfl, rfl, rfl⟩ ?_
  clear h
  rintro k s hk ⟨hal2, rfl⟩
  simp only [tw3, go_sem, Nat.reduceEqDiff, Nat.reduceAdd, Nat.reduceSub, Nat.reduceMul, Nat.reduceLT, Nat.reduceLeDiff, Nat.reduceMod, Nat.reduceDiv, Int.reduceToNat, Int.reduceLT, Int.reduceLE, Bool.not_true, Bool.not_false, reduceIte, List.length_map]
  refine BrL.mk (fun h => ?_) (fun h => ?_)
  · have hlt : k < t.vs.length := by simpa using h
    have hx : t.vs[k]? = some t.vs[k] := List.getElem?_eq_getElem hlt
    have htk : t.vs.take (k + 1) = t.vs.take k ++ [t.vs[k]] := List.take_succ_eq_append_getElem hlt
    have hmem := List.getElem_mem hlt
    have e2 : IntKind.i64.wrap ((k : Int) + 1) = ((k + 1 : Nat) : Int) := by rw [wrap_id (by omega) (by omega)]; omega
    generalize t.vs[k] = sp at *
    simp only [h, tw3, go_sem, Nat.reduceEqDiff, Nat.reduceAdd, Nat.reduceSub, Nat.reduceMul, Nat.reduceLT, Nat.reduceLeDiff, Nat.reduceMod, Nat.reduceDiv, Int.reduceToNat, Int.reduceLT, Int.reduceLE, Bool.not_true, Bool.not_false, reduceIte, List.getElem?_map, hx, tS]
    refine ACallL.quiet1 (rspan_ok sp 24) rfl rfl rfl ?_
    cases hs : okS sp 24
    · simp only [go_sem, Nat.reduceEqDiff, Nat.reduceAdd, Nat.reduceSub, Nat.reduceMul, Nat.reduceLT, Nat.reduceLeDiff, Nat.reduceMod, Nat.reduceDiv, Int.reduceToNat, Int.reduceLT, Int.reduceLE, Bool.not_true, Bool.not_false, reduceIte]
      refine fail ?_ rfl rfl rfl
      have : t.vs.all (okS · 24) = false := List.all_eq_false.2 ⟨sp, hmem, by simp [hs]⟩
      simp only [Tw.ok, this, Bool.and_false, Bool.false_and]
    · simp only [go_sem, Nat.reduceEqDiff, Nat.reduceAdd, Nat.reduceSub, Nat.reduceMul, Nat.reduceLT, Nat.reduceLeDiff, Nat.reduceMod, Nat.reduceDiv, Int.reduceToNat, Int.reduceLT, Int.reduceLE, Bool.not_true, Bool.not_false, reduceIte, e2]
      exact ⟨hlt, _, Sub.gc [] [4, 1] rfl rfl, by rw [htk, List.all_append, hal2]; simp only [List.all_cons, List.all_nil, hs, Bool.and_true], rfl⟩
  have hkv : k = t.vs.length := by have : ¬ (k : Int) < t.vs.length := by simpa using h
                                   omega
  subst hkv
  rw [List.take_length] at hal2
  simp only [h, go_sem, Nat.reduceEqDiff, Nat.reduceAdd, Nat.reduceSub, Nat.reduceMul, Nat.reduceLT, Nat.reduceLeDiff, Nat.reduceMod, Nat.reduceDiv, Int.reduceToNat, Int.reduceLT, Int.reduceLE, Bool.not_true, Bool.not_false, reduceIte]
  -- bathers
  refine awpL_loopK t.bs.length (fun k s => (t.ok = okBs t (t.bs.take k) (t.bs.drop k)) ∧ s = { env := [(5, .t (vi k)), (1, .t (.ptr (.agg (tw3 t)) 0))], σ := [] }) ⟨_, Sub.gc [] [5, 1] rfl rfl, by simp [Tw.ok, hal, hal2, hl], rfl⟩ ?_
  clear h
  rintro k s hk ⟨hok, rfl⟩
  simp only [tw3, go_sem, Nat.reduceEqDiff, Nat.reduceAdd, Nat.reduceSub, Nat.reduceMul, Nat.reduceLT, Nat.reduceLeDiff, Nat.reduceMod, Nat.reduceDiv, Int.reduceToNat, Int.reduceLT, Int.reduceLE, Bool.not_true, Bool.not_false, reduceIte, List.length_map]
  refine BrL.mk (fun h => ?_) (fun h => ?_)
  · have hlt : k < t.bs.length := by simpa using h
    have hx : t.bs[k]? = some t.bs[k] := List.getElem?_eq_getElem hlt
    have htk : t.bs.take (k + 1) = t.bs.take k ++ [t.bs[k]] := List.take_succ_eq_append_getElem hlt
    have hdr : t.bs.drop k = t.bs[k] :: t.bs.drop (k + 1) := List.drop_eq_getElem_cons hlt
    have hseen : ∀ j : Nat, j < k → (t.bs.take k)[j]? = t.bs[j]? := fun j hj => by rw [List.getElem?_take, if_pos hj]
    have hseenl : (t.bs.take k).length = k := by simp; omega
    have e1 : IntKind.i64.wrap ((t.hs.length : Int) - 1) = t.hs.length - 1 := wrap_id (by omega) (by omega)
    have e0 : IntKind.i64.wrap ((t.vs.length : Int) - 1) = t.vs.length - 1 := wrap_id (by omega) (by omega)
    have e2 : IntKind.i64.wrap ((k : Int) + 1) = ((k + 1 : Nat) : Int) := by rw [wrap_id (by omega) (by omega)]; omega
    rw [hdr] at hok
    generalize t.bs[k] = b at *
    generalize t.bs.take k = seen at *
    have bad : (okB t b && !(seen.any (sameP b))) = false → t.ok = false := fun h => by rw [hok]; simp only [okBs, h, Bool.false_and]
    have no : okB t b = false → t.ok = false := fun h => bad (by rw [h]; rfl)
    simp only [h, tw3, go_sem, Nat.reduceEqDiff, Nat.reduceAdd, Nat.reduceSub, Nat.reduceMul, Nat.reduceLT, Nat.reduceLeDiff, Nat.reduceMod, Nat.reduceDiv, Int.reduceToNat, Int.reduceLT, Int.reduceLE, Bool.not_true, Bool.not_false, reduceIte, List.getElem?_map, hx, tB, List.length_map, e1]
    refine ACallL.quiet1 (rin_ok _ _ _) rfl rfl rfl ?_
    cases g1 : wI b.hut 0 (t.hs.length - 1)
    · simp only [go_sem, Nat.reduceEqDiff, Nat.reduceAdd, Nat.reduceSub, Nat.reduceMul, Nat.reduceLT, Nat.reduceLeDiff, Nat.reduceMod, Nat.reduceDiv, Int.reduceToNat, Int.reduceLT, Int.reduceLE, Bool.not_true, Bool.not_false, reduceIte, undef]
      exact fail (no (by simp [okB, g1])) rfl rfl rfl
    simp only [tw3, go_sem, Nat.reduceEqDiff, Nat.reduceAdd, Nat.reduceSub, Nat.reduceMul, Nat.reduceLT, Nat.reduceLeDiff, Nat.reduceMod, Nat.reduceDiv, Int.reduceToNat, Int.reduceLT, Int.reduceLE, Bool.not_true, Bool.not_false, reduceIte, List.length_map, e0]
    refine ACallL.quiet1 (rin_ok _ _ _) rfl rfl rfl ?_
    cases g2 : wI b.half 0 (t.vs.length - 1)
    · simp only [go_sem, Nat.reduceEqDiff, Nat.reduceAdd, Nat.reduceSub, Nat.reduceMul, Nat.reduceLT, Nat.reduceLeDiff, Nat.reduceMod, Nat.reduceDiv, Int.reduceToNat, Int.reduceLT, Int.reduceLE, Bool.not_true, Bool.not_false, reduceIte, undef]
      exact fail (no (by simp [okB, g2])) rfl rfl rfl
    simp only [go_sem, Nat.reduceEqDiff, Nat.reduceAdd, Nat.reduceSub, Nat.reduceMul, Nat.reduceLT, Nat.reduceLeDiff, Nat.reduceMod, Nat.reduceDiv, Int.reduceToNat, Int.reduceLT, Int.reduceLE, Bool.not_true, Bool.not_false, reduceIte]
    refine ACallL.quiet1 (rspan_ok (b.ll, b.lh) 4) rfl rfl rfl ?_
    cases g3 : okS (b.ll, b.lh) 4
    · simp only [go_sem, Nat.reduceEqDiff, Nat.reduceAdd, Nat.reduceSub, Nat.reduceMul, Nat.reduceLT, Nat.reduceLeDiff, Nat.reduceMod, Nat.reduceDiv, Int.reduceToNat, Int.reduceLT, Int.reduceLE, Bool.not_true, Bool.not_false, reduceIte, undef]
      exact fail (no (by simp [okB, g3])) rfl rfl rfl
    simp only [go_sem, Nat.reduceEqDiff, Nat.reduceAdd, Nat.reduceSub, Nat.reduceMul, Nat.reduceLT, Nat.reduceLeDiff, Nat.reduceMod, Nat.reduceDiv, Int.reduceToNat, Int.reduceLT, Int.reduceLE, Bool.not_true, Bool.not_false, reduceIte]
    refine ACallL.quiet1 (rspan_ok (b.bl, b.bh) 4) rfl rfl rfl ?_
    cases g4 : okS (b.bl, b.bh) 4
    · simp only [go_sem, Nat.reduceEqDiff, Nat.reduceAdd, Nat.reduceSub, Nat.reduceMul, Nat.reduceLT, Nat.reduceLeDiff, Nat.reduceMod, Nat.reduceDiv, Int.reduceToNat, Int.reduceLT, Int.reduceLE, Bool.not_true, Bool.not_false, reduceIte, undef]
      exact fail (no (by simp [okB, g4])) rfl rfl rfl
    simp only [go_sem, Nat.reduceEqDiff, Nat.reduceAdd, Nat.reduceSub, Nat.reduceMul, Nat.reduceLT, Nat.reduceLeDiff, Nat.reduceMod, Nat.reduceDiv, Int.reduceToNat, Int.reduceLT, Int.reduceLE, Bool.not_true, Bool.not_false, reduceIte]
    cases g5 : decide (b.bl > b.lh)
    rotate_left
    · simp only [go_sem, Nat.reduceEqDiff, Nat.reduceAdd, Nat.reduceSub, Nat.reduceMul, Nat.reduceLT, Nat.reduceLeDiff, Nat.reduceMod, Nat.reduceDiv, Int.reduceToNat, Int.reduceLT, Int.reduceLE, Bool.not_true, Bool.not_false, reduceIte]
      exact fail (no (by have : ¬ b.bl ≤ b.lh := by simp at g5; omega
                         simp [okB, this])) rfl rfl rfl
    have hokb : okB t b = true := by
      have : b.bl ≤ b.lh := by simp at g5; omega
      simp [okB, g1, g2, g3, g4, this]
    simp only [go_sem, Nat.reduceEqDiff, Nat.reduceAdd, Nat.reduceSub, Nat.reduceMul, Nat.reduceLT, Nat.reduceLeDiff, Nat.reduceMod, Nat.reduceDiv, Int.reduceToNat, Int.reduceLT, Int.reduceLE, Bool.not_true, Bool.not_false, reduceIte]
    refine awpL_loopK k (fun j s => (seen.take j).any (sameP b) = false ∧ s = { env := [(7, .t (vi j)), (5, .t (vi k)), (6, .t (.ptr (.agg [vi b.hut, vi b.half, vi b.ll, vi b.lh, vi b.bl, vi b.bh]) 0)), (1, .t (.ptr (.agg (tw3 t)) 0))], σ := [] }) ⟨_, Sub.gc [] [7, 5, 6, 1] rfl rfl, rfl, rfl⟩ ?_
    clear h
    rintro j s hj ⟨hany, rfl⟩
    simp only [tw3, go_sem, Nat.reduceEqDiff, Nat.reduceAdd, Nat.reduceSub, Nat.reduceMul, Nat.reduceLT, Nat.reduceLeDiff, Nat.reduceMod, Nat.reduceDiv, Int.reduceToNat, Int.reduceLT, Int.reduceLE, Bool.not_true, Bool.not_false, reduceIte]
    refine BrL.mk (fun h => ?_) (fun h => ?_)
    · have hlt' : j < k := by simpa using h
      have hjb : t.bs[j]? = some (t.bs[j]'(by omega)) := List.getElem?_eq_getElem _
      have hsj := hseen j hlt'
      rw [hjb] at hsj
      have e3 : IntKind.i64.wrap ((j : Int) + 1) = ((j + 1 : Nat) : Int) := by rw [wrap_id (by omega) (by omega)]; omega
      generalize t.bs[j]'(by omega) = x at *
      have hsm := List.mem_of_getElem? hsj
      obtain ⟨hjl, hje⟩ := List.getElem?_eq_some_iff.1 hsj
      have htj : seen.take (j + 1) = seen.take j ++ [x] := by rw [List.take_succ_eq_append_getElem hjl, hje]
      have hsame : sameP b x = ((x.hut == b.hut) && (x.half == b.half)) := by
        unfold sameP
        rw [Bool.beq_comm (a := b.hut), Bool.beq_comm (a := b.half)]
      simp only [h, tw3, go_sem, Nat.reduceEqDiff, Nat.reduceAdd, Nat.reduceSub, Nat.reduceMul, Nat.reduceLT, Nat.reduceLeDiff, Nat.reduceMod, Nat.reduceDiv, Int.reduceToNat, Int.reduceLT, Int.reduceLE, Bool.not_true, Bool.not_false, reduceIte, List.getElem?_map, hjb, tB]
      have close1 : sameP b x = true → t.ok = false := fun hs => bad (by
        have : seen.any (sameP b) = true := List.any_eq_true.2 ⟨x, hsm, hs⟩
        rw [this]; simp)
      cases q1 : (x.hut == b.hut) <;> cases q2 : (x.half == b.half) <;> simp only [go_sem, Nat.reduceEqDiff, Nat.reduceAdd, Nat.reduceSub, Nat.reduceMul, Nat.reduceLT, Nat.reduceLeDiff, Nat.reduceMod, Nat.reduceDiv, Int.reduceToNat, Int.reduceLT, Int.reduceLE, Bool.not_true, Bool.not_false, reduceIte, undef, q1, q2, List.getElem?_map, hjb, e3, tB, tw3]
      · exact ⟨hlt', _, Sub.gc [] [7, 5, 6, 1] rfl rfl, by rw [htj, List.any_append, hany]; simp [hsame, q1, q2], rfl⟩
      · exact ⟨hlt', _, Sub.gc [] [7, 5, 6, 1] rfl rfl, by rw [htj, List.any_append, hany]; simp [hsame, q1, q2], rfl⟩
      · exact ⟨hlt', _, Sub.gc [] [7, 5, 6, 1] rfl rfl, by rw [htj, List.any_append, hany]; simp [hsame, q1, q2], rfl⟩
      · exact fail (close1 (by rw [hsame, q1, q2]; rfl)) rfl rfl rfl
    · have hjk : j = k := by have : ¬ (j : Int) < k := by simpa using h
                             omega
      subst hjk
      rw [List.take_of_length_le (by omega)] at hany
      simp only [h, go_sem, Nat.reduceEqDiff, Nat.reduceAdd, Nat.reduceSub, Nat.reduceMul, Nat.reduceLT, Nat.reduceLeDiff, Nat.reduceMod, Nat.reduceDiv, Int.reduceToNat, Int.reduceLT, Int.reduceLE, Bool.not_true, Bool.not_false, reduceIte, e2]
      refine ⟨hlt, _, Sub.gc [] [5, 1] rfl rfl, ?_, rfl⟩
      rw [htk, hok]
      simp only [okBs, hokb, hany, Bool.not_false, Bool.true_and]
  · have hkb : k = t.bs.length := by have : ¬ (k : Int) < t.bs.length := by simpa using h
                                     omega
    subst hkb
    rw [List.drop_length] at hok
    simp only [okBs] at hok
    simp only [h, go_sem, Nat.reduceEqDiff, Nat.reduceAdd, Nat.reduceSub, Nat.reduceMul, Nat.reduceLT, Nat.reduceLeDiff, Nat.reduceMod, Nat.reduceDiv, Int.reduceToNat, Int.reduceLT, Int.reduceLE, Bool.not_true, Bool.not_false, reduceIte]
    exact finL_ret [] ⟨rfl, rfl, rfl, rfl, _, rfl, res_mk (by rw [hok]; rfl)⟩
end Go.Proofs.Ytcpkkjbkbdmopaa

/- The document's truths. -/
namespace Go.Proofs.Ytcpkkjbkbdmopaa
open Go Go.Ab

def tL (l : List Int) : T := .slice 1 (l.map vi)
/-- All that goes on from some. -/
def extL (t : Tw) (a b : Nat) : Nat → List Int → List (List Int)
  | 0, l => if rightL t l a b then [l] else []
  | k + 1, l => match t.bs[l.length]? with
    | some x => (rangeI (words x).1 (words x).2).flatMap fun n => extL t a b k (l ++ [n])
    | none => []

theorem rens_t (ρ : Nat → Nat) (xs : List T) : E.rens ρ (xs.map E.t) = xs.map E.t := by
  rw [E.rens_map, List.map_map]; rfl
theorem rens_tf {α : Type} (ρ : Nat → Nat) (f : α → T) (xs : List α) : E.rens ρ (xs.map fun x => E.t (f x)) = xs.map fun x => E.t (f x) := by
  rw [E.rens_map, List.map_map]; rfl

/-- What is put behind the list: of the last one the list itself. -/
def newsE (t : Tw) (a b : Nat) : Nat → List Int → Nat → List E
  | 0, l, id => if rightL t l a b then [.loc id l.length] else []
  | k + 1, l, _ => (extL t a b (k + 1) l).map fun l => .t (tL l)

theorem newsE_len (t : Tw) (a b k : Nat) (l : List Int) (id : Nat) : (newsE t a b k l id).length = (extL t a b k l).length := by
  cases k with
  | zero => simp only [newsE, extL]; split <;> rfl
  | succ k => simp [newsE]

theorem newsE_ren (t : Tw) (a b k : Nat) (l : List Int) (id : Nat) (ρ : Nat → Nat) : E.rens ρ (newsE t a b k l id) = newsE t a b k l (ρ id) := by
  cases k with
  | zero =>
    simp only [newsE]
    split
    · simp only [E.rens, E.ren]
    · rfl
  | succ k => exact rens_tf ρ _ _

theorem newsE_gc (t : Tw) (a b k : Nat) (l : List Int) (id : Nat) (kp : List Nat) (σ : List AO) (h : pos? kp id = none) (ho : σ[id]? = some (.row 1 (l.map fun x => .t (vi x)))) : (newsE t a b k l id).map (E.gc kp σ 12) = (extL t a b k l).map fun l => .t (tL l) := by
  cases k with
  | zero =>
    simp only [newsE, extL]
    split
    · simp only [List.map_cons, List.map_nil]
      rw [gc_loc (xs := l.map vi) h (by rw [List.map_map]; exact ho) (by simp)]
      rfl
    · rfl
  | succ k => simp only [newsE]; rw [List.map_map]; rfl

def truR (t : Tw) (a b k : Nat) (l : List Int) (outs : List T) (o : Out) (σ : List AO) : Prop :=
  o = .ret (.loc 0 (outs.length + (extL t a b k l).length)) ∧ σ = [.row 1 (outs.map .t ++ newsE t a b k l 1), .row 1 (l.map fun x => .t (vi x))]

end Go.Proofs.Ytcpkkjbkbdmopaa

/- The document's truths, and what is told if there are any. -/
namespace Go.Proofs.Ytcpkkjbkbdmopaa
open Go Go.Ab

theorem extL_many {t : Tw} (ht : t.OK) (a b : Nat) : ∀ (k : Nat) (l : List Int), l.length + k = t.bs.length → (extL t a b k l).length ≤ 5 ^ k
  | 0, l, _ => by simp only [extL]; split <;> simp
  | k + 1, l, hl => by
    have hbx : t.bs[l.length]? = some (t.bs[l.length]'(by omega)) := List.getElem?_eq_getElem _
    rw [extL, hbx]
    simp only
    have hwb := words_bound t ht (List.mem_of_getElem? hbx)
    generalize (words (t.bs[l.length]'(by omega))).1 = lo at *
    generalize (words (t.bs[l.length]'(by omega))).2 = hi at *
    rw [List.length_flatMap]
    have hlen : (rangeI lo hi).length ≤ 5 := by unfold rangeI; rw [List.length_map, List.length_range]; omega
    have : ∀ L : List Int, (L.map fun n => (extL t a b k (l ++ [n])).length).sum ≤ L.length * 5 ^ k := by
      intro L
      induction L with
      | nil => simp
      | cons n L ih =>
        have := extL_many ht a b k (l ++ [n]) (by simp; omega)
        simp only [List.map_cons, List.sum_cons, List.length_cons, Nat.succ_mul]
        omega
    have h2 := this (rangeI lo hi)
    have h3 := Nat.mul_le_mul_right (5 ^ k) hlen
    rw [Nat.pow_succ]
    omega

/-- The document's truths, by the counts of two sets. -/
def docT (t : Tw) (a b : Nat) : List (List Int) := extL t a b t.bs.length []

end Go.Proofs.Ytcpkkjbkbdmopaa

/- The document's Own, Count, and what is told if there are truths. -/
namespace Go.Proofs.Ytcpkkjbkbdmopaa
open Go Go.Ab

theorem extL_mem {t : Tw} (ht : t.OK) (a b : Nat) : ∀ (k : Nat) (l : List Int), l.length + k = t.bs.length → (∀ x ∈ l, 0 ≤ x ∧ x ≤ 4) → ∀ l' ∈ extL t a b k l, l'.length = t.bs.length ∧ ∀ x ∈ l', 0 ≤ x ∧ x ≤ 4
  | 0, l, hl, hr, l', h => by
    rw [extL] at h
    split at h
    · simp at h; subst h; exact ⟨by omega, hr⟩
    · simp at h
  | k + 1, l, hl, hr, l', h => by
    have hbx : t.bs[l.length]? = some (t.bs[l.length]'(by omega)) := List.getElem?_eq_getElem _
    rw [extL, hbx] at h
    simp only at h
    have hwb := words_bound t ht (List.mem_of_getElem? hbx)
    obtain ⟨n, hn, h⟩ := List.mem_flatMap.1 h
    refine extL_mem ht a b k (l ++ [n]) (by simp; omega) (fun x hx => ?_) l' h
    rcases List.mem_append.1 hx with hx | hx
    · exact hr x hx
    · simp at hx
      subst hx
      unfold rangeI at hn
      obtain ⟨j, hj, rfl⟩ := List.mem_map.1 hn
      have := List.mem_range.1 hj
      omega

/-- The document's truths, by all counts. -/
def docA (t : Tw) : List (List Int) := docT t (2 ^ t.hs.length - 1) (2 ^ t.vs.length - 1)

theorem docA_mem {t : Tw} (ht : t.OK) {l : List Int} (h : l ∈ docA t) : l.length = t.bs.length ∧ ∀ x ∈ l, 0 ≤ x ∧ x ≤ 4 :=
  extL_mem ht _ _ t.bs.length [] (by simp) (by simp) l h
theorem docT_many {t : Tw} (ht : t.OK) (a b : Nat) : (docT t a b).length ≤ 15625 := by
  have h1 := extL_many ht a b t.bs.length [] (by simp)
  have h2 : 5 ^ t.bs.length ≤ 5 ^ 6 := Nat.pow_le_pow_right (by omega) ht.nb
  have h6 : (5 : Nat) ^ 6 = 15625 := by decide
  unfold docT
  omega

def nilT : T := .lit (.slice none 0 0)
def toldO (t : Tw) (is : Bool) : Out :=
  if t.ok then (if is then (if (docA t).isEmpty then .ret (.tup [.t nilT, .t (vi 10)]) else .ret (.tup [.t (.slice 1 ((docA t).map tL)), .t (vi 0)])) else .ret (.tup [.t nilT, .t (vi 2)])) else .ret (.tup [.t nilT, .t (vi 1)])

def docCount (t : Tw) : Int × Int := if t.ok then ((docA t).length, 0) else (0, 1)

end Go.Proofs.Ytcpkkjbkbdmopaa

/- The document's Kept, All and Who. -/
namespace Go.Proofs.Ytcpkkjbkbdmopaa
open Go Go.Ab

/-- From the least to the greatest of some numbers. -/
def hullD (xs : List Int) : Int × Int := (xs.foldl min (xs.headD 0), xs.foldl max (xs.headD 0))
theorem foldl_take {α β : Type} (f : β → α → β) (b : β) (l : List α) (k : Nat) (x : α) (h : l[k]? = some x) : (l.take (k + 1)).foldl f b = f ((l.take k).foldl f b) x := by
  obtain ⟨hk, rfl⟩ := List.getElem?_eq_some_iff.1 h
  rw [List.take_succ_eq_append_getElem hk, List.foldl_append]
  rfl

theorem ne1 : ((1 : Int) != 0) = true := rfl
theorem ne2 : ((2 : Int) != 0) = true := rfl
theorem ne10 : ((10 : Int) != 0) = true := rfl
theorem ne0 : ((0 : Int) != 0) = false := rfl
theorem toldO_no {t : Tw} (is : Bool) (h : t.ok = false) : toldO t is = .ret (.tup [.t nilT, .t (vi 1)]) := by simp only [toldO, h]; rfl
theorem toldO_range {t : Tw} (h : t.ok = true) : toldO t false = .ret (.tup [.t nilT, .t (vi 2)]) := by simp only [toldO, h]; rfl
theorem toldO_clash {t : Tw} (h : t.ok = true) (hD : (docA t).isEmpty = true) : toldO t true = .ret (.tup [.t nilT, .t (vi 10)]) := by simp only [toldO, h, hD]; rfl
theorem toldO_yes {t : Tw} (h : t.ok = true) (hD : (docA t).isEmpty = false) : toldO t true = .ret (.tup [.t (.slice 1 ((docA t).map tL)), .t (vi 0)]) := by simp only [toldO, h, hD]; rfl

def docKept (t : Tw) (i : Int) : (Int × Int) × Int :=
  if t.ok then (if t.isB i then (if (docA t).isEmpty then ((0, 0), 10) else (hullD ((docA t).map fun l => l.getD i.toNat 0), 0)) else ((0, 0), 2)) else ((0, 0), 1)

end Go.Proofs.Ytcpkkjbkbdmopaa

/- The document's All. -/
namespace Go.Proofs.Ytcpkkjbkbdmopaa
open Go Go.Ab

def docAll (t : Tw) : (Int × Int) × Int :=
  if t.ok then (if (docA t).isEmpty then ((0, 0), 10) else (hullD ((docA t).map fun l => l.sum), 0)) else ((0, 0), 1)

end Go.Proofs.Ytcpkkjbkbdmopaa

/- The document's Who. -/
namespace Go.Proofs.Ytcpkkjbkbdmopaa
open Go Go.Ab

def docWho (t : Tw) : Int × Int × Int :=
  if t.ok then (if (docA t).isEmpty then (0, 0, 10) else ((maskOf (fun i => (docA t).all fun l => decide (l.getD i 0 > 0)) t.bs.length : Nat), (maskOf (fun i => (docA t).any fun l => decide (l.getD i 0 > 0)) t.bs.length : Nat), 0)) else (0, 0, 1)

theorem or_add {m k : Nat} (h : m < 2 ^ k) : m ||| 2 ^ k = m + 2 ^ k := by
  have := Nat.two_pow_add_eq_or_of_lt h 1
  rw [Nat.mul_one] at this
  rw [Nat.or_comm, ← this, Nat.add_comm]

theorem countP_take {α : Type} (p : α → Bool) (l : List α) (k : Nat) (x : α) (h : l[k]? = some x) : (l.take (k + 1)).countP p = (l.take k).countP p + if p x then 1 else 0 := by
  obtain ⟨hk, rfl⟩ := List.getElem?_eq_some_iff.1 h
  rw [List.take_succ_eq_append_getElem hk, List.countP_append]
  simp [List.countP_cons]

theorem countP_take_le {α : Type} (p : α → Bool) (l : List α) (k : Nat) : (l.take k).countP p ≤ l.length := by
  have h1 := List.countP_le_length (p := p) (l := l.take k)
  have h2 := List.length_take_le' k l
  omega

end Go.Proofs.Ytcpkkjbkbdmopaa

/- The program's truths are the document's: plain laws. -/
namespace Go.Proofs.Ytcpkkjbkbdmopaa
open Go Go.Ab

theorem flatMap_congr' {α β : Type} {f g : α → List β} : ∀ {l : List α}, (∀ a ∈ l, f a = g a) → l.flatMap f = l.flatMap g
  | [], _ => rfl
  | a :: l, h => by rw [List.flatMap_cons, List.flatMap_cons, h a (List.mem_cons_self ..), flatMap_congr' fun b hb => h b (List.mem_cons_of_mem _ hb)]
theorem filter_flatMap' {α : Type} (p : α → Bool) : ∀ l : List α, l.filter p = l.flatMap fun x => if p x then [x] else []
  | [] => rfl
  | a :: l => by
    rw [List.flatMap_cons, List.filter_cons, filter_flatMap' p l]
    cases p a <;> simp

theorem skipN_none (i : Nat) (n : Int) : skipN i (-1) 0 0 n = false := by
  have : ((i : Int) == -1) = false := by simp
  simp [skipN, this]

theorem canL_none (b : B) (i : Nat) : canL b i (-1) 0 0 = rangeI (words b).1 (words b).2 := by
  unfold canL
  rw [List.filter_eq_self]
  intro n _
  rw [skipN_none]; rfl

theorem ext_tups (t : Tw) (a b : Nat) : ∀ (j k : Nat), j + k = t.bs.length → (tupsK t (-1) 0 0 j).flatMap (extL t a b k) = extL t a b t.bs.length []
  | 0, k, h => by
    have : k = t.bs.length := by omega
    subst this
    simp [tupsK]
  | j + 1, k, h => by
    rw [← ext_tups t a b j (k + 1) (by omega)]
    have hb : t.bs[j]? = some (t.bs[j]'(by omega)) := List.getElem?_eq_getElem _
    rw [tupsK_succ hb, List.flatMap_assoc]
    refine flatMap_congr' fun l hl => ?_
    have hlen := tupsK_len (by omega) l hl
    rw [extL, hlen, hb, canL_none, List.flatMap_map]

/-! ### Sums -/
theorem addS_get (s : List Int) (hs : s.length = 6) (b : B) (hh : 0 ≤ b.hut ∧ b.hut < 3) (hv : 0 ≤ b.half ∧ b.half < 3) (n : Int) (i : Nat) (hi : i < 3) :
    (addS s b n).getD i 0 = s.getD i 0 + (if b.hut == (i : Int) then n else 0) ∧ (addS s b n).getD (3 + i) 0 = s.getD (3 + i) 0 + (if b.half == (i : Int) then n else 0) := by
  match s, hs with
  | [p0, p1, p2, p3, p4, p5], _ =>
    obtain ⟨x, hx⟩ : ∃ x : Nat, b.hut = x := ⟨b.hut.toNat, by omega⟩
    obtain ⟨y, hy⟩ : ∃ y : Nat, b.half = y := ⟨b.half.toNat, by omega⟩
    unfold addS
    have hx3 : x < 3 := by omega
    have hy3 : y < 3 := by omega
    simp only [hx, hy, Int.toNat_natCast]
    clear hx hy hh hv
    match x, hx3, y, hy3, i, hi with
    | 0, _, 0, _, 0, _ | 0, _, 0, _, 1, _ | 0, _, 0, _, 2, _ | 0, _, 1, _, 0, _ | 0, _, 1, _, 1, _ | 0, _, 1, _, 2, _ | 0, _, 2, _, 0, _ | 0, _, 2, _, 1, _ | 0, _, 2, _, 2, _
    | 1, _, 0, _, 0, _ | 1, _, 0, _, 1, _ | 1, _, 0, _, 2, _ | 1, _, 1, _, 0, _ | 1, _, 1, _, 1, _ | 1, _, 1, _, 2, _ | 1, _, 2, _, 0, _ | 1, _, 2, _, 1, _ | 1, _, 2, _, 2, _
    | 2, _, 0, _, 0, _ | 2, _, 0, _, 1, _ | 2, _, 0, _, 2, _ | 2, _, 1, _, 0, _ | 2, _, 1, _, 1, _ | 2, _, 1, _, 2, _ | 2, _, 2, _, 0, _ | 2, _, 2, _, 1, _ | 2, _, 2, _, 2, _ => simp

def PosOK (b : B) : Prop := (0 ≤ b.hut ∧ b.hut < 3) ∧ (0 ≤ b.half ∧ b.half < 3)

theorem sumT_get (i : Nat) (hi : i < 3) : ∀ (ps : List (B × Int)) (s : List Int), s.length = 6 → (∀ p ∈ ps, PosOK p.1) →
    (ps.foldl (fun s p => addS s p.1 p.2) s).getD i 0 = s.getD i 0 + (ps.map fun x => if x.1.hut == (i : Int) then x.2 else 0).sum ∧
    (ps.foldl (fun s p => addS s p.1 p.2) s).getD (3 + i) 0 = s.getD (3 + i) 0 + (ps.map fun x => if x.1.half == (i : Int) then x.2 else 0).sum
  | [], s, _, _ => by simp
  | p :: ps, s, hs, hp => by
    obtain ⟨h1, h2⟩ := sumT_get i hi ps (addS s p.1 p.2) (by rw [addS_len, hs]) fun q hq => hp q (List.mem_cons_of_mem _ hq)
    obtain ⟨g1, g2⟩ := hp p (List.mem_cons_self ..)
    obtain ⟨k1, k2⟩ := addS_get s hs p.1 g1 g2 p.2 i hi
    simp only [List.foldl_cons, List.map_cons, List.sum_cons]
    rw [h1, h2, k1, k2]
    omega

theorem sum_parts (b : B) (h : 0 ≤ b.hut ∧ b.hut < 3) (n : Int) : (if b.hut == ((0 : Nat) : Int) then n else 0) + (if b.hut == ((1 : Nat) : Int) then n else 0) + (if b.hut == ((2 : Nat) : Int) then n else 0) = n := by
  obtain ⟨x, hx⟩ : ∃ x : Nat, b.hut = x := ⟨b.hut.toNat, by omega⟩
  have hx3 : x < 3 := by omega
  rw [hx]
  clear hx h
  match x, hx3 with
  | 0, _ | 1, _ | 2, _ => simp

theorem sel_parts : ∀ (ps : List (B × Int)), (∀ p ∈ ps, PosOK p.1) →
    (ps.map fun x => if x.1.hut == ((0 : Nat) : Int) then x.2 else 0).sum + (ps.map fun x => if x.1.hut == ((1 : Nat) : Int) then x.2 else 0).sum + (ps.map fun x => if x.1.hut == ((2 : Nat) : Int) then x.2 else 0).sum = (ps.map (·.2)).sum
  | [], _ => rfl
  | p :: ps, hp => by
    have h1 := sel_parts ps fun q hq => hp q (List.mem_cons_of_mem _ hq)
    have h2 := sum_parts p.1 (hp p (List.mem_cons_self ..)).1 p.2
    simp only [List.map_cons, List.sum_cons]
    omega

theorem foldl_len : ∀ (ps : List (B × Int)) (s : List Int), s.length = 6 → (ps.foldl (fun s p => addS s p.1 p.2) s).length = 6
  | [], s, h => h
  | p :: ps, s, h => foldl_len ps _ (by rw [addS_len, h])

theorem OK.pos {t : Tw} (ht : t.OK) (l : List Int) : ∀ p ∈ t.bs.zip l, PosOK p.1 := by
  intro p hp
  have hb : p.1 ∈ t.bs := (List.of_mem_zip hp).1
  have h := ht.bs _ hb
  have h1 := ht.nh
  have h2 := ht.nv
  unfold PosOK
  omega

theorem sumT_hut {t : Tw} (ht : t.OK) (l : List Int) (i : Nat) (hi : i < 3) : (sumT t.bs l).getD i 0 = sumSel (fun b => b.hut == (i : Int)) t.bs l := by
  have := (sumT_get i hi (t.bs.zip l) zero6 rfl (OK.pos ht l)).1
  unfold sumT sumSel
  rw [this]
  have h0 : zero6.getD i 0 = 0 := by match i, hi with | 0, _ | 1, _ | 2, _ => rfl
  rw [h0, Int.zero_add]
theorem sumT_half {t : Tw} (ht : t.OK) (l : List Int) (i : Nat) (hi : i < 3) : (sumT t.bs l).getD (3 + i) 0 = sumSel (fun b => b.half == (i : Int)) t.bs l := by
  have := (sumT_get i hi (t.bs.zip l) zero6 rfl (OK.pos ht l)).2
  unfold sumT sumSel
  rw [this]
  have h0 : zero6.getD (3 + i) 0 = 0 := by match i, hi with | 0, _ | 1, _ | 2, _ => rfl
  rw [h0, Int.zero_add]

theorem totS_sumT {t : Tw} (ht : t.OK) (l : List Int) (hl : l.length = t.bs.length) : totS (sumT t.bs l) = l.sum := by
  have h0 := sumT_hut ht l 0 (by omega)
  have h1 := sumT_hut ht l 1 (by omega)
  have h2 := sumT_hut ht l 2 (by omega)
  have h3 := sel_parts (t.bs.zip l) (OK.pos ht l)
  have h4 : (t.bs.zip l).map (·.2) = l := by rw [List.map_snd_zip (by omega)]
  have hlen : (sumT t.bs l).length = 6 := foldl_len _ _ rfl
  rw [h4] at h3
  unfold sumSel at h0 h1 h2
  match hs : sumT t.bs l, hlen with
  | [p0, p1, p2, p3, p4, p5], _ =>
    rw [hs] at h0 h1 h2
    simp only [List.getD_cons_zero, List.getD_cons_succ] at h0 h1 h2
    simp only [totS, List.take_succ_cons, List.take_zero, List.sum_cons, List.sum_nil]
    omega

theorem right_eq {t : Tw} (ht : t.OK) (l : List Int) (a b : Nat) : rightL t l a b = (cnts t a b).all fun c => c.right (sumT t.bs l) := by
  unfold rightL cnts cntsOf allIx
  rw [List.all_append, List.all_map, List.all_map, List.all_filter, List.all_filter]
  congr 1
  · rw [Bool.eq_iff_iff, List.all_eq_true, List.all_eq_true]
    refine forall_congr' fun p => imp_congr_right fun hp => ?_
    have hlt : p.2 < 3 := by
      have := (List.mem_zipIdx hp).2.1
      have := ht.nh
      omega
    simp only [rightH, Function.comp, Cnt.right, Cnt.at]
    rw [sumT_hut ht l _ (by simpa using hlt)]
    cases a.testBit p.2 <;> simp
  · rw [Bool.eq_iff_iff, List.all_eq_true, List.all_eq_true]
    refine forall_congr' fun p => imp_congr_right fun hp => ?_
    have hlt : p.2 < 3 := by
      have := (List.mem_zipIdx hp).2.1
      have := ht.nv
      omega
    simp only [rightV, Function.comp, Cnt.right, Cnt.at, Bool.false_eq_true, if_false]
    rw [sumT_half ht l _ (by simpa using hlt)]

/-- The document's truths are the program's. -/
theorem docT_eq {t : Tw} (ht : t.OK) (a b : Nat) : docT t a b = truthsC t (-1) 0 0 (cnts t a b) := by
  unfold docT truthsC
  rw [← ext_tups t a b t.bs.length 0 (by omega)]
  rw [filter_flatMap']
  refine flatMap_congr' fun l _ => ?_
  rw [extL, right_eq ht]
end Go.Proofs.Ytcpkkjbkbdmopaa

/- What the program tells is what the document does: plain laws. -/
namespace Go.Proofs.Ytcpkkjbkbdmopaa
open Go Go.Ab

theorem docA_eq {t : Tw} (ht : t.OK) : docA t = truthsA t (-1) 0 0 := docT_eq ht _ _

/-! ### Of some numbers only -/
def agrees (o m : Int) (z : Nat) (l : List Int) : Bool := l.zipIdx.all fun p => !skipN p.2 o m z p.1

theorem agrees_snoc (o m : Int) (z : Nat) (l : List Int) (n : Int) : agrees o m z (l ++ [n]) = (agrees o m z l && !skipN l.length o m z n) := by
  unfold agrees
  rw [List.zipIdx_append, List.all_append]
  simp

theorem tups_agree (t : Tw) (o m : Int) (z : Nat) : ∀ k, k ≤ t.bs.length → tupsK t o m z k = (tupsK t (-1) 0 0 k).filter (agrees o m z)
  | 0, _ => rfl
  | k + 1, hk => by
    have hb : t.bs[k]? = some (t.bs[k]'(by omega)) := List.getElem?_eq_getElem _
    rw [tupsK_succ hb, tupsK_succ hb, tups_agree t o m z k (by omega)]
    rw [List.filter_flatMap, filter_flatMap' (agrees o m z), List.flatMap_assoc]
    refine flatMap_congr' fun l hl => ?_
    have hlen := tupsK_len (by omega) l hl
    rw [canL_none, List.filter_map]
    have e : (agrees o m z) ∘ (fun n => l ++ [n]) = fun n => agrees o m z l && !skipN k o m z n := by
      funext n
      rw [Function.comp, agrees_snoc, hlen]
    rw [e]
    cases agrees o m z l
    · simp
    · simp [canL]

theorem truths_agree (t : Tw) (o m : Int) (z : Nat) (cs : List Cnt) : truthsC t o m z cs = (truthsC t (-1) 0 0 cs).filter (agrees o m z) := by
  unfold truthsC
  rw [tups_agree t o m z _ (Nat.le_refl _), List.filter_filter, List.filter_filter]
  refine List.filter_congr fun l _ => Bool.and_comm _ _

theorem agrees_one (n : Nat) (k : Int) : ∀ (l : List Int) (i : Nat), i ≤ n → n < i + l.length → ((l.zipIdx i).all fun p => !skipN p.2 n k 0 p.1) = (l.getD (n - i) 0 == k)
  | [], i, h1, h2 => by simp at h2; omega
  | x :: l, i, h1, h2 => by
    rw [List.zipIdx_cons, List.all_cons]
    by_cases hi : i = n
    · subst hi
      have h3 : ((l.zipIdx (i + 1)).all fun p => !skipN p.2 i k 0 p.1) = true := by
        rw [List.all_eq_true]
        intro p hp
        have := (List.mem_zipIdx hp).1
        have h4 : ((p.2 : Int) == (i : Int)) = false := by simp; omega
        simp [skipN, h4]
      rw [h3, Bool.and_true, Nat.sub_self, List.getD_cons_zero]
      have h5 : ((i : Int) == (i : Int)) = true := by simp
      simp only [skipN, h5, Nat.zero_testBit, Bool.true_and, Bool.false_and, Bool.or_false, bne, Bool.not_not]
    · have h4 : ((i : Int) == (n : Int)) = false := by simp; omega
      rw [agrees_one n k l (i + 1) (by omega) (by simp at h2; omega)]
      have h5 : n - i = (n - (i + 1)) + 1 := by omega
      rw [h5, List.getD_cons_succ]
      simp [skipN, h4]

theorem truthsA_mem {t : Tw} (ht : t.OK) {l : List Int} (h : l ∈ truthsA t (-1) 0 0) : l.length = t.bs.length ∧ ∀ x ∈ l, 0 ≤ x ∧ x ≤ 4 := by
  rw [← docA_eq ht] at h
  exact docA_mem ht h

theorem truthsA_one {t : Tw} (ht : t.OK) (n : Nat) (hn : n < t.bs.length) (k : Int) : truthsA t n k 0 = (docA t).filter fun l => l.getD n 0 == k := by
  unfold truthsA
  rw [truths_agree, docA_eq ht]
  refine List.filter_congr fun l hl => ?_
  have hlen := (truthsA_mem ht hl).1
  exact agrees_one n k l 0 (by omega) (by omega)

theorem waysN_pos {t : Tw} (ht : t.OK) (n : Nat) (hn : n < t.bs.length) (k : Int) : decide (0 < waysN t n 0 k) = (docA t).any fun l => l.getD n 0 == k := by
  unfold waysN
  rw [truthsA_one ht n hn, Bool.eq_iff_iff, decide_eq_true_iff, List.any_eq_true]
  rw [show (0 : Int) < (((docA t).filter fun l => l.getD n 0 == k).length : Nat) ↔ 0 < ((docA t).filter fun l => l.getD n 0 == k).length by omega]
  rw [List.length_filter_pos_iff]

/-! ### Least and greatest -/
theorem foldlMin_le : ∀ (l : List Int) (b : Int), l.foldl min b ≤ b ∧ ∀ x ∈ l, l.foldl min b ≤ x
  | [], b => ⟨Int.le_refl _, fun x h => by simp at h⟩
  | a :: l, b => by
    obtain ⟨h1, h2⟩ := foldlMin_le l (min b a)
    refine ⟨by simp only [List.foldl_cons]; omega, fun x hx => ?_⟩
    simp only [List.foldl_cons]
    rcases List.mem_cons.1 hx with rfl | hx
    · omega
    · exact h2 x hx
theorem foldlMin_mem : ∀ (l : List Int) (b : Int), l.foldl min b = b ∨ l.foldl min b ∈ l
  | [], b => .inl rfl
  | a :: l, b => by
    simp only [List.foldl_cons]
    rcases foldlMin_mem l (min b a) with h | h
    · rw [h]
      by_cases hab : b ≤ a
      · exact .inl (by omega)
      · exact .inr (by rw [show min b a = a by omega]; exact List.mem_cons_self ..)
    · exact .inr (List.mem_cons_of_mem _ h)
theorem foldlMax_le : ∀ (l : List Int) (b : Int), b ≤ l.foldl max b ∧ ∀ x ∈ l, x ≤ l.foldl max b
  | [], b => ⟨Int.le_refl _, fun x h => by simp at h⟩
  | a :: l, b => by
    obtain ⟨h1, h2⟩ := foldlMax_le l (max b a)
    refine ⟨by simp only [List.foldl_cons]; omega, fun x hx => ?_⟩
    simp only [List.foldl_cons]
    rcases List.mem_cons.1 hx with rfl | hx
    · omega
    · exact h2 x hx
theorem foldlMax_mem : ∀ (l : List Int) (b : Int), l.foldl max b = b ∨ l.foldl max b ∈ l
  | [], b => .inl rfl
  | a :: l, b => by
    simp only [List.foldl_cons]
    rcases foldlMax_mem l (max b a) with h | h
    · rw [h]
      by_cases hab : a ≤ b
      · exact .inl (by omega)
      · exact .inr (by rw [show max b a = a by omega]; exact List.mem_cons_self ..)
    · exact .inr (List.mem_cons_of_mem _ h)

theorem headD_mem {l : List Int} (h : l ≠ []) : l.headD 0 ∈ l := by
  cases l with
  | nil => exact absurd rfl h
  | cons a l => exact List.mem_cons_self ..

theorem hullD_min {l : List Int} (h : l ≠ []) : (hullD l).1 ∈ l ∧ ∀ x ∈ l, (hullD l).1 ≤ x := by
  refine ⟨?_, (foldlMin_le l _).2⟩
  rcases foldlMin_mem l (l.headD 0) with e | e
  · unfold hullD; rw [e]; exact headD_mem h
  · exact e
theorem hullD_max {l : List Int} (h : l ≠ []) : (hullD l).2 ∈ l ∧ ∀ x ∈ l, x ≤ (hullD l).2 := by
  refine ⟨?_, (foldlMax_le l _).2⟩
  rcases foldlMax_mem l (l.headD 0) with e | e
  · unfold hullD; rw [e]; exact headD_mem h
  · exact e

theorem hull_eq {xs ys : List Int} (hy : ys ≠ []) (hm : ∀ x, x ∈ xs ↔ x ∈ ys) (hb : ∀ x ∈ ys, -1000000 ≤ x ∧ x ≤ 1000000) : hullOf xs = hullD ys := by
  obtain ⟨a1, a2⟩ := hullD_min hy
  obtain ⟨b1, b2⟩ := hullD_max hy
  have c1 := (foldlMin_le xs 1073741824).2 _ ((hm _).2 a1)
  have c2 := (foldlMax_le xs (-1073741824)).2 _ ((hm _).2 b1)
  have d1 := hb _ a1
  have d2 := hb _ b1
  refine Prod.ext ?_ ?_
  · unfold hullOf
    simp only
    rcases foldlMin_mem xs 1073741824 with e | e
    · omega
    · have := a2 _ ((hm _).1 e)
      omega
  · unfold hullOf
    simp only
    rcases foldlMax_mem xs (-1073741824) with e | e
    · omega
    · have := b2 _ ((hm _).1 e)
      omega

/-! ### Each answer -/
theorem isT_eq {t : Tw} (ht : t.OK) : isT t = !(docA t).isEmpty := by
  unfold isT
  rw [← docA_eq ht]
  cases docA t <;> simp

theorem truth_word {t : Tw} (ht : t.OK) {n : Nat} {b : B} (hb : t.bs[n]? = some b) {l : List Int} (hl : l ∈ docA t) : l.getD n 0 ∈ canL b n (-1) 0 0 := by
  rw [docA_eq ht] at hl
  have h1 := (List.mem_filter.1 hl).1
  have hn : n < t.bs.length := (List.getElem?_eq_some_iff.1 hb).1
  have gen : ∀ k, k ≤ t.bs.length → n < k → ∀ l ∈ tupsK t (-1) 0 0 k, l.getD n 0 ∈ canL b n (-1) 0 0 := by
    intro k
    induction k with
    | zero => intro _ h; omega
    | succ k ih =>
      intro hk hnk l hl
      have hbk : t.bs[k]? = some (t.bs[k]'(by omega)) := List.getElem?_eq_getElem _
      rw [tupsK_succ hbk] at hl
      obtain ⟨l', h', hl⟩ := List.mem_flatMap.1 hl
      obtain ⟨x, hx, rfl⟩ := List.mem_map.1 hl
      have hlen := tupsK_len (by omega) l' h'
      by_cases hc : n < k
      · rw [List.getD_eq_getElem?_getD, List.getElem?_append_left (by omega), ← List.getD_eq_getElem?_getD]
        exact ih (by omega) hc l' h'
      · have : n = k := by omega
        subst this
        rw [hb] at hbk
        injection hbk with hbk
        rw [List.getD_eq_getElem?_getD, List.getElem?_append_right (by omega), hlen, Nat.sub_self, hbk]
        exact hx
  exact gen _ (Nat.le_refl _) hn l h1

theorem keptOf_eq {t : Tw} (ht : t.OK) {n : Nat} {b : B} (hb : t.bs[n]? = some b) (hD : (docA t).isEmpty = false) : keptOf t n = hullD ((docA t).map fun l => l.getD n 0) := by
  have hn : n < t.bs.length := (List.getElem?_eq_some_iff.1 hb).1
  have hne : docA t ≠ [] := by simpa using hD
  unfold keptOf
  rw [hb]
  simp only
  refine hull_eq (by simpa using hne) (fun x => ?_) (fun x hx => ?_)
  · rw [List.mem_filter, waysN_pos ht n hn, List.any_eq_true, List.mem_map]
    constructor
    · rintro ⟨_, l, hl, h⟩
      exact ⟨l, hl, by simpa using h⟩
    · rintro ⟨l, hl, rfl⟩
      exact ⟨truth_word ht hb hl, l, hl, by simp⟩
  · obtain ⟨l, hl, rfl⟩ := List.mem_map.1 hx
    have := canL_mem ht (List.mem_of_getElem? hb) (truth_word ht hb hl)
    omega

theorem Kept_eq (t : Tw) (i : Int) : specKept t i = docKept t i := by
  unfold specKept docKept
  cases hok : t.ok
  · rfl
  · have ht := (Tw.ok_iff t).1 hok
    cases hB : t.isB i
    · rfl
    · obtain ⟨n, b, rfl, hb⟩ := isB_get hB
      rw [isT_eq ht]
      cases hD : (docA t).isEmpty
      · rw [Int.toNat_natCast, keptOf_eq ht hb hD]; rfl
      · rfl

theorem maskOf_congr {p q : Nat → Bool} : ∀ k, (∀ i, i < k → p i = q i) → maskOf p k = maskOf q k
  | 0, _ => rfl
  | k + 1, h => by
    rw [maskOf, maskOf, maskOf_congr k fun i hi => h i (by omega), h k (by omega)]

theorem Who_eq (t : Tw) : specWho t = docWho t := by
  unfold specWho docWho
  cases hok : t.ok
  · rfl
  · have ht := (Tw.ok_iff t).1 hok
    rw [isT_eq ht]
    cases hD : (docA t).isEmpty
    · have hne : docA t ≠ [] := by simpa using hD
      have hk : ∀ i, i < t.bs.length → keptOf t i = hullD ((docA t).map fun l => l.getD i 0) := fun i hi => keptOf_eq ht (List.getElem?_eq_getElem hi) hD
      have h1 : maskOf (fun i => decide ((keptOf t i).1 > 0)) t.bs.length = maskOf (fun i => (docA t).all fun l => decide (l.getD i 0 > 0)) t.bs.length := by
        refine maskOf_congr _ fun i hi => ?_
        simp only [hk i hi]
        obtain ⟨a1, a2⟩ := hullD_min (l := (docA t).map fun l => l.getD i 0) (by simpa using hne)
        rw [Bool.eq_iff_iff, decide_eq_true_iff, List.all_eq_true]
        constructor
        · intro h l hl
          have := a2 _ (List.mem_map.2 ⟨l, hl, rfl⟩)
          simp only [decide_eq_true_iff]
          omega
        · intro h
          obtain ⟨l, hl, e⟩ := List.mem_map.1 a1
          rw [← e]
          exact of_decide_eq_true (h l hl)
      have h2 : maskOf (fun i => decide ((keptOf t i).2 > 0)) t.bs.length = maskOf (fun i => (docA t).any fun l => decide (l.getD i 0 > 0)) t.bs.length := by
        refine maskOf_congr _ fun i hi => ?_
        simp only [hk i hi]
        obtain ⟨a1, a2⟩ := hullD_max (l := (docA t).map fun l => l.getD i 0) (by simpa using hne)
        rw [Bool.eq_iff_iff, decide_eq_true_iff, List.any_eq_true]
        constructor
        · intro h
          obtain ⟨l, hl, e⟩ := List.mem_map.1 a1
          exact ⟨l, hl, by simp only [decide_eq_true_iff]; omega⟩
        · rintro ⟨l, hl, h⟩
          have h := of_decide_eq_true h
          have := a2 _ (List.mem_map.2 ⟨l, hl, rfl⟩)
          omega
      rw [h1, h2]; rfl
    · rfl

theorem All_eq (t : Tw) : specAll t = docAll t := by
  unfold specAll docAll
  cases hok : t.ok
  · rfl
  · have ht := (Tw.ok_iff t).1 hok
    rw [isT_eq ht]
    cases hD : (docA t).isEmpty
    · have hne : docA t ≠ [] := by simpa using hD
      have e : ((truthsA t (-1) 0 0).map fun l => totS (sumT t.bs l)) = (docA t).map fun l => l.sum := by
        rw [docA_eq ht]
        refine List.map_congr_left fun l hl => totS_sumT ht l (truthsA_mem ht hl).1
      rw [e]
      have hnb := ht.nb
      rw [hull_eq (by simpa using hne) (fun x => Iff.rfl) (fun x hx => ?_)]
      · rfl
      · obtain ⟨l, hl, rfl⟩ := List.mem_map.1 hx
        obtain ⟨h1, h2⟩ := docA_mem ht hl
        have : ∀ l : List Int, (∀ x ∈ l, 0 ≤ x ∧ x ≤ 4) → 0 ≤ l.sum ∧ l.sum ≤ 4 * l.length := by
          intro l
          induction l with
          | nil => intro _; simp
          | cons a l ih =>
            intro h
            have h1 := ih fun x hx => h x (List.mem_cons_of_mem _ hx)
            have h2 := h a (List.mem_cons_self ..)
            simp only [List.sum_cons, List.length_cons]
            omega
        have := this l h2
        omega
    · rfl

theorem Count_eq (t : Tw) : specCount t = docCount t := by
  unfold specCount docCount
  cases hok : t.ok
  · rfl
  · rw [docA_eq ((Tw.ok_iff t).1 hok)]
end Go.Proofs.Ytcpkkjbkbdmopaa
