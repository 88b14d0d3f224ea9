/- Proved here: laws that the statements need (BoC310, BoX2). No conditions but those that each law states. -/
import Derived.Test.YtafcdpmcmmfbhaaDoorFL
import Derived.Test.YtafcdpmcmmfbhaaDoorProg
import Derived.Test.YtafcdpmcmmfbhaaDoorBI

set_option linter.unusedSimpArgs false
set_option linter.unusedVariables false

/- Compiled code of functions, printed by program; each is checked to be the program's. No conditions. -/
namespace Go.Proofs.YtafcdpmcmmfbhaaDoor
open Go Go.Ab
/-- dipworks/dipworkslaw12.BoatSpeed -/
def c10 : AC :=
 .seq (.reg [⟨(some 4), none, .box (.tmp 0)⟩,
 ⟨(some 8), none, .mov (.lit (.bool false))⟩])
 (.seq (.seq (.reg [⟨(some 25), none, .load true 5 (.tmp 4)⟩,
 ⟨(some 26), none, .call (.fn 32) [(.tmp 25)]⟩,
 ⟨(some 27), none, .un .not (.tmp 26)⟩,
 ⟨(some 28), none, .mov (.tmp 27)⟩,
 ⟨(some 29), (some (28, false)), .faddr 4 (.tmp 4)⟩,
 ⟨(some 30), (some (28, false)), .load false 1 (.tmp 29)⟩,
 ⟨(some 31), (some (28, false)), .len (.tmp 30)⟩,
 ⟨(some 32), (some (28, false)), .bin .eql (.tmp 31) (.lit (.int .i64 0))⟩,
 ⟨(some 33), none, .pick (.tmp 28) (.lit (.bool true)) (.tmp 32)⟩])
 (.cond (.tmp 33) (.seq (.reg [⟨(some 34), none, .call (.fn 15) []⟩,
 ⟨(some 8), none, .mov (.tmp 34)⟩])
 (.ret))
 (.skip)))
 (.seq (.draw (.step ⟨(some 35), none, .mov (.tmp 1)⟩ (
 .step ⟨(some 36), none, .conv .i64 (.tmp 35)⟩ (
 .step ⟨(some 37), none, .faddr 4 (.tmp 4)⟩ (
 .step ⟨(some 38), none, .load false 1 (.tmp 37)⟩ (
 .step ⟨(some 39), none, .len (.tmp 38)⟩ (
 .step ⟨(some 40), none, .bin .rem (.tmp 36) (.tmp 39)⟩ (
 .step ⟨(some 41), none, .mov (.tmp 2)⟩ (
 .step ⟨(some 42), none, .conv .i64 (.tmp 41)⟩ (
 .step ⟨(some 43), none, .faddr 3 (.tmp 4)⟩ (
 .step ⟨(some 44), none, .load false 1 (.tmp 43)⟩ (
 .step ⟨(some 45), none, .bin .add (.tmp 44) (.lit (.int .i64 1))⟩ (
 .step ⟨(some 46), none, .bin .rem (.tmp 42) (.tmp 45)⟩ (
 .step ⟨(some 9), none, .mov (.tmp 40)⟩ (
 .step ⟨(some 10), none, .mov (.tmp 46)⟩ (
 .done))))))))))))))))
 (.seq (.reg [⟨(some 48), none, .load true 5 (.tmp 4)⟩,
 ⟨(some 49), none, .mov (.tmp 9)⟩,
 ⟨(some 50), none, .call (.fn 28) [(.tmp 48), (.tmp 49)]⟩,
 ⟨(some 47), none, .mov (.tmp 50)⟩,
 ⟨(some 51), none, .ext (.tmp 47) 0⟩,
 ⟨(some 52), none, .ext (.tmp 47) 1⟩,
 ⟨(some 11), none, .mov (.tmp 51)⟩,
 ⟨(some 12), none, .mov (.tmp 52)⟩])
 (.seq (.seq (.reg [⟨(some 53), none, .mov (.tmp 12)⟩,
 ⟨(some 54), none, .bin .neq (.tmp 53) (.lit (.int .i64 0))⟩,
 ⟨(some 55), none, .mov (.tmp 54)⟩,
 ⟨(some 56), (some (55, true)), .mov (.tmp 12)⟩,
 ⟨(some 57), (some (55, true)), .bin .neq (.tmp 56) (.lit (.int .i64 4))⟩,
 ⟨(some 58), (some (55, true)), .mov (.tmp 57)⟩,
 ⟨(some 59), (some (58, false)), .mov (.tmp 11)⟩,
 ⟨(some 60), (some (58, false)), .bin .neq (.tmp 59) (.lit (.int .i64 0))⟩,
 ⟨(some 61), (some (55, true)), .pick (.tmp 58) (.lit (.bool true)) (.tmp 60)⟩,
 ⟨(some 62), none, .pick (.tmp 55) (.tmp 61) (.lit (.bool false))⟩,
 ⟨(some 63), none, .mov (.tmp 62)⟩,
 ⟨(some 64), (some (63, false)), .mov (.tmp 11)⟩,
 ⟨(some 65), (some (63, false)), .bin .lss (.tmp 64) (.lit (.int .i64 0))⟩,
 ⟨(some 66), none, .pick (.tmp 63) (.lit (.bool true)) (.tmp 65)⟩,
 ⟨(some 67), none, .mov (.tmp 66)⟩,
 ⟨(some 68), (some (67, false)), .mov (.tmp 11)⟩,
 ⟨(some 69), (some (67, false)), .bin .gtr (.tmp 68) (.lit (.int .i64 3))⟩,
 ⟨(some 70), none, .pick (.tmp 67) (.lit (.bool true)) (.tmp 69)⟩])
 (.cond (.tmp 70) (.seq (.reg [⟨(some 8), none, .mov (.lit (.bool false))⟩])
 (.ret))
 (.skip)))
 (.seq (.reg [⟨(some 71), none, .load true 5 (.tmp 4)⟩,
 ⟨(some 13), none, .alloc [(.int .i64 0), (.int .i64 0), (.int .i64 0), (.int .i64 0), (.slice none 0 0)]⟩,
 ⟨none, none, .store 5 (.tmp 13) (.tmp 71)⟩])
 (.seq (.seq (.reg [⟨(some 72), none, .mov (.lit (.int .i64 0))⟩])
 (.block 0 (.loop (.seq (.reg [⟨(some 73), none, .bin .lss (.tmp 72) (.lit (.int .i64 4))⟩])
 (.seq (.cond (.tmp 73) (.skip)
 (.exit 0))
 (.seq (.block 1 (.seq (.reg [⟨(some 74), none, .mov (.tmp 72)⟩,
 ⟨(some 14), none, .mov (.tmp 74)⟩])
 (.seq (.reg [⟨(some 75), none, .mov (.tmp 14)⟩,
 ⟨(some 76), none, .faddr 2 (.tmp 13)⟩,
 ⟨none, none, .store 1 (.tmp 76) (.tmp 75)⟩])
 (.seq (.reg [⟨(some 78), none, .load true 5 (.tmp 13)⟩,
 ⟨(some 79), none, .mov (.tmp 9)⟩,
 ⟨(some 80), none, .mov (.tmp 10)⟩,
 ⟨(some 81), none, .call (.fn 37) [(.tmp 78), (.tmp 79), (.tmp 80)]⟩,
 ⟨(some 77), none, .mov (.tmp 81)⟩,
 ⟨(some 82), none, .ext (.tmp 77) 0⟩,
 ⟨(some 83), none, .ext (.tmp 77) 1⟩,
 ⟨(some 15), none, .mov (.tmp 82)⟩,
 ⟨(some 16), none, .mov (.tmp 83)⟩])
 (.seq (.reg [⟨(some 84), none, .mov (.tmp 16)⟩,
 ⟨(some 85), none, .mov (.tmp 12)⟩,
 ⟨(some 86), none, .bin .eql (.tmp 85) (.lit (.int .i64 0))⟩,
 ⟨(some 87), none, .mov (.tmp 86)⟩,
 ⟨(some 88), (some (87, true)), .mov (.tmp 14)⟩,
 ⟨(some 89), (some (87, true)), .mov (.tmp 11)⟩,
 ⟨(some 90), (some (87, true)), .bin .geq (.tmp 88) (.tmp 89)⟩,
 ⟨(some 91), none, .pick (.tmp 87) (.tmp 90) (.lit (.bool false))⟩,
 ⟨(some 92), none, .eqb true (.tmp 84) (.tmp 91)⟩])
 (.cond (.tmp 92) (.seq (.reg [⟨(some 8), none, .mov (.lit (.bool false))⟩])
 (.ret))
 (.skip)))))))
 (.reg [⟨(some 93), none, .bin .add (.tmp 72) (.lit (.int .i64 1))⟩,
 ⟨(some 72), none, .mov (.tmp 93)⟩])))))))
 (.seq (.reg [⟨(some 94), none, .faddr 2 (.tmp 4)⟩,
 ⟨(some 95), none, .load false 1 (.tmp 94)⟩,
 ⟨(some 96), none, .mov (.tmp 3)⟩,
 ⟨(some 97), none, .conv .i64 (.tmp 96)⟩,
 ⟨(some 98), none, .bin .rem (.tmp 97) (.lit (.int .i64 3))⟩,
 ⟨(some 99), none, .bin .add (.tmp 95) (.tmp 98)⟩,
 ⟨(some 100), none, .mxmn false (.lit (.int .i64 3)) [(.tmp 99)]⟩,
 ⟨(some 101), none, .faddr 2 (.tmp 13)⟩,
 ⟨none, none, .store 1 (.tmp 101) (.tmp 100)⟩])
 (.seq (.reg [⟨(some 103), none, .load true 5 (.tmp 4)⟩,
 ⟨(some 104), none, .mov (.tmp 9)⟩,
 ⟨(some 105), none, .mov (.tmp 10)⟩,
 ⟨(some 106), none, .call (.fn 16) [(.tmp 103), (.tmp 104), (.tmp 105)]⟩,
 ⟨(some 102), none, .mov (.tmp 106)⟩,
 ⟨(some 107), none, .ext (.tmp 102) 0⟩,
 ⟨(some 108), none, .ext (.tmp 102) 1⟩,
 ⟨(some 17), none, .mov (.tmp 107)⟩,
 ⟨(some 18), none, .mov (.tmp 108)⟩])
 (.seq (.reg [⟨(some 110), none, .load true 5 (.tmp 13)⟩,
 ⟨(some 111), none, .mov (.tmp 9)⟩,
 ⟨(some 112), none, .mov (.tmp 10)⟩,
 ⟨(some 113), none, .call (.fn 16) [(.tmp 110), (.tmp 111), (.tmp 112)]⟩,
 ⟨(some 109), none, .mov (.tmp 113)⟩,
 ⟨(some 114), none, .ext (.tmp 109) 0⟩,
 ⟨(some 115), none, .ext (.tmp 109) 1⟩,
 ⟨(some 19), none, .mov (.tmp 114)⟩,
 ⟨(some 20), none, .mov (.tmp 115)⟩])
 (.seq (.reg [⟨(some 117), none, .load true 5 (.tmp 4)⟩,
 ⟨(some 118), none, .mov (.tmp 9)⟩,
 ⟨(some 119), none, .call (.fn 20) [(.tmp 117), (.tmp 118)]⟩,
 ⟨(some 116), none, .mov (.tmp 119)⟩,
 ⟨(some 120), none, .ext (.tmp 116) 0⟩,
 ⟨(some 121), none, .ext (.tmp 116) 1⟩,
 ⟨(some 21), none, .alloc [(.int .i64 0), (.int .i64 0)]⟩,
 ⟨none, none, .store 2 (.tmp 21) (.tmp 120)⟩,
 ⟨(some 22), none, .mov (.tmp 121)⟩])
 (.seq (.reg [⟨(some 123), none, .load true 5 (.tmp 13)⟩,
 ⟨(some 124), none, .mov (.tmp 9)⟩,
 ⟨(some 125), none, .call (.fn 20) [(.tmp 123), (.tmp 124)]⟩,
 ⟨(some 122), none, .mov (.tmp 125)⟩,
 ⟨(some 126), none, .ext (.tmp 122) 0⟩,
 ⟨(some 127), none, .ext (.tmp 122) 1⟩,
 ⟨(some 23), none, .alloc [(.int .i64 0), (.int .i64 0)]⟩,
 ⟨none, none, .store 2 (.tmp 23) (.tmp 126)⟩,
 ⟨(some 24), none, .mov (.tmp 127)⟩])
 (.seq (.reg [⟨(some 128), none, .mov (.tmp 18)⟩,
 ⟨(some 129), none, .bin .neq (.tmp 128) (.lit (.int .i64 0))⟩,
 ⟨(some 130), none, .mov (.tmp 129)⟩,
 ⟨(some 131), (some (130, false)), .mov (.tmp 20)⟩,
 ⟨(some 132), (some (130, false)), .bin .eql (.tmp 131) (.lit (.int .i64 0))⟩,
 ⟨(some 133), (some (130, false)), .mov (.tmp 132)⟩,
 ⟨(some 134), (some (133, true)), .mov (.tmp 17)⟩,
 ⟨(some 135), (some (133, true)), .mov (.tmp 19)⟩,
 ⟨(some 136), (some (133, true)), .bin .andNot (.tmp 134) (.tmp 135)⟩,
 ⟨(some 137), (some (133, true)), .bin .eql (.tmp 136) (.lit (.int .i64 0))⟩,
 ⟨(some 138), (some (130, false)), .pick (.tmp 133) (.tmp 137) (.lit (.bool false))⟩,
 ⟨(some 139), (some (130, false)), .mov (.tmp 138)⟩,
 ⟨(some 140), (some (139, true)), .mov (.tmp 22)⟩,
 ⟨(some 141), (some (139, true)), .bin .eql (.tmp 140) (.lit (.int .i64 0))⟩,
 ⟨(some 142), (some (130, false)), .pick (.tmp 139) (.tmp 141) (.lit (.bool false))⟩,
 ⟨(some 143), (some (130, false)), .mov (.tmp 142)⟩,
 ⟨(some 144), (some (143, true)), .mov (.tmp 24)⟩,
 ⟨(some 145), (some (143, true)), .bin .eql (.tmp 144) (.lit (.int .i64 0))⟩,
 ⟨(some 146), (some (130, false)), .pick (.tmp 143) (.tmp 145) (.lit (.bool false))⟩,
 ⟨(some 147), (some (130, false)), .mov (.tmp 146)⟩,
 ⟨(some 148), (some (147, true)), .faddr 0 (.tmp 23)⟩,
 ⟨(some 149), (some (147, true)), .load false 1 (.tmp 148)⟩,
 ⟨(some 150), (some (147, true)), .faddr 0 (.tmp 21)⟩,
 ⟨(some 151), (some (147, true)), .load false 1 (.tmp 150)⟩,
 ⟨(some 152), (some (147, true)), .bin .leq (.tmp 149) (.tmp 151)⟩,
 ⟨(some 153), (some (130, false)), .pick (.tmp 147) (.tmp 152) (.lit (.bool false))⟩,
 ⟨(some 154), (some (130, false)), .mov (.tmp 153)⟩,
 ⟨(some 155), (some (154, true)), .faddr 1 (.tmp 23)⟩,
 ⟨(some 156), (some (154, true)), .load false 1 (.tmp 155)⟩,
 ⟨(some 157), (some (154, true)), .faddr 1 (.tmp 21)⟩,
 ⟨(some 158), (some (154, true)), .load false 1 (.tmp 157)⟩,
 ⟨(some 159), (some (154, true)), .bin .geq (.tmp 156) (.tmp 158)⟩,
 ⟨(some 160), (some (130, false)), .pick (.tmp 154) (.tmp 159) (.lit (.bool false))⟩,
 ⟨(some 161), none, .pick (.tmp 130) (.lit (.bool true)) (.tmp 160)⟩,
 ⟨(some 162), none, .mov (.tmp 161)⟩,
 ⟨(some 163), (some (162, true)), .call (.fn 15) []⟩,
 ⟨(some 164), none, .pick (.tmp 162) (.tmp 163) (.lit (.bool false))⟩,
 ⟨(some 8), none, .mov (.tmp 164)⟩])
 (.ret)))))))))))))
theorem k10 : FnC Tryd.prog 10 165 [] [] [.tmp 8] c10 4 := ⟨Tryd.f10, _, Tryd.func10, rfl, by decide, rfl, by decide, by kernel_rfl, by kernel_rfl⟩
end Go.Proofs.YtafcdpmcmmfbhaaDoor

/- BoatSpeed. -/
namespace Go.Proofs.YtafcdpmcmmfbhaaDoor
open Go Go.Ab

theorem mod_nat (a n : Nat) : (a : Int).tmod (n : Int) = ((a % n : Nat) : Int) := by rw [Int.tmod_eq_emod_of_nonneg (by omega)]; rfl
theorem sub_andNot {a c : Nat} (ha : a < 9223372036854775808) (hc : c < 9223372036854775808) (h : ∀ p, a.testBit p = true → c.testBit p = true) : (bits .andNot .i64 (a : Int) (c : Int) == 0) = true := by
  rw [bits_andNot ha hc, beq_iff_eq]
  have : ndiff a c = 0 := by
    apply Nat.eq_of_testBit_eq
    intro i
    rw [ndiff_bit, Nat.zero_testBit]
    cases h1 : a.testBit i
    · rfl
    · rw [h i h1]; rfl
  rw [this]; rfl
def spP (r : Option Nat) : Int × Int := match r with | some n => ((n : Nat), 0) | none => (0, 4)
def Sp1 (b : Bo) (n m v : Nat) (st : St) : Prop := lk st.env 3 = .t (.lit (.int .u8 v)) ∧ lk st.env 4 = .ptr 0 0 ∧ lk st.env 9 = .t (vi n) ∧ lk st.env 10 = .t (vi m) ∧ lk st.env 11 = .t (vi (spP (speedR b n)).1) ∧ lk st.env 12 = .t (vi (spP (speedR b n)).2) ∧ st.σ = [.cells ((bo5 b).map .t)] ∧ st.df = [] ∧ st.k = 0
def Sp2 (b : Bo) (n m v : Nat) (st : St) : Prop := lk st.env 3 = .t (.lit (.int .u8 v)) ∧ lk st.env 4 = .ptr 0 0 ∧ lk st.env 9 = .t (vi n) ∧ lk st.env 10 = .t (vi m) ∧ lk st.env 13 = .ptr 1 0 ∧ (∃ z : Int, st.σ = [.cells ((bo5 b).map .t), .cells ((bo5 { b with speed := z }).map .t)]) ∧ st.df = [] ∧ st.k = 0
set_option maxRecDepth 8000 in
set_option maxHeartbeats 8000000 in
theorem BoatSpeed_ok (b : Bo) (hL : Lens b) (u : Nat) (hu : u < 256) (w : Nat) (hw : w < 256) (v : Nat) (hv : v < 256) : ACall Tryd.prog 10 [.t (.agg (bo5 b)), .t (.lit (.int .u8 u)), .t (.lit (.int .u8 w)), .t (.lit (.int .u8 v))] [] (res (.ret (.t (vb true)))) := by
  refine ACall.walk k10 ?_
  have h32 := fine_ok b hL
  unfold c10
  refine awpL_chop 5 (c1 := ?a1) (c2 := ?a2) (fun st => b.OK ∧ ∃ n m : Nat, n < b.seen.length ∧ m ≤ b.L ∧ Sp1 b n m v st) ?hc ?_ ?_
  case hc => simp only [chop]; rfl
  · unfold bo5 at h32 ⊢
    simp only [go_sem, Nat.reduceEqDiff, Nat.reduceAdd, Nat.reduceSub, Nat.reduceMul, Nat.reduceLT, Nat.reduceLeDiff, Nat.reduceMod, Nat.reduceDiv, Int.reduceToNat, Int.reduceLT, Int.reduceLE, Bool.not_true, Bool.not_false, reduceIte, Int.reduceEq, Int.reduceBEq, Int.reduceBNe, Int.reduceGT, Int.reduceGE, Int.reduceNeg, Int.reduceAdd, Int.reduceSub, Nat.reduceBEq, decide_true, decide_false, undef, beq_self_eq_true, bne_self_eq_false, Bool.and_true, Bool.true_and, Bool.and_false, Bool.false_and, Bool.or_true, Bool.true_or, Bool.or_false, Bool.false_or]
    refine ACallL.quiet1 h32 rfl rfl rfl ?_
    cases hF : fineB b
    · simp only [go_sem, Nat.reduceEqDiff, Nat.reduceAdd, Nat.reduceSub, Nat.reduceMul, Nat.reduceLT, Nat.reduceLeDiff, Nat.reduceMod, Nat.reduceDiv, Int.reduceToNat, Int.reduceLT, Int.reduceLE, Bool.not_true, Bool.not_false, reduceIte, Int.reduceEq, Int.reduceBEq, Int.reduceBNe, Int.reduceGT, Int.reduceGE, Int.reduceNeg, Int.reduceAdd, Int.reduceSub, Nat.reduceBEq, decide_true, decide_false, undef, beq_self_eq_true, bne_self_eq_false, Bool.and_true, Bool.true_and, Bool.and_false, Bool.false_and, Bool.or_true, Bool.true_or, Bool.or_false, Bool.false_or, undef]
      refine ACallL.quiet1 awake_ok rfl rfl rfl ?_
      simp only [go_sem, Nat.reduceEqDiff, Nat.reduceAdd, Nat.reduceSub, Nat.reduceMul, Nat.reduceLT, Nat.reduceLeDiff, Nat.reduceMod, Nat.reduceDiv, Int.reduceToNat, Int.reduceLT, Int.reduceLE, Bool.not_true, Bool.not_false, reduceIte, Int.reduceEq, Int.reduceBEq, Int.reduceBNe, Int.reduceGT, Int.reduceGE, Int.reduceNeg, Int.reduceAdd, Int.reduceSub, Nat.reduceBEq, decide_true, decide_false, undef, beq_self_eq_true, bne_self_eq_false, Bool.and_true, Bool.true_and, Bool.and_false, Bool.false_and, Bool.or_true, Bool.true_or, Bool.or_false, Bool.false_or, undef]
      exact finL_ret [] ⟨rfl, rfl, rfl, rfl, _, rfl, res_mk rfl⟩
    obtain ⟨hok, hb⟩ := fine_iff hF
    have hnh := hb.num
    simp only [go_sem, Nat.reduceEqDiff, Nat.reduceAdd, Nat.reduceSub, Nat.reduceMul, Nat.reduceLT, Nat.reduceLeDiff, Nat.reduceMod, Nat.reduceDiv, Int.reduceToNat, Int.reduceLT, Int.reduceLE, Bool.not_true, Bool.not_false, reduceIte, Int.reduceEq, Int.reduceBEq, Int.reduceBNe, Int.reduceGT, Int.reduceGE, Int.reduceNeg, Int.reduceAdd, Int.reduceSub, Nat.reduceBEq, decide_true, decide_false, undef, beq_self_eq_true, bne_self_eq_false, Bool.and_true, Bool.true_and, Bool.and_false, Bool.false_and, Bool.or_true, Bool.true_or, Bool.or_false, Bool.false_or, undef, List.length_map]
    cases h0 : ((b.seen.length : Int) == 0)
    rotate_left
    · simp only [go_sem, Nat.reduceEqDiff, Nat.reduceAdd, Nat.reduceSub, Nat.reduceMul, Nat.reduceLT, Nat.reduceLeDiff, Nat.reduceMod, Nat.reduceDiv, Int.reduceToNat, Int.reduceLT, Int.reduceLE, Bool.not_true, Bool.not_false, reduceIte, Int.reduceEq, Int.reduceBEq, Int.reduceBNe, Int.reduceGT, Int.reduceGE, Int.reduceNeg, Int.reduceAdd, Int.reduceSub, Nat.reduceBEq, decide_true, decide_false, undef, beq_self_eq_true, bne_self_eq_false, Bool.and_true, Bool.true_and, Bool.and_false, Bool.false_and, Bool.or_true, Bool.true_or, Bool.or_false, Bool.false_or, undef, h0]
      refine ACallL.quiet1 awake_ok rfl rfl rfl ?_
      simp only [go_sem, Nat.reduceEqDiff, Nat.reduceAdd, Nat.reduceSub, Nat.reduceMul, Nat.reduceLT, Nat.reduceLeDiff, Nat.reduceMod, Nat.reduceDiv, Int.reduceToNat, Int.reduceLT, Int.reduceLE, Bool.not_true, Bool.not_false, reduceIte, Int.reduceEq, Int.reduceBEq, Int.reduceBNe, Int.reduceGT, Int.reduceGE, Int.reduceNeg, Int.reduceAdd, Int.reduceSub, Nat.reduceBEq, decide_true, decide_false, undef, beq_self_eq_true, bne_self_eq_false, Bool.and_true, Bool.true_and, Bool.and_false, Bool.false_and, Bool.or_true, Bool.true_or, Bool.or_false, Bool.false_or, undef]
      exact finL_ret [] ⟨rfl, rfl, rfl, rfl, _, rfl, res_mk rfl⟩
    have n0 : ¬ ((b.seen.length : Int) = 0) := by simpa using h0
    have ha : u % b.seen.length < b.seen.length := Nat.mod_lt _ (by omega)
    have hLb := hb.L
    have hm : w % (b.L + 1) ≤ b.L := by have := Nat.mod_lt w (show 0 < b.L + 1 by omega); omega
    have t1 := mod_nat u b.seen.length
    have t2 := mod_nat w (b.L + 1)
    have w0 : IntKind.i64.wrap (u : Int) = u := wrap_id (by omega) (by omega)
    have w1 : IntKind.i64.wrap (w : Int) = w := wrap_id (by omega) (by omega)
    have w2 : IntKind.i64.wrap (b.last + 1) = ((b.L + 1 : Nat) : Int) := by rw [wrap_id (by omega) (by omega)]; omega
    have n1 : ¬ (((b.L + 1 : Nat) : Int) = 0) := by omega
    have h28 := Speed_ok b hL (u % b.seen.length : Nat)
    rw [specSpeed_ok hb ha] at h28
    have hsp := speedR_spec hb (u % b.seen.length)
    generalize u % b.seen.length = n at *
    generalize w % (b.L + 1) = m at *
    generalize hr : speedR b n = r at *
    simp only [go_sem, Nat.reduceEqDiff, Nat.reduceAdd, Nat.reduceSub, Nat.reduceMul, Nat.reduceLT, Nat.reduceLeDiff, Nat.reduceMod, Nat.reduceDiv, Int.reduceToNat, Int.reduceLT, Int.reduceLE, Bool.not_true, Bool.not_false, reduceIte, Int.reduceEq, Int.reduceBEq, Int.reduceBNe, Int.reduceGT, Int.reduceGE, Int.reduceNeg, Int.reduceAdd, Int.reduceSub, Nat.reduceBEq, decide_true, decide_false, undef, beq_self_eq_true, bne_self_eq_false, Bool.and_true, Bool.true_and, Bool.and_false, Bool.false_and, Bool.or_true, Bool.true_or, Bool.or_false, Bool.false_or, undef, List.length_map, h0, n0, w0, w1, w2, n1, t1, t2]
    cases r with
    | none =>
      simp only [oneE, bo5] at h28
      refine ACallL.quiet1 h28 rfl rfl rfl ?_
      simp only [go_sem, Nat.reduceEqDiff, Nat.reduceAdd, Nat.reduceSub, Nat.reduceMul, Nat.reduceLT, Nat.reduceLeDiff, Nat.reduceMod, Nat.reduceDiv, Int.reduceToNat, Int.reduceLT, Int.reduceLE, Bool.not_true, Bool.not_false, reduceIte, Int.reduceEq, Int.reduceBEq, Int.reduceBNe, Int.reduceGT, Int.reduceGE, Int.reduceNeg, Int.reduceAdd, Int.reduceSub, Nat.reduceBEq, decide_true, decide_false, undef, beq_self_eq_true, bne_self_eq_false, Bool.and_true, Bool.true_and, Bool.and_false, Bool.false_and, Bool.or_true, Bool.true_or, Bool.or_false, Bool.false_or, undef]
      exact ⟨hb, n, m, ha, hm, rfl, rfl, rfl, rfl, by rw [hr]; rfl, by rw [hr]; rfl, rfl, rfl, rfl⟩
    | some k =>
      have g1 : decide ((k : Int) < 0) = false := by simp
      have g2 : decide ((k : Int) > 3) = false := by have := hsp.1; simp; omega
      simp only [oneE, bo5] at h28
      refine ACallL.quiet1 h28 rfl rfl rfl ?_
      simp only [go_sem, Nat.reduceEqDiff, Nat.reduceAdd, Nat.reduceSub, Nat.reduceMul, Nat.reduceLT, Nat.reduceLeDiff, Nat.reduceMod, Nat.reduceDiv, Int.reduceToNat, Int.reduceLT, Int.reduceLE, Bool.not_true, Bool.not_false, reduceIte, Int.reduceEq, Int.reduceBEq, Int.reduceBNe, Int.reduceGT, Int.reduceGE, Int.reduceNeg, Int.reduceAdd, Int.reduceSub, Nat.reduceBEq, decide_true, decide_false, undef, beq_self_eq_true, bne_self_eq_false, Bool.and_true, Bool.true_and, Bool.and_false, Bool.false_and, Bool.or_true, Bool.true_or, Bool.or_false, Bool.false_or, undef, g1, g2]
      exact ⟨hb, n, m, ha, hm, rfl, rfl, rfl, rfl, by rw [hr]; rfl, by rw [hr]; rfl, rfl, rfl, rfl⟩
  clear h32
  rintro ⟨env, σ, df, k⟩ ⟨hb, n, m, hn, hm, q3, q4, q9, q10, q11, q12, hσ, hdf, hk⟩
  simp only at q3 q4 q9 q10 q11 q12 hσ hdf hk
  subst hσ hdf hk
  refine awpL_chop 2 (c1 := ?b1) (c2 := ?b2) (Sp2 b n m v) ?hc2 ?_ ?_
  case hc2 => simp only [chop]; rfl
  · have hsp := speedR_spec hb n
    have hset := fun (k : Nat) (hk : k ≤ 3) => set_ok (withSp b k) hL (withSp_OK hb hk) n m hn hm
    have hcan := fun (k : Nat) (hk : k ≤ 3) => can_speed hb hk n
    unfold bo5
    simp only [go_sem, Nat.reduceEqDiff, Nat.reduceAdd, Nat.reduceSub, Nat.reduceMul, Nat.reduceLT, Nat.reduceLeDiff, Nat.reduceMod, Nat.reduceDiv, Int.reduceToNat, Int.reduceLT, Int.reduceLE, Bool.not_true, Bool.not_false, reduceIte, Int.reduceEq, Int.reduceBEq, Int.reduceBNe, Int.reduceGT, Int.reduceGE, Int.reduceNeg, Int.reduceAdd, Int.reduceSub, Nat.reduceBEq, decide_true, decide_false, undef, beq_self_eq_true, bne_self_eq_false, Bool.and_true, Bool.true_and, Bool.and_false, Bool.false_and, Bool.or_true, Bool.true_or, Bool.or_false, Bool.false_or, q3, q4, q9, q10, q11, q12]
    refine awpL_forC (i := 72) 4 rfl (fun j st => ∃ z : Int, st = { env := [(72, .t (vi j)), (13, .ptr 1 0), (3, .t (.lit (.int .u8 v))), (4, .ptr 0 0), (9, .t (vi n)), (10, .t (vi m)), (11, .t (vi (spP (speedR b n)).1)), (12, .t (vi (spP (speedR b n)).2))], σ := [.cells ((bo5 b).map .t), .cells ((bo5 { b with speed := z }).map .t)] }) ?_ ⟨_, Sub.gc [0, 1] [72, 13, 3, 4, 9, 10, 11, 12] rfl rfl, b.speed, ?_⟩ ?_ ?_
    · rintro k st ⟨_, rfl⟩; exact rfl
    · exact St.gc_mk (by simp only [List.map_cons, List.map_nil, lk, Nat.reduceEqDiff, reduceIte, q3, q4, q9, q10, q11, q12]; rfl) rfl rfl rfl
    · rintro j st hj ⟨z, rfl⟩
      have hwj : IntKind.i64.wrap ((j : Int) + 1) = ((j + 1 : Nat) : Int) := by rw [wrap_id (by omega) (by omega)]; omega
      have h37 := hset j (by omega)
      have hc := hcan j (by omega)
      rw [hc] at h37
      generalize tN (placesL (canN (withSp b j) n m) (withSp b j).N) = pl at *
      generalize speedR b n = r at *
      simp only [bo5] at h37
      simp only [bo5, go_sem, Nat.reduceEqDiff, Nat.reduceAdd, Nat.reduceSub, Nat.reduceMul, Nat.reduceLT, Nat.reduceLeDiff, Nat.reduceMod, Nat.reduceDiv, Int.reduceToNat, Int.reduceLT, Int.reduceLE, Bool.not_true, Bool.not_false, reduceIte, Int.reduceEq, Int.reduceBEq, Int.reduceBNe, Int.reduceGT, Int.reduceGE, Int.reduceNeg, Int.reduceAdd, Int.reduceSub, Nat.reduceBEq, decide_true, decide_false, undef, beq_self_eq_true, bne_self_eq_false, Bool.and_true, Bool.true_and, Bool.and_false, Bool.false_and, Bool.or_true, Bool.true_or, Bool.or_false, Bool.false_or, undef, hwj]
      cases r with
      | none =>
        rw [hsp j (by omega)] at h37
        refine ACallL.fresh1 h37 rfl ?_
        simp only [spP, go_sem, Nat.reduceEqDiff, Nat.reduceAdd, Nat.reduceSub, Nat.reduceMul, Nat.reduceLT, Nat.reduceLeDiff, Nat.reduceMod, Nat.reduceDiv, Int.reduceToNat, Int.reduceLT, Int.reduceLE, Bool.not_true, Bool.not_false, reduceIte, Int.reduceEq, Int.reduceBEq, Int.reduceBNe, Int.reduceGT, Int.reduceGE, Int.reduceNeg, Int.reduceAdd, Int.reduceSub, Nat.reduceBEq, decide_true, decide_false, undef, beq_self_eq_true, bne_self_eq_false, Bool.and_true, Bool.true_and, Bool.and_false, Bool.false_and, Bool.or_true, Bool.true_or, Bool.or_false, Bool.false_or, undef, hwj]
        exact ⟨_, Sub.gc [0, 1] [72, 13, 3, 4, 9, 10, 11, 12] rfl rfl, j, rfl⟩
      | some k =>
        rw [hsp.2 j (by omega)] at h37
        have hd : decide ((j : Int) ≥ (k : Int)) = decide (k ≤ j) := decide_eq_decide.2 (by omega)
        refine ACallL.fresh1 h37 rfl ?_
        simp only [spP, go_sem, Nat.reduceEqDiff, Nat.reduceAdd, Nat.reduceSub, Nat.reduceMul, Nat.reduceLT, Nat.reduceLeDiff, Nat.reduceMod, Nat.reduceDiv, Int.reduceToNat, Int.reduceLT, Int.reduceLE, Bool.not_true, Bool.not_false, reduceIte, Int.reduceEq, Int.reduceBEq, Int.reduceBNe, Int.reduceGT, Int.reduceGE, Int.reduceNeg, Int.reduceAdd, Int.reduceSub, Nat.reduceBEq, decide_true, decide_false, undef, beq_self_eq_true, bne_self_eq_false, Bool.and_true, Bool.true_and, Bool.and_false, Bool.false_and, Bool.or_true, Bool.true_or, Bool.or_false, Bool.false_or, undef, hwj, hd]
        cases hkj : decide (k ≤ j)
        · exact ⟨_, Sub.gc [0, 1] [72, 13, 3, 4, 9, 10, 11, 12] rfl rfl, j, rfl⟩
        · exact ⟨_, Sub.gc [0, 1] [72, 13, 3, 4, 9, 10, 11, 12] rfl rfl, j, rfl⟩
    · rintro st ⟨z, rfl⟩
      simp only [go_sem, Nat.reduceEqDiff, Nat.reduceAdd, Nat.reduceSub, Nat.reduceMul, Nat.reduceLT, Nat.reduceLeDiff, Nat.reduceMod, Nat.reduceDiv, Int.reduceToNat, Int.reduceLT, Int.reduceLE, Bool.not_true, Bool.not_false, reduceIte, Int.reduceEq, Int.reduceBEq, Int.reduceBNe, Int.reduceGT, Int.reduceGE, Int.reduceNeg, Int.reduceAdd, Int.reduceSub, Nat.reduceBEq, decide_true, decide_false, undef, beq_self_eq_true, bne_self_eq_false, Bool.and_true, Bool.true_and, Bool.and_false, Bool.false_and, Bool.or_true, Bool.true_or, Bool.or_false, Bool.false_or, undef]
      exact ⟨rfl, rfl, rfl, rfl, rfl, ⟨z, rfl⟩, rfl, rfl⟩
  rintro ⟨env, σ, df, k⟩ ⟨q3, q4, q9, q10, q13, ⟨z, hσ⟩, hdf, hk⟩
  simp only at q3 q4 q9 q10 q13 hσ hdf hk
  subst hσ hdf hk
  have hsp0 := hb.speed
  have w0 : IntKind.i64.wrap (v : Int) = v := wrap_id (by omega) (by omega)
  have t1 : (v : Int).tmod 3 = ((v % 3 : Nat) : Int) := mod_nat v 3
  have w1 : IntKind.i64.wrap (b.speed + ((v % 3 : Nat) : Int)) = b.speed + ((v % 3 : Nat) : Int) := wrap_id (by omega) (by omega)
  obtain ⟨K, hK, hK3, hKs⟩ : ∃ K : Nat, min 3 (b.speed + ((v % 3 : Nat) : Int)) = K ∧ K ≤ 3 ∧ b.speed ≤ K := ⟨(min 3 (b.speed + ((v % 3 : Nat) : Int))).toNat, by omega, by omega, by omega⟩
  have hx := withSp_OK hb hK3
  have hLe := less_speed hb hK3 hKs n
  have hT := hLe.told hb hx
  have hA := hLe.at' hb hx hm
  have hHi := hLe.hi hb hx
  have hLo := hLe.lo hb hx
  have h16 := Can_ok b hL n m
  have h16' := Can_ok (withSp b K) hL n m
  have h20 := Nearest_ok b hL n
  have h20' := Nearest_ok (withSp b K) hL n
  rw [specCan_ok ((b.ok_iff).2 hb) hn hm hb] at h16
  rw [specCan_ok (((withSp b K).ok_iff).2 hx) hn hm hx] at h16'
  rw [specNearest_ok hb hn] at h20
  rw [specNearest_ok hx hn] at h20'
  have hc1 : canM b n m < 9223372036854775808 := Nat.lt_of_lt_of_le (canM_lt hb n m) (by decide)
  have hc2 : canM (withSp b K) n m < 9223372036854775808 := Nat.lt_of_lt_of_le (canM_lt hx n m) (by decide)
  unfold canN at h16 h16'
  unfold nearS at h20 h20'
  generalize canM b n m = C at *
  generalize canM (withSp b K) n m = C' at *
  generalize nearHi b n = H at *
  generalize nearHi (withSp b K) n = H' at *
  generalize loR b (nearAll b n) = l at *
  generalize loR (withSp b K) (nearAll (withSp b K) n) = l' at *
  generalize isT b n = is at *
  generalize isT (withSp b K) n = is' at *
  simp only [oneE, spanE, tSp, bo5] at h16 h16' h20 h20'
  unfold bo5
  simp only [go_sem, Nat.reduceEqDiff, Nat.reduceAdd, Nat.reduceSub, Nat.reduceMul, Nat.reduceLT, Nat.reduceLeDiff, Nat.reduceMod, Nat.reduceDiv, Int.reduceToNat, Int.reduceLT, Int.reduceLE, Bool.not_true, Bool.not_false, reduceIte, Int.reduceEq, Int.reduceBEq, Int.reduceBNe, Int.reduceGT, Int.reduceGE, Int.reduceNeg, Int.reduceAdd, Int.reduceSub, Nat.reduceBEq, decide_true, decide_false, undef, beq_self_eq_true, bne_self_eq_false, Bool.and_true, Bool.true_and, Bool.and_false, Bool.false_and, Bool.or_true, Bool.true_or, Bool.or_false, Bool.false_or, q3, q4, q9, q10, q13, w0, t1, w1, hK]
  refine ACallL.quiet1 h16 rfl rfl rfl ?_
  simp only [go_sem, Nat.reduceEqDiff, Nat.reduceAdd, Nat.reduceSub, Nat.reduceMul, Nat.reduceLT, Nat.reduceLeDiff, Nat.reduceMod, Nat.reduceDiv, Int.reduceToNat, Int.reduceLT, Int.reduceLE, Bool.not_true, Bool.not_false, reduceIte, Int.reduceEq, Int.reduceBEq, Int.reduceBNe, Int.reduceGT, Int.reduceGE, Int.reduceNeg, Int.reduceAdd, Int.reduceSub, Nat.reduceBEq, decide_true, decide_false, undef, beq_self_eq_true, bne_self_eq_false, Bool.and_true, Bool.true_and, Bool.and_false, Bool.false_and, Bool.or_true, Bool.true_or, Bool.or_false, Bool.false_or, undef, q3, q4, q9, q10, q13]
  refine ACallL.quiet1 h16' rfl rfl rfl ?_
  simp only [go_sem, Nat.reduceEqDiff, Nat.reduceAdd, Nat.reduceSub, Nat.reduceMul, Nat.reduceLT, Nat.reduceLeDiff, Nat.reduceMod, Nat.reduceDiv, Int.reduceToNat, Int.reduceLT, Int.reduceLE, Bool.not_true, Bool.not_false, reduceIte, Int.reduceEq, Int.reduceBEq, Int.reduceBNe, Int.reduceGT, Int.reduceGE, Int.reduceNeg, Int.reduceAdd, Int.reduceSub, Nat.reduceBEq, decide_true, decide_false, undef, beq_self_eq_true, bne_self_eq_false, Bool.and_true, Bool.true_and, Bool.and_false, Bool.false_and, Bool.or_true, Bool.true_or, Bool.or_false, Bool.false_or, undef, q3, q4, q9, q10, q13]
  cases is
  · simp only [Bool.false_eq_true, if_false] at h20
    refine ACallL.quiet1 h20 rfl rfl rfl ?_
    simp only [go_sem, Nat.reduceEqDiff, Nat.reduceAdd, Nat.reduceSub, Nat.reduceMul, Nat.reduceLT, Nat.reduceLeDiff, Nat.reduceMod, Nat.reduceDiv, Int.reduceToNat, Int.reduceLT, Int.reduceLE, Bool.not_true, Bool.not_false, reduceIte, Int.reduceEq, Int.reduceBEq, Int.reduceBNe, Int.reduceGT, Int.reduceGE, Int.reduceNeg, Int.reduceAdd, Int.reduceSub, Nat.reduceBEq, decide_true, decide_false, undef, beq_self_eq_true, bne_self_eq_false, Bool.and_true, Bool.true_and, Bool.and_false, Bool.false_and, Bool.or_true, Bool.true_or, Bool.or_false, Bool.false_or, undef, q3, q4, q9, q10, q13]
    cases is'
    all_goals
      simp only [Bool.false_eq_true, if_false, if_true] at h20'
      refine ACallL.quiet1 h20' rfl rfl rfl ?_
      simp only [go_sem, Nat.reduceEqDiff, Nat.reduceAdd, Nat.reduceSub, Nat.reduceMul, Nat.reduceLT, Nat.reduceLeDiff, Nat.reduceMod, Nat.reduceDiv, Int.reduceToNat, Int.reduceLT, Int.reduceLE, Bool.not_true, Bool.not_false, reduceIte, Int.reduceEq, Int.reduceBEq, Int.reduceBNe, Int.reduceGT, Int.reduceGE, Int.reduceNeg, Int.reduceAdd, Int.reduceSub, Nat.reduceBEq, decide_true, decide_false, undef, beq_self_eq_true, bne_self_eq_false, Bool.and_true, Bool.true_and, Bool.and_false, Bool.false_and, Bool.or_true, Bool.true_or, Bool.or_false, Bool.false_or, undef]
      refine ACallL.quiet1 awake_ok rfl rfl rfl ?_
      simp only [go_sem, Nat.reduceEqDiff, Nat.reduceAdd, Nat.reduceSub, Nat.reduceMul, Nat.reduceLT, Nat.reduceLeDiff, Nat.reduceMod, Nat.reduceDiv, Int.reduceToNat, Int.reduceLT, Int.reduceLE, Bool.not_true, Bool.not_false, reduceIte, Int.reduceEq, Int.reduceBEq, Int.reduceBNe, Int.reduceGT, Int.reduceGE, Int.reduceNeg, Int.reduceAdd, Int.reduceSub, Nat.reduceBEq, decide_true, decide_false, undef, beq_self_eq_true, bne_self_eq_false, Bool.and_true, Bool.true_and, Bool.and_false, Bool.false_and, Bool.or_true, Bool.true_or, Bool.or_false, Bool.false_or, undef]
      exact finL_ret [] ⟨rfl, rfl, rfl, rfl, _, rfl, res_mk rfl⟩
  · have hi' := hT rfl
    subst hi'
    simp only [if_true] at h20 h20'
    refine ACallL.quiet1 h20 rfl rfl rfl ?_
    simp only [go_sem, Nat.reduceEqDiff, Nat.reduceAdd, Nat.reduceSub, Nat.reduceMul, Nat.reduceLT, Nat.reduceLeDiff, Nat.reduceMod, Nat.reduceDiv, Int.reduceToNat, Int.reduceLT, Int.reduceLE, Bool.not_true, Bool.not_false, reduceIte, Int.reduceEq, Int.reduceBEq, Int.reduceBNe, Int.reduceGT, Int.reduceGE, Int.reduceNeg, Int.reduceAdd, Int.reduceSub, Nat.reduceBEq, decide_true, decide_false, undef, beq_self_eq_true, bne_self_eq_false, Bool.and_true, Bool.true_and, Bool.and_false, Bool.false_and, Bool.or_true, Bool.true_or, Bool.or_false, Bool.false_or, undef, q3, q4, q9, q10, q13]
    refine ACallL.quiet1 h20' rfl rfl rfl ?_
    have hnd : (bits .andNot .i64 (C : Int) (C' : Int) == 0) = true := sub_andNot hc1 hc2 hA
    have g1 : decide ((l' : Int) ≤ (l : Int)) = true := decide_eq_true (by have := hLo rfl; omega)
    have g2 : decide ((H' : Int) ≥ (H : Int)) = true := decide_eq_true (by omega)
    simp only [go_sem, Nat.reduceEqDiff, Nat.reduceAdd, Nat.reduceSub, Nat.reduceMul, Nat.reduceLT, Nat.reduceLeDiff, Nat.reduceMod, Nat.reduceDiv, Int.reduceToNat, Int.reduceLT, Int.reduceLE, Bool.not_true, Bool.not_false, reduceIte, Int.reduceEq, Int.reduceBEq, Int.reduceBNe, Int.reduceGT, Int.reduceGE, Int.reduceNeg, Int.reduceAdd, Int.reduceSub, Nat.reduceBEq, decide_true, decide_false, undef, beq_self_eq_true, bne_self_eq_false, Bool.and_true, Bool.true_and, Bool.and_false, Bool.false_and, Bool.or_true, Bool.true_or, Bool.or_false, Bool.false_or, undef, hnd, g1, g2]
    refine ACallL.quiet1 awake_ok rfl rfl rfl ?_
    simp only [go_sem, Nat.reduceEqDiff, Nat.reduceAdd, Nat.reduceSub, Nat.reduceMul, Nat.reduceLT, Nat.reduceLeDiff, Nat.reduceMod, Nat.reduceDiv, Int.reduceToNat, Int.reduceLT, Int.reduceLE, Bool.not_true, Bool.not_false, reduceIte, Int.reduceEq, Int.reduceBEq, Int.reduceBNe, Int.reduceGT, Int.reduceGE, Int.reduceNeg, Int.reduceAdd, Int.reduceSub, Nat.reduceBEq, decide_true, decide_false, undef, beq_self_eq_true, bne_self_eq_false, Bool.and_true, Bool.true_and, Bool.and_false, Bool.false_and, Bool.or_true, Bool.true_or, Bool.or_false, Bool.false_or, undef]
    exact finL_ret [] ⟨rfl, rfl, rfl, rfl, _, rfl, res_mk rfl⟩
end Go.Proofs.YtafcdpmcmmfbhaaDoor
