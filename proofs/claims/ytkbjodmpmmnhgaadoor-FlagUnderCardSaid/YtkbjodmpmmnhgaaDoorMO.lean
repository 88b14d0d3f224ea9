/- Proved here: laws that the statements need (FlC38, FlX1). No conditions but those that each law states. -/
import Derived.Test.YtkbjodmpmmnhgaaDoorFL
import Derived.Test.YtkbjodmpmmnhgaaDoorProg
import Derived.Test.YtkbjodmpmmnhgaaDoorMN

set_option linter.unusedSimpArgs false
set_option linter.unusedVariables false

/- Compiled code of functions, printed by program; each is checked to be the program's. No conditions. -/
namespace Go.Proofs.YtkbjodmpmmnhgaaDoor
open Go Go.Ab
/-- dipworks/dipworkslaw10.FlagUnder -/
def c8 : AC :=
 .seq (.reg [⟨(some 3), none, .box (.tmp 0)⟩,
    ⟨(some 6), none, .mov (.lit (.bool false))⟩])
 (.seq (.seq (.reg [⟨(some 20), none, .load true 5 (.tmp 3)⟩,
     ⟨(some 21), none, .call (.fn 31) [(.tmp 20)]⟩,
     ⟨(some 22), none, .un .not (.tmp 21)⟩,
     ⟨(some 23), none, .mov (.tmp 22)⟩,
     ⟨(some 24), (some (23, false)), .faddr 3 (.tmp 3)⟩,
     ⟨(some 25), (some (23, false)), .load false 1 (.tmp 24)⟩,
     ⟨(some 26), (some (23, false)), .len (.tmp 25)⟩,
     ⟨(some 27), (some (23, false)), .bin .eql (.tmp 26) (.lit (.int .i64 0))⟩,
     ⟨(some 28), none, .pick (.tmp 23) (.lit (.bool true)) (.tmp 27)⟩])
  (.cond (.tmp 28) (.seq (.reg [⟨(some 29), none, .call (.fn 14) []⟩,
      ⟨(some 6), none, .mov (.tmp 29)⟩])
   (.ret))
    (.skip)))
 (.seq (.reg [⟨(some 30), none, .mov (.tmp 1)⟩,
    ⟨(some 31), none, .conv .i64 (.tmp 30)⟩,
    ⟨(some 32), none, .faddr 3 (.tmp 3)⟩,
    ⟨(some 33), none, .load false 1 (.tmp 32)⟩,
    ⟨(some 34), none, .len (.tmp 33)⟩,
    ⟨(some 35), none, .bin .rem (.tmp 31) (.tmp 34)⟩,
    ⟨(some 7), none, .mov (.tmp 35)⟩])
 (.seq (.reg [⟨(some 36), none, .mov (.tmp 7)⟩,
    ⟨(some 37), none, .bin .add (.tmp 36) (.lit (.int .i64 1))⟩,
    ⟨(some 38), none, .mov (.tmp 2)⟩,
    ⟨(some 39), none, .conv .i64 (.tmp 38)⟩,
    ⟨(some 40), none, .faddr 3 (.tmp 3)⟩,
    ⟨(some 41), none, .load false 1 (.tmp 40)⟩,
    ⟨(some 42), none, .len (.tmp 41)⟩,
    ⟨(some 43), none, .mov (.tmp 7)⟩,
    ⟨(some 44), none, .bin .sub (.tmp 42) (.tmp 43)⟩,
    ⟨(some 45), none, .bin .rem (.tmp 39) (.tmp 44)⟩,
    ⟨(some 46), none, .bin .add (.tmp 37) (.tmp 45)⟩,
    ⟨(some 8), none, .mov (.tmp 46)⟩])
 (.seq (.reg [⟨(some 48), none, .load true 5 (.tmp 3)⟩,
    ⟨(some 49), none, .call (.fn 17) [(.tmp 48)]⟩,
    ⟨(some 47), none, .mov (.tmp 49)⟩,
    ⟨(some 50), none, .ext (.tmp 47) 0⟩,
    ⟨(some 51), none, .ext (.tmp 47) 1⟩,
    ⟨(some 52), none, .ext (.tmp 47) 2⟩,
    ⟨(some 9), none, .mov (.tmp 50)⟩,
    ⟨(some 10), none, .mov (.tmp 51)⟩,
    ⟨(some 11), none, .mov (.tmp 52)⟩])
 (.seq (.reg [⟨(some 54), none, .load true 5 (.tmp 3)⟩,
    ⟨(some 55), none, .mov (.tmp 7)⟩,
    ⟨(some 56), none, .mov (.tmp 8)⟩,
    ⟨(some 57), none, .call (.fn 23) [(.tmp 54), (.tmp 55), (.tmp 56)]⟩,
    ⟨(some 53), none, .mov (.tmp 57)⟩,
    ⟨(some 58), none, .ext (.tmp 53) 0⟩,
    ⟨(some 59), none, .ext (.tmp 53) 1⟩,
    ⟨(some 12), none, .mov (.tmp 58)⟩,
    ⟨(some 13), none, .mov (.tmp 59)⟩])
 (.seq (.reg [⟨(some 61), none, .load true 5 (.tmp 3)⟩,
    ⟨(some 62), none, .mov (.tmp 7)⟩,
    ⟨(some 63), none, .call (.fn 25) [(.tmp 61), (.tmp 62)]⟩,
    ⟨(some 60), none, .mov (.tmp 63)⟩,
    ⟨(some 64), none, .ext (.tmp 60) 0⟩,
    ⟨(some 65), none, .ext (.tmp 60) 1⟩,
    ⟨(some 14), none, .mov (.tmp 64)⟩,
    ⟨(some 15), none, .mov (.tmp 65)⟩])
 (.seq (.seq (.reg [⟨(some 66), none, .mov (.tmp 11)⟩,
     ⟨(some 67), none, .bin .neq (.tmp 66) (.lit (.int .i64 0))⟩])
  (.cond (.tmp 67) (.seq (.reg [⟨(some 68), none, .mov (.tmp 11)⟩,
      ⟨(some 69), none, .bin .eql (.tmp 68) (.lit (.int .i64 10))⟩,
      ⟨(some 70), none, .mov (.tmp 69)⟩,
      ⟨(some 71), (some (70, true)), .mov (.tmp 13)⟩,
      ⟨(some 72), (some (70, true)), .mov (.tmp 11)⟩,
      ⟨(some 73), (some (70, true)), .bin .eql (.tmp 71) (.tmp 72)⟩,
      ⟨(some 74), none, .pick (.tmp 70) (.tmp 73) (.lit (.bool false))⟩,
      ⟨(some 75), none, .mov (.tmp 74)⟩,
      ⟨(some 76), (some (75, true)), .mov (.tmp 15)⟩,
      ⟨(some 77), (some (75, true)), .mov (.tmp 11)⟩,
      ⟨(some 78), (some (75, true)), .bin .eql (.tmp 76) (.tmp 77)⟩,
      ⟨(some 79), none, .pick (.tmp 75) (.tmp 78) (.lit (.bool false))⟩,
      ⟨(some 80), none, .mov (.tmp 79)⟩,
      ⟨(some 81), (some (80, true)), .mov (.tmp 12)⟩,
      ⟨(some 82), (some (80, true)), .bin .eql (.tmp 81) (.lit (.int .i64 0))⟩,
      ⟨(some 83), none, .pick (.tmp 80) (.tmp 82) (.lit (.bool false))⟩,
      ⟨(some 84), none, .mov (.tmp 83)⟩,
      ⟨(some 85), (some (84, true)), .mov (.tmp 14)⟩,
      ⟨(some 86), (some (84, true)), .bin .eql (.tmp 85) (.lit (.int .i64 0))⟩,
      ⟨(some 87), none, .pick (.tmp 84) (.tmp 86) (.lit (.bool false))⟩,
      ⟨(some 88), none, .mov (.tmp 87)⟩,
      ⟨(some 89), (some (88, true)), .call (.fn 14) []⟩,
      ⟨(some 90), none, .pick (.tmp 88) (.tmp 89) (.lit (.bool false))⟩,
      ⟨(some 6), none, .mov (.tmp 90)⟩])
   (.ret))
    (.skip)))
 (.seq (.seq (.reg [⟨(some 91), none, .mov (.tmp 13)⟩,
     ⟨(some 92), none, .bin .neq (.tmp 91) (.lit (.int .i64 0))⟩,
     ⟨(some 93), none, .mov (.tmp 92)⟩,
     ⟨(some 94), (some (93, false)), .mov (.tmp 12)⟩,
     ⟨(some 95), (some (93, false)), .bin .lss (.tmp 94) (.lit (.int .i64 0))⟩,
     ⟨(some 96), none, .pick (.tmp 93) (.lit (.bool true)) (.tmp 95)⟩,
     ⟨(some 97), none, .mov (.tmp 96)⟩,
     ⟨(some 98), (some (97, false)), .mov (.tmp 12)⟩,
     ⟨(some 99), (some (97, false)), .bin .gtr (.tmp 98) (.lit (.int .i64 2))⟩,
     ⟨(some 100), none, .pick (.tmp 97) (.lit (.bool true)) (.tmp 99)⟩])
  (.cond (.tmp 100) (.seq (.reg [⟨(some 6), none, .mov (.lit (.bool false))⟩])
   (.ret))
    (.skip)))
 (.seq (.draw (.step ⟨(some 101), none, .mov (.tmp 8)⟩ (
    .step ⟨(some 102), none, .bin .shl (.lit (.int .i64 1)) (.tmp 101)⟩ (
    .step ⟨(some 103), none, .mov (.tmp 7)⟩ (
    .step ⟨(some 104), none, .bin .shl (.lit (.int .i64 1)) (.tmp 103)⟩ (
    .step ⟨(some 105), none, .bin .sub (.tmp 102) (.tmp 104)⟩ (
    .step ⟨(some 16), none, .mov (.tmp 105)⟩ (
    .done))))))))
 (.seq (.seq (.reg [⟨(some 106), none, .mov (.tmp 9)⟩,
     ⟨(some 107), none, .mov (.tmp 16)⟩,
     ⟨(some 108), none, .bin .and (.tmp 106) (.tmp 107)⟩,
     ⟨(some 109), none, .bin .neq (.tmp 108) (.lit (.int .i64 0))⟩,
     ⟨(some 110), none, .mov (.tmp 109)⟩,
     ⟨(some 111), (some (110, true)), .mov (.tmp 12)⟩,
     ⟨(some 112), (some (110, true)), .bin .neq (.tmp 111) (.lit (.int .i64 2))⟩,
     ⟨(some 113), none, .pick (.tmp 110) (.tmp 112) (.lit (.bool false))⟩,
     ⟨(some 114), none, .mov (.tmp 113)⟩,
     ⟨(some 115), (some (114, false)), .mov (.tmp 10)⟩,
     ⟨(some 116), (some (114, false)), .mov (.tmp 16)⟩,
     ⟨(some 117), (some (114, false)), .bin .and (.tmp 115) (.tmp 116)⟩,
     ⟨(some 118), (some (114, false)), .bin .eql (.tmp 117) (.lit (.int .i64 0))⟩,
     ⟨(some 119), (some (114, false)), .mov (.tmp 12)⟩,
     ⟨(some 120), (some (114, false)), .bin .eql (.tmp 119) (.lit (.int .i64 0))⟩,
     ⟨(some 121), (some (114, false)), .eqb true (.tmp 118) (.tmp 120)⟩,
     ⟨(some 122), none, .pick (.tmp 114) (.lit (.bool true)) (.tmp 121)⟩,
     ⟨(some 123), none, .mov (.tmp 122)⟩,
     ⟨(some 124), (some (123, false)), .mov (.tmp 8)⟩,
     ⟨(some 125), (some (123, false)), .mov (.tmp 7)⟩,
     ⟨(some 126), (some (123, false)), .bin .add (.tmp 125) (.lit (.int .i64 1))⟩,
     ⟨(some 127), (some (123, false)), .bin .eql (.tmp 124) (.tmp 126)⟩,
     ⟨(some 128), (some (123, false)), .mov (.tmp 127)⟩,
     ⟨(some 129), (some (128, true)), .mov (.tmp 12)⟩,
     ⟨(some 130), (some (128, true)), .bin .eql (.tmp 129) (.lit (.int .i64 2))⟩,
     ⟨(some 131), (some (128, true)), .mov (.tmp 9)⟩,
     ⟨(some 132), (some (128, true)), .mov (.tmp 16)⟩,
     ⟨(some 133), (some (128, true)), .bin .and (.tmp 131) (.tmp 132)⟩,
     ⟨(some 134), (some (128, true)), .bin .neq (.tmp 133) (.lit (.int .i64 0))⟩,
     ⟨(some 135), (some (128, true)), .eqb true (.tmp 130) (.tmp 134)⟩,
     ⟨(some 136), (some (123, false)), .pick (.tmp 128) (.tmp 135) (.lit (.bool false))⟩,
     ⟨(some 137), none, .pick (.tmp 123) (.lit (.bool true)) (.tmp 136)⟩])
  (.cond (.tmp 137) (.seq (.reg [⟨(some 6), none, .mov (.lit (.bool false))⟩])
   (.ret))
    (.skip)))
 (.seq (.seq (.reg [⟨(some 138), none, .mov (.tmp 8)⟩,
     ⟨(some 139), none, .faddr 3 (.tmp 3)⟩,
     ⟨(some 140), none, .load false 1 (.tmp 139)⟩,
     ⟨(some 141), none, .len (.tmp 140)⟩,
     ⟨(some 142), none, .bin .lss (.tmp 138) (.tmp 141)⟩])
  (.cond (.tmp 142) (.seq (.reg [⟨(some 144), none, .load true 5 (.tmp 3)⟩,
      ⟨(some 145), none, .mov (.tmp 7)⟩,
      ⟨(some 146), none, .mov (.tmp 8)⟩,
      ⟨(some 147), none, .bin .add (.tmp 146) (.lit (.int .i64 1))⟩,
      ⟨(some 148), none, .call (.fn 23) [(.tmp 144), (.tmp 145), (.tmp 147)]⟩,
      ⟨(some 143), none, .mov (.tmp 148)⟩,
      ⟨(some 149), none, .ext (.tmp 143) 0⟩,
      ⟨(some 150), none, .ext (.tmp 143) 1⟩,
      ⟨(some 17), none, .mov (.tmp 149)⟩,
      ⟨(some 18), none, .mov (.tmp 150)⟩])
   (.seq (.reg [⟨(some 151), none, .mov (.tmp 18)⟩,
      ⟨(some 152), none, .bin .neq (.tmp 151) (.lit (.int .i64 0))⟩,
      ⟨(some 153), none, .mov (.tmp 152)⟩,
      ⟨(some 154), (some (153, false)), .mov (.tmp 17)⟩,
      ⟨(some 155), (some (153, false)), .mov (.tmp 12)⟩,
      ⟨(some 156), (some (153, false)), .bin .lss (.tmp 154) (.tmp 155)⟩,
      ⟨(some 157), none, .pick (.tmp 153) (.lit (.bool true)) (.tmp 156)⟩])
   (.cond (.tmp 157) (.seq (.reg [⟨(some 6), none, .mov (.lit (.bool false))⟩])
    (.ret))
     (.skip))))
    (.skip)))
 (.seq (.seq (.reg [⟨(some 158), none, .mov (.tmp 7)⟩,
     ⟨(some 19), none, .mov (.tmp 158)⟩])
  (.block 0 (.loop (.seq (.seq (.reg [⟨(some 159), none, .mov (.tmp 19)⟩,
       ⟨(some 160), none, .faddr 3 (.tmp 3)⟩,
       ⟨(some 161), none, .load false 1 (.tmp 160)⟩,
       ⟨(some 162), none, .len (.tmp 161)⟩,
       ⟨(some 163), none, .bin .lss (.tmp 159) (.tmp 162)⟩])
    (.cond (.tmp 163) (.skip)
      (.exit 0)))
   (.seq (.block 1 (.seq (.reg [⟨(some 166), none, .mov (.tmp 10)⟩,
       ⟨(some 167), none, .mov (.tmp 19)⟩,
       ⟨(some 168), none, .bin .shr (.tmp 166) (.tmp 167)⟩,
       ⟨(some 169), none, .bin .and (.tmp 168) (.lit (.int .i64 1))⟩,
       ⟨(some 170), none, .bin .eql (.tmp 169) (.lit (.int .i64 0))⟩])
    (.cond (.tmp 170) (.seq (.reg [⟨(some 171), none, .mov (.tmp 15)⟩,
        ⟨(some 172), none, .bin .eql (.tmp 171) (.lit (.int .i64 0))⟩,
        ⟨(some 173), none, .mov (.tmp 172)⟩,
        ⟨(some 174), (some (173, true)), .mov (.tmp 14)⟩,
        ⟨(some 175), (some (173, true)), .mov (.tmp 19)⟩,
        ⟨(some 176), (some (173, true)), .bin .eql (.tmp 174) (.tmp 175)⟩,
        ⟨(some 177), none, .pick (.tmp 173) (.tmp 176) (.lit (.bool false))⟩,
        ⟨(some 178), none, .mov (.tmp 177)⟩,
        ⟨(some 179), (some (178, true)), .call (.fn 14) []⟩,
        ⟨(some 180), none, .pick (.tmp 178) (.tmp 179) (.lit (.bool false))⟩,
        ⟨(some 6), none, .mov (.tmp 180)⟩])
     (.ret))
      (.skip))))
   (.reg [⟨(some 164), none, .mov (.tmp 19)⟩,
     ⟨(some 165), none, .bin .add (.tmp 164) (.lit (.int .i64 1))⟩,
     ⟨(some 19), none, .mov (.tmp 165)⟩]))))))
 (.seq (.reg [⟨(some 181), none, .mov (.tmp 15)⟩,
    ⟨(some 182), none, .bin .eql (.tmp 181) (.lit (.int .i64 4))⟩,
    ⟨(some 183), none, .mov (.tmp 182)⟩,
    ⟨(some 184), (some (183, true)), .mov (.tmp 14)⟩,
    ⟨(some 185), (some (183, true)), .bin .eql (.tmp 184) (.lit (.int .i64 0))⟩,
    ⟨(some 186), none, .pick (.tmp 183) (.tmp 185) (.lit (.bool false))⟩,
    ⟨(some 187), none, .mov (.tmp 186)⟩,
    ⟨(some 188), (some (187, true)), .call (.fn 14) []⟩,
    ⟨(some 189), none, .pick (.tmp 187) (.tmp 188) (.lit (.bool false))⟩,
    ⟨(some 6), none, .mov (.tmp 189)⟩])
 (.ret))))))))))))))
theorem k8 : FnC Tryd.prog 8 190 [] [] [.tmp 6] c8 3 := ⟨Tryd.f8, _, Tryd.func8, rfl, by decide, rfl, by decide, by kernel_rfl, by kernel_rfl⟩
end Go.Proofs.YtkbjodmpmmnhgaaDoor

/- FlagUnder. -/
namespace Go.Proofs.YtkbjodmpmmnhgaaDoor
open Go Go.Ab

theorem mod_nat (a b : Nat) : (a : Int).tmod b = ((a % b : Nat) : Int) := by rw [Int.tmod_eq_emod_of_nonneg (by omega)]; rfl

def UnMid1 (f : Fl) (s : St) : Prop := ∃ (a b : Nat) (q : Int), a < b ∧ b ≤ f.hs.length ∧ f.OK ∧ noT f = false ∧ (b < f.hs.length → ∃ q', specUnder f a ((b + 1 : Nat) : Int) = (q', 0) ∧ decide (q' < q) = false) ∧ lk s.env 3 = .ptr 0 0 ∧ lk s.env 10 = .t (vi (maskOf (perh f) f.hs.length : Nat)) ∧ lk s.env 14 = .t (vi (specDown f a).1) ∧ lk s.env 15 = .t (vi (specDown f a).2) ∧ lk s.env 7 = .t (vi a) ∧ lk s.env 8 = .t (vi b) ∧ lk s.env 12 = .t (vi q) ∧ s.σ = [.cells ((fl5 f).map .t)] ∧ s.df = [] ∧ s.k = 0
def UnMid2 (f : Fl) (s : St) : Prop := ∃ a b : Nat, a < b ∧ b ≤ f.hs.length ∧ f.OK ∧ noT f = false ∧ lk s.env 3 = .ptr 0 0 ∧ lk s.env 10 = .t (vi (maskOf (perh f) f.hs.length : Nat)) ∧ lk s.env 14 = .t (vi (specDown f a).1) ∧ lk s.env 15 = .t (vi (specDown f a).2) ∧ lk s.env 7 = .t (vi a) ∧ s.σ = [.cells ((fl5 f).map .t)] ∧ s.df = [] ∧ s.k = 0
set_option maxRecDepth 8000 in
set_option maxHeartbeats 4000000 in
theorem FlagUnder_ok (f : Fl) (hL : Lens f) (u : Nat) (hu : u < 256) (v : Nat) (hv : v < 256) : ACall Tryd.prog 8 [.t (.agg (fl5 f)), .t (.lit (.int .u8 u)), .t (.lit (.int .u8 v))] [] (res (.ret (.t (vb true)))) := by
  refine ACall.walk k8 ?_
  have h31 := fine_ok f hL
  have h17 := Up_ok f hL
  unfold c8
  simp only [fl5] at h31 h17
  refine awpL_chop 11 (c1 := ?a1) (c2 := ?a2) (UnMid1 f) ?hc ?_ ?_
  case hc => simp only [chop]; rfl
  · simp only [fl5, go_sem, Nat.reduceEqDiff, Nat.reduceAdd, Nat.reduceSub, Nat.reduceMul, Nat.reduceLT, Nat.reduceLeDiff, Nat.reduceMod, Nat.reduceDiv, Int.reduceToNat, Int.reduceLT, Int.reduceLE, Bool.not_true, Bool.not_false, reduceIte, Int.reduceEq, Int.reduceBEq, Int.reduceBNe, Int.reduceGT, Int.reduceGE, Int.reduceNeg, Int.reduceAdd, Int.reduceSub, Nat.reduceBEq, decide_true, decide_false, undef, beq_self_eq_true, bne_self_eq_false, Bool.and_true, Bool.true_and, Bool.and_false, Bool.false_and, Bool.or_true, Bool.true_or, Bool.or_false, Bool.false_or]
    refine ACallL.quiet1 h31 rfl rfl rfl ?_
    cases hF : fineB f
    · simp only [go_sem, Nat.reduceEqDiff, Nat.reduceAdd, Nat.reduceSub, Nat.reduceMul, Nat.reduceLT, Nat.reduceLeDiff, Nat.reduceMod, Nat.reduceDiv, Int.reduceToNat, Int.reduceLT, Int.reduceLE, Bool.not_true, Bool.not_false, reduceIte, Int.reduceEq, Int.reduceBEq, Int.reduceBNe, Int.reduceGT, Int.reduceGE, Int.reduceNeg, Int.reduceAdd, Int.reduceSub, Nat.reduceBEq, decide_true, decide_false, undef, beq_self_eq_true, bne_self_eq_false, Bool.and_true, Bool.true_and, Bool.and_false, Bool.false_and, Bool.or_true, Bool.true_or, Bool.or_false, Bool.false_or, undef]
      refine ACallL.quiet1 awake_ok rfl rfl rfl ?_
      simp only [go_sem, Nat.reduceEqDiff, Nat.reduceAdd, Nat.reduceSub, Nat.reduceMul, Nat.reduceLT, Nat.reduceLeDiff, Nat.reduceMod, Nat.reduceDiv, Int.reduceToNat, Int.reduceLT, Int.reduceLE, Bool.not_true, Bool.not_false, reduceIte, Int.reduceEq, Int.reduceBEq, Int.reduceBNe, Int.reduceGT, Int.reduceGE, Int.reduceNeg, Int.reduceAdd, Int.reduceSub, Nat.reduceBEq, decide_true, decide_false, undef, beq_self_eq_true, bne_self_eq_false, Bool.and_true, Bool.true_and, Bool.and_false, Bool.false_and, Bool.or_true, Bool.true_or, Bool.or_false, Bool.false_or, undef]
      exact finL_ret [] ⟨rfl, rfl, rfl, rfl, _, rfl, res_mk rfl⟩
    obtain ⟨hok, hf⟩ := fine_iff hF
    have hn := hf.nh
    simp only [go_sem, Nat.reduceEqDiff, Nat.reduceAdd, Nat.reduceSub, Nat.reduceMul, Nat.reduceLT, Nat.reduceLeDiff, Nat.reduceMod, Nat.reduceDiv, Int.reduceToNat, Int.reduceLT, Int.reduceLE, Bool.not_true, Bool.not_false, reduceIte, Int.reduceEq, Int.reduceBEq, Int.reduceBNe, Int.reduceGT, Int.reduceGE, Int.reduceNeg, Int.reduceAdd, Int.reduceSub, Nat.reduceBEq, decide_true, decide_false, undef, beq_self_eq_true, bne_self_eq_false, Bool.and_true, Bool.true_and, Bool.and_false, Bool.false_and, Bool.or_true, Bool.true_or, Bool.or_false, Bool.false_or, undef, List.length_map]
    cases h0 : ((f.hs.length : Int) == 0)
    rotate_left
    · simp only [go_sem, Nat.reduceEqDiff, Nat.reduceAdd, Nat.reduceSub, Nat.reduceMul, Nat.reduceLT, Nat.reduceLeDiff, Nat.reduceMod, Nat.reduceDiv, Int.reduceToNat, Int.reduceLT, Int.reduceLE, Bool.not_true, Bool.not_false, reduceIte, Int.reduceEq, Int.reduceBEq, Int.reduceBNe, Int.reduceGT, Int.reduceGE, Int.reduceNeg, Int.reduceAdd, Int.reduceSub, Nat.reduceBEq, decide_true, decide_false, undef, beq_self_eq_true, bne_self_eq_false, Bool.and_true, Bool.true_and, Bool.and_false, Bool.false_and, Bool.or_true, Bool.true_or, Bool.or_false, Bool.false_or, undef, List.length_map, h0]
      refine ACallL.quiet1 awake_ok rfl rfl rfl ?_
      simp only [go_sem, Nat.reduceEqDiff, Nat.reduceAdd, Nat.reduceSub, Nat.reduceMul, Nat.reduceLT, Nat.reduceLeDiff, Nat.reduceMod, Nat.reduceDiv, Int.reduceToNat, Int.reduceLT, Int.reduceLE, Bool.not_true, Bool.not_false, reduceIte, Int.reduceEq, Int.reduceBEq, Int.reduceBNe, Int.reduceGT, Int.reduceGE, Int.reduceNeg, Int.reduceAdd, Int.reduceSub, Nat.reduceBEq, decide_true, decide_false, undef, beq_self_eq_true, bne_self_eq_false, Bool.and_true, Bool.true_and, Bool.and_false, Bool.false_and, Bool.or_true, Bool.true_or, Bool.or_false, Bool.false_or, undef]
      exact finL_ret [] ⟨rfl, rfl, rfl, rfl, _, rfl, res_mk rfl⟩
    have n0 : ¬ ((f.hs.length : Int) = 0) := by simpa using h0
    have ha : u % f.hs.length < f.hs.length := Nat.mod_lt _ (by omega)
    have hb : v % (f.hs.length - u % f.hs.length) < f.hs.length - u % f.hs.length := Nat.mod_lt _ (by omega)
    have t1 := mod_nat u f.hs.length
    have w0 : IntKind.i64.wrap (u : Int) = u := wrap_id (by omega) (by omega)
    have w1 : IntKind.i64.wrap (v : Int) = v := wrap_id (by omega) (by omega)
    generalize u % f.hs.length = a at *
    have w2 : IntKind.i64.wrap ((a : Int) + 1) = ((a + 1 : Nat) : Int) := by rw [wrap_id (by omega) (by omega)]; omega
    have w3 : IntKind.i64.wrap ((f.hs.length : Int) - a) = ((f.hs.length - a : Nat) : Int) := by rw [wrap_id (by omega) (by omega)]; omega
    have n1 : ¬ (((f.hs.length - a : Nat) : Int) = 0) := by omega
    have t2 := mod_nat v (f.hs.length - a)
    generalize v % (f.hs.length - a) = m at *
    have w4 : IntKind.i64.wrap (((a + 1 : Nat) : Int) + m) = ((a + 1 + m : Nat) : Int) := by rw [wrap_id (by omega) (by omega)]; omega
    simp only [go_sem, Nat.reduceEqDiff, Nat.reduceAdd, Nat.reduceSub, Nat.reduceMul, Nat.reduceLT, Nat.reduceLeDiff, Nat.reduceMod, Nat.reduceDiv, Int.reduceToNat, Int.reduceLT, Int.reduceLE, Bool.not_true, Bool.not_false, reduceIte, Int.reduceEq, Int.reduceBEq, Int.reduceBNe, Int.reduceGT, Int.reduceGE, Int.reduceNeg, Int.reduceAdd, Int.reduceSub, Nat.reduceBEq, decide_true, decide_false, undef, beq_self_eq_true, bne_self_eq_false, Bool.and_true, Bool.true_and, Bool.and_false, Bool.false_and, Bool.or_true, Bool.true_or, Bool.or_false, Bool.false_or, undef, List.length_map, h0, n0, n1, t1, t2, w0, w1, w2, w3, w4]
    clear t1 t2 w0 w1 w3 w4 hu hv n1
    obtain ⟨b, hbe⟩ : ∃ b, b = a + 1 + m := ⟨_, rfl⟩
    rw [← hbe]
    have hab : a < b := by omega
    have hbn : b ≤ f.hs.length := by omega
    clear hb hbe
    have h23 := Under_ok f a b hL
    have h25 := Down_ok f a hL
    simp only [fl5] at h23 h25
    cases hT : noT f
    rotate_left
    · have e1 : specUp f = (0, 0, 10) := by simp only [specUp, hok, hT]; rfl
      have e2 : specUnder f a b = (0, 10) := by simp only [specUnder, hok, isR_nat hab hbn, hullU, noT_nil hT]; rfl
      have e3 : specDown f a = (0, 10) := by simp only [specDown, hok, isH_iff.2 ⟨Int.natCast_nonneg a, Int.ofNat_lt.2 ha⟩, hT]; rfl
      rw [e1] at h17
      rw [e2] at h23
      rw [e3] at h25
      simp only [twoE, oneE] at h17 h23 h25
      refine ACallL.quiet1 h17 rfl rfl rfl ?_
      simp only [go_sem, Nat.reduceEqDiff, Nat.reduceAdd, Nat.reduceSub, Nat.reduceMul, Nat.reduceLT, Nat.reduceLeDiff, Nat.reduceMod, Nat.reduceDiv, Int.reduceToNat, Int.reduceLT, Int.reduceLE, Bool.not_true, Bool.not_false, reduceIte, Int.reduceEq, Int.reduceBEq, Int.reduceBNe, Int.reduceGT, Int.reduceGE, Int.reduceNeg, Int.reduceAdd, Int.reduceSub, Nat.reduceBEq, decide_true, decide_false, undef, beq_self_eq_true, bne_self_eq_false, Bool.and_true, Bool.true_and, Bool.and_false, Bool.false_and, Bool.or_true, Bool.true_or, Bool.or_false, Bool.false_or, undef]
      refine ACallL.quiet1 h23 rfl rfl rfl ?_
      simp only [go_sem, Nat.reduceEqDiff, Nat.reduceAdd, Nat.reduceSub, Nat.reduceMul, Nat.reduceLT, Nat.reduceLeDiff, Nat.reduceMod, Nat.reduceDiv, Int.reduceToNat, Int.reduceLT, Int.reduceLE, Bool.not_true, Bool.not_false, reduceIte, Int.reduceEq, Int.reduceBEq, Int.reduceBNe, Int.reduceGT, Int.reduceGE, Int.reduceNeg, Int.reduceAdd, Int.reduceSub, Nat.reduceBEq, decide_true, decide_false, undef, beq_self_eq_true, bne_self_eq_false, Bool.and_true, Bool.true_and, Bool.and_false, Bool.false_and, Bool.or_true, Bool.true_or, Bool.or_false, Bool.false_or, undef]
      refine ACallL.quiet1 h25 rfl rfl rfl ?_
      simp only [go_sem, Nat.reduceEqDiff, Nat.reduceAdd, Nat.reduceSub, Nat.reduceMul, Nat.reduceLT, Nat.reduceLeDiff, Nat.reduceMod, Nat.reduceDiv, Int.reduceToNat, Int.reduceLT, Int.reduceLE, Bool.not_true, Bool.not_false, reduceIte, Int.reduceEq, Int.reduceBEq, Int.reduceBNe, Int.reduceGT, Int.reduceGE, Int.reduceNeg, Int.reduceAdd, Int.reduceSub, Nat.reduceBEq, decide_true, decide_false, undef, beq_self_eq_true, bne_self_eq_false, Bool.and_true, Bool.true_and, Bool.and_false, Bool.false_and, Bool.or_true, Bool.true_or, Bool.or_false, Bool.false_or, undef]
      refine ACallL.quiet1 awake_ok rfl rfl rfl ?_
      simp only [go_sem, Nat.reduceEqDiff, Nat.reduceAdd, Nat.reduceSub, Nat.reduceMul, Nat.reduceLT, Nat.reduceLeDiff, Nat.reduceMod, Nat.reduceDiv, Int.reduceToNat, Int.reduceLT, Int.reduceLE, Bool.not_true, Bool.not_false, reduceIte, Int.reduceEq, Int.reduceBEq, Int.reduceBNe, Int.reduceGT, Int.reduceGE, Int.reduceNeg, Int.reduceAdd, Int.reduceSub, Nat.reduceBEq, decide_true, decide_false, undef, beq_self_eq_true, bne_self_eq_false, Bool.and_true, Bool.true_and, Bool.and_false, Bool.false_and, Bool.or_true, Bool.true_or, Bool.or_false, Bool.false_or, undef]
      exact finL_ret [] ⟨rfl, rfl, rfl, rfl, _, rfl, res_mk rfl⟩
    have e1 : specUp f = (((maskOf (sure f) f.hs.length : Nat) : Int), ((maskOf (perh f) f.hs.length : Nat) : Int), 0) := by simp only [specUp, hok, hT]; rfl
    obtain ⟨q, e2, hq, hq2, hq0⟩ := under_spec hf hT hab hbn
    -- the next hour
    have hnext : b < f.hs.length → ∃ q', specUnder f a ((b + 1 : Nat) : Int) = (q', 0) ∧ decide (q' < q) = false := fun hlt => by
      obtain ⟨q', e4, hq', hq2', hq0'⟩ := under_spec hf hT (show a < b + 1 by omega) (show b + 1 ≤ f.hs.length by omega)
      refine ⟨q', e4, ?_⟩
      have g1 : q = 2 → q' = 2 := fun h => hq2'.2 fun ks hks => (hq2.1 h ks hks).more (by omega)
      have g2 : q' = 0 → q = 0 := fun h => hq0.2 fun ks hks hu => hq0'.1 h ks hks (hu.more (by omega))
      simp
      omega
    have q1 : decide (q < 0) = false := by simp; omega
    have q2 : decide (q > 2) = false := by simp; omega
    have hS := mask_hours (p := sure f) hn hab hbn
    have hP := mask_hours (p := perh f) hn hab hbn
    have l1 := maskOf_lt (sure f) f.hs.length
    have l2 := maskOf_lt (perh f) f.hs.length
    have hp : 2 ^ f.hs.length ≤ 512 := Nat.pow_le_pow_right (n := 2) (by decide) hn
    have hpb : 2 ^ b ≤ 512 := Nat.le_trans (Nat.pow_le_pow_right (n := 2) (by decide) hbn) hp
    have pa0 := Nat.two_pow_pos a
    have pb0 := Nat.two_pow_pos b
    have hpa : 2 ^ a < 2 ^ b := Nat.pow_lt_pow_right (by decide) hab
    have fS : maskOf (sure f) f.hs.length &&& (2 ^ b - 2 ^ a) ≠ 0 → q = 2 := fun h => hq2.2 (surely_up (hS.1 h))
    have fP : (maskOf (perh f) f.hs.length &&& (2 ^ b - 2 ^ a) = 0) ↔ q = 0 := by
      have h1 := hP.trans perhaps_up
      rw [hq0]
      exact ⟨fun h => Classical.not_not.1 fun h2 => h1.2 h2 h, fun h => Classical.not_not.1 fun h2 => h1.1 h2 h⟩
    have f1 : b = a + 1 → q = 2 → maskOf (sure f) f.hs.length &&& (2 ^ b - 2 ^ a) ≠ 0 := by
      rintro rfl h
      exact hS.2 ⟨a, Nat.le_refl _, by omega, surely_one (hq2.1 h)⟩
    have m1 := bits_and (a := maskOf (sure f) f.hs.length) (b := 2 ^ b - 2 ^ a) (by omega) (by omega)
    have m2 := bits_and (a := maskOf (perh f) f.hs.length) (b := 2 ^ b - 2 ^ a) (by omega) (by omega)
    have ws : IntKind.i64.wrap (((2 ^ b : Nat) : Int) - ((2 ^ a : Nat) : Int)) = ((2 ^ b - 2 ^ a : Nat) : Int) := by rw [wrap_id (by omega) (by omega)]; omega
    have sb := shl_one (i := b) (by omega)
    have sa := shl_one (i := a) (by omega)
    have hb0 : ((b : Int) < 0) = False := by simp
    have ha0 : ((a : Int) < 0) = False := by simp
    rw [e1] at h17
    rw [e2] at h23
    simp only [twoE, oneE] at h17 h23 h25
    have wb : IntKind.i64.wrap ((b : Int) + 1) = ((b + 1 : Nat) : Int) := by rw [wrap_id (by omega) (by omega)]; omega
    have hunder := fun (x : Int) => Under_ok f a x hL
    simp only [fl5] at hunder
    refine ACallL.quiet1 h17 rfl rfl rfl ?_
    simp only [go_sem, Nat.reduceEqDiff, Nat.reduceAdd, Nat.reduceSub, Nat.reduceMul, Nat.reduceLT, Nat.reduceLeDiff, Nat.reduceMod, Nat.reduceDiv, Int.reduceToNat, Int.reduceLT, Int.reduceLE, Bool.not_true, Bool.not_false, reduceIte, Int.reduceEq, Int.reduceBEq, Int.reduceBNe, Int.reduceGT, Int.reduceGE, Int.reduceNeg, Int.reduceAdd, Int.reduceSub, Nat.reduceBEq, decide_true, decide_false, undef, beq_self_eq_true, bne_self_eq_false, Bool.and_true, Bool.true_and, Bool.and_false, Bool.false_and, Bool.or_true, Bool.true_or, Bool.or_false, Bool.false_or, undef]
    refine ACallL.quiet1 h23 rfl rfl rfl ?_
    simp only [go_sem, Nat.reduceEqDiff, Nat.reduceAdd, Nat.reduceSub, Nat.reduceMul, Nat.reduceLT, Nat.reduceLeDiff, Nat.reduceMod, Nat.reduceDiv, Int.reduceToNat, Int.reduceLT, Int.reduceLE, Bool.not_true, Bool.not_false, reduceIte, Int.reduceEq, Int.reduceBEq, Int.reduceBNe, Int.reduceGT, Int.reduceGE, Int.reduceNeg, Int.reduceAdd, Int.reduceSub, Nat.reduceBEq, decide_true, decide_false, undef, beq_self_eq_true, bne_self_eq_false, Bool.and_true, Bool.true_and, Bool.and_false, Bool.false_and, Bool.or_true, Bool.true_or, Bool.or_false, Bool.false_or, undef]
    refine ACallL.quiet1 h25 rfl rfl rfl ?_
    simp only [go_sem, Nat.reduceEqDiff, Nat.reduceAdd, Nat.reduceSub, Nat.reduceMul, Nat.reduceLT, Nat.reduceLeDiff, Nat.reduceMod, Nat.reduceDiv, Int.reduceToNat, Int.reduceLT, Int.reduceLE, Bool.not_true, Bool.not_false, reduceIte, Int.reduceEq, Int.reduceBEq, Int.reduceBNe, Int.reduceGT, Int.reduceGE, Int.reduceNeg, Int.reduceAdd, Int.reduceSub, Nat.reduceBEq, decide_true, decide_false, undef, beq_self_eq_true, bne_self_eq_false, Bool.and_true, Bool.true_and, Bool.and_false, Bool.false_and, Bool.or_true, Bool.true_or, Bool.or_false, Bool.false_or, undef, q1, q2, sb, sa, hb0, ha0, ws, m1, m2, w2]
    generalize maskOf (sure f) f.hs.length &&& (2 ^ b - 2 ^ a) = xS at *
    generalize maskOf (perh f) f.hs.length &&& (2 ^ b - 2 ^ a) = xP at *
    have cS : ((xS : Int) != 0) = !decide (xS = 0) := by cases xS <;> rfl
    have cP : ((xP : Int) == 0) = decide (xP = 0) := by cases xP <;> rfl
    have cB : ((b : Int) == ((a + 1 : Nat) : Int)) = decide (b = a + 1) := by
      by_cases e : b = a + 1
      · subst e; simp
      · have : ¬ (b : Int) = ((a + 1 : Nat) : Int) := by omega
        simp [e]; omega
    by_cases x0 : xS = 0
    · have d0 : decide (xS = 0) = true := by simp [x0]
      by_cases y0 : xP = 0
      · have d1 : decide (xP = 0) = true := by simp [y0]
        have : q = 0 := fP.1 y0
        subst this
        cases d2 : decide (b = a + 1) <;> simp only [cS, cP, cB, d0, d1, d2, m1, m2, w2, sb, sa, hb0, ha0, ws, go_sem, Nat.reduceEqDiff, Nat.reduceAdd, Nat.reduceSub, Nat.reduceMul, Nat.reduceLT, Nat.reduceLeDiff, Nat.reduceMod, Nat.reduceDiv, Int.reduceToNat, Int.reduceLT, Int.reduceLE, Bool.not_true, Bool.not_false, reduceIte, Int.reduceEq, Int.reduceBEq, Int.reduceBNe, Int.reduceGT, Int.reduceGE, Int.reduceNeg, Int.reduceAdd, Int.reduceSub, Nat.reduceBEq, decide_true, decide_false, undef, beq_self_eq_true, bne_self_eq_false, Bool.and_true, Bool.true_and, Bool.and_false, Bool.false_and, Bool.or_true, Bool.true_or, Bool.or_false, Bool.false_or, undef] <;> exact ⟨a, b, _, hab, hbn, hf, hT, hnext, rfl, rfl, rfl, rfl, rfl, rfl, rfl, rfl, rfl, rfl⟩
      · have d1 : decide (xP = 0) = false := by simp [y0]
        have : q ≠ 0 := fun h => y0 (fP.2 h)
        rcases hq with rfl | rfl | rfl
        · have d2 : decide (b = a + 1) = false := by simp; intro h; exact f1 h rfl x0
          simp only [cS, cP, cB, d0, d1, d2, m1, m2, w2, sb, sa, hb0, ha0, ws, go_sem, Nat.reduceEqDiff, Nat.reduceAdd, Nat.reduceSub, Nat.reduceMul, Nat.reduceLT, Nat.reduceLeDiff, Nat.reduceMod, Nat.reduceDiv, Int.reduceToNat, Int.reduceLT, Int.reduceLE, Bool.not_true, Bool.not_false, reduceIte, Int.reduceEq, Int.reduceBEq, Int.reduceBNe, Int.reduceGT, Int.reduceGE, Int.reduceNeg, Int.reduceAdd, Int.reduceSub, Nat.reduceBEq, decide_true, decide_false, undef, beq_self_eq_true, bne_self_eq_false, Bool.and_true, Bool.true_and, Bool.and_false, Bool.false_and, Bool.or_true, Bool.true_or, Bool.or_false, Bool.false_or, undef]
          exact ⟨a, b, _, hab, hbn, hf, hT, hnext, rfl, rfl, rfl, rfl, rfl, rfl, rfl, rfl, rfl, rfl⟩
        · cases d2 : decide (b = a + 1) <;> simp only [cS, cP, cB, d0, d1, d2, m1, m2, w2, sb, sa, hb0, ha0, ws, go_sem, Nat.reduceEqDiff, Nat.reduceAdd, Nat.reduceSub, Nat.reduceMul, Nat.reduceLT, Nat.reduceLeDiff, Nat.reduceMod, Nat.reduceDiv, Int.reduceToNat, Int.reduceLT, Int.reduceLE, Bool.not_true, Bool.not_false, reduceIte, Int.reduceEq, Int.reduceBEq, Int.reduceBNe, Int.reduceGT, Int.reduceGE, Int.reduceNeg, Int.reduceAdd, Int.reduceSub, Nat.reduceBEq, decide_true, decide_false, undef, beq_self_eq_true, bne_self_eq_false, Bool.and_true, Bool.true_and, Bool.and_false, Bool.false_and, Bool.or_true, Bool.true_or, Bool.or_false, Bool.false_or, undef] <;> exact ⟨a, b, _, hab, hbn, hf, hT, hnext, rfl, rfl, rfl, rfl, rfl, rfl, rfl, rfl, rfl, rfl⟩
        · exact absurd rfl this
    · have d0 : decide (xS = 0) = false := by simp [x0]
      have : q = 2 := fS x0
      subst this
      have d1 : decide (xP = 0) = false := by
        have : ¬ xP = 0 := fun h => by have := fP.1 h; omega
        simp [this]
      cases d2 : decide (b = a + 1) <;> simp only [cS, cP, cB, d0, d1, d2, m1, m2, w2, sb, sa, hb0, ha0, ws, go_sem, Nat.reduceEqDiff, Nat.reduceAdd, Nat.reduceSub, Nat.reduceMul, Nat.reduceLT, Nat.reduceLeDiff, Nat.reduceMod, Nat.reduceDiv, Int.reduceToNat, Int.reduceLT, Int.reduceLE, Bool.not_true, Bool.not_false, reduceIte, Int.reduceEq, Int.reduceBEq, Int.reduceBNe, Int.reduceGT, Int.reduceGE, Int.reduceNeg, Int.reduceAdd, Int.reduceSub, Nat.reduceBEq, decide_true, decide_false, undef, beq_self_eq_true, bne_self_eq_false, Bool.and_true, Bool.true_and, Bool.and_false, Bool.false_and, Bool.or_true, Bool.true_or, Bool.or_false, Bool.false_or, undef] <;> exact ⟨a, b, _, hab, hbn, hf, hT, hnext, rfl, rfl, rfl, rfl, rfl, rfl, rfl, rfl, rfl, rfl⟩
  refine fun s0 h0 => awpL_chop 1 (c1 := ?b1) (c2 := ?b2) (UnMid2 f) ?hc2 ?_ ?_
  case hc2 => simp only [chop]; rfl
  · obtain ⟨env, σ, df, k⟩ := s0
    obtain ⟨a, b, q, hab, hbn, hf, hT, hnext, q3, q10, q14, q15, q7, q8, q12, hσ, hdf, hk⟩ := h0
    simp only at q3 q10 q14 q15 q7 q8 q12 hσ hdf hk
    subst hσ hdf hk
    have hn := hf.nh
    have wb : IntKind.i64.wrap ((b : Int) + 1) = ((b + 1 : Nat) : Int) := by rw [wrap_id (by omega) (by omega)]; omega
    simp only [fl5, go_sem, Nat.reduceEqDiff, Nat.reduceAdd, Nat.reduceSub, Nat.reduceMul, Nat.reduceLT, Nat.reduceLeDiff, Nat.reduceMod, Nat.reduceDiv, Int.reduceToNat, Int.reduceLT, Int.reduceLE, Bool.not_true, Bool.not_false, reduceIte, Int.reduceEq, Int.reduceBEq, Int.reduceBNe, Int.reduceGT, Int.reduceGE, Int.reduceNeg, Int.reduceAdd, Int.reduceSub, Nat.reduceBEq, decide_true, decide_false, undef, beq_self_eq_true, bne_self_eq_false, Bool.and_true, Bool.true_and, Bool.and_false, Bool.false_and, Bool.or_true, Bool.true_or, Bool.or_false, Bool.false_or, undef, List.length_map, q3, q8]
    refine BrL.mk (fun g => ?_) (fun g => ?_)
    · obtain ⟨q', e1, e2⟩ := hnext (by simp at g; omega)
      have h23 := Under_ok f a ((b + 1 : Nat) : Int) hL
      rw [e1] at h23
      simp only [fl5, oneE] at h23
      simp only [g, go_sem, Nat.reduceEqDiff, Nat.reduceAdd, Nat.reduceSub, Nat.reduceMul, Nat.reduceLT, Nat.reduceLeDiff, Nat.reduceMod, Nat.reduceDiv, Int.reduceToNat, Int.reduceLT, Int.reduceLE, Bool.not_true, Bool.not_false, reduceIte, Int.reduceEq, Int.reduceBEq, Int.reduceBNe, Int.reduceGT, Int.reduceGE, Int.reduceNeg, Int.reduceAdd, Int.reduceSub, Nat.reduceBEq, decide_true, decide_false, undef, beq_self_eq_true, bne_self_eq_false, Bool.and_true, Bool.true_and, Bool.and_false, Bool.false_and, Bool.or_true, Bool.true_or, Bool.or_false, Bool.false_or, undef, List.length_map, q3, q7, q8, wb]
      refine ACallL.quiet1 h23 rfl rfl rfl ?_
      simp only [go_sem, Nat.reduceEqDiff, Nat.reduceAdd, Nat.reduceSub, Nat.reduceMul, Nat.reduceLT, Nat.reduceLeDiff, Nat.reduceMod, Nat.reduceDiv, Int.reduceToNat, Int.reduceLT, Int.reduceLE, Bool.not_true, Bool.not_false, reduceIte, Int.reduceEq, Int.reduceBEq, Int.reduceBNe, Int.reduceGT, Int.reduceGE, Int.reduceNeg, Int.reduceAdd, Int.reduceSub, Nat.reduceBEq, decide_true, decide_false, undef, beq_self_eq_true, bne_self_eq_false, Bool.and_true, Bool.true_and, Bool.and_false, Bool.false_and, Bool.or_true, Bool.true_or, Bool.or_false, Bool.false_or, undef, q3, q7, q8, q12, e2]
      exact ⟨a, b, hab, hbn, hf, hT, q3, q10, q14, q15, q7, rfl, rfl, rfl⟩
    · simp only [g, go_sem, Nat.reduceEqDiff, Nat.reduceAdd, Nat.reduceSub, Nat.reduceMul, Nat.reduceLT, Nat.reduceLeDiff, Nat.reduceMod, Nat.reduceDiv, Int.reduceToNat, Int.reduceLT, Int.reduceLE, Bool.not_true, Bool.not_false, reduceIte, Int.reduceEq, Int.reduceBEq, Int.reduceBNe, Int.reduceGT, Int.reduceGE, Int.reduceNeg, Int.reduceAdd, Int.reduceSub, Nat.reduceBEq, decide_true, decide_false, undef, beq_self_eq_true, bne_self_eq_false, Bool.and_true, Bool.true_and, Bool.and_false, Bool.false_and, Bool.or_true, Bool.true_or, Bool.or_false, Bool.false_or, undef]
      exact ⟨a, b, hab, hbn, hf, hT, q3, q10, q14, q15, q7, rfl, rfl, rfl⟩
  rintro ⟨env, σ, df, k⟩ ⟨a, b, hab, hbn, hf, hT, q3, q10, q14, q15, q7, hσ, hdf, hk⟩
  simp only at q3 q10 q14 q15 q7 hσ hdf hk
  subst hσ hdf hk
  have hn := hf.nh
  have hok := (Fl.ok_iff f).2 hf
  have l2 := maskOf_lt (perh f) f.hs.length
  have hp : 2 ^ f.hs.length ≤ 512 := Nat.pow_le_pow_right (n := 2) (by decide) hn
  have hbit : ∀ k : Nat, (bits .and .i64 (((maskOf (perh f) f.hs.length : Nat) : Int).fdiv (2 ^ (min k 64))) 1 == 0) = !(decide (k < f.hs.length) && perh f k) := fun k => by
    rw [bit_eq0 (by omega), maskOf_bit]
  have hsp : specDown f a = match downF f a with | some h => (((h : Nat) : Int), 0) | none => (0, 4) := by
    simp only [specDown, hok, isH_iff.2 ⟨Int.natCast_nonneg a, Int.ofNat_lt.2 (show a < f.hs.length by omega)⟩, hT]; rfl
  simp only [go_sem, Nat.reduceEqDiff, Nat.reduceAdd, Nat.reduceSub, Nat.reduceMul, Nat.reduceLT, Nat.reduceLeDiff, Nat.reduceMod, Nat.reduceDiv, Int.reduceToNat, Int.reduceLT, Int.reduceLE, Bool.not_true, Bool.not_false, reduceIte, Int.reduceEq, Int.reduceBEq, Int.reduceBNe, Int.reduceGT, Int.reduceGE, Int.reduceNeg, Int.reduceAdd, Int.reduceSub, Nat.reduceBEq, decide_true, decide_false, undef, beq_self_eq_true, bne_self_eq_false, Bool.and_true, Bool.true_and, Bool.and_false, Bool.false_and, Bool.or_true, Bool.true_or, Bool.or_false, Bool.false_or]
  refine awpL_loopK (f.hs.length - a) (fun j s => (∀ i < a + j, a ≤ i → perh f i = true) ∧ s = { env := [(19, .t (vi (a + j : Nat))), (10, .t (vi (maskOf (perh f) f.hs.length : Nat))), (14, .t (vi (specDown f a).1)), (15, .t (vi (specDown f a).2)), (3, .ptr 0 0)], σ := [.cells ((fl5 f).map .t)] }) ⟨_, Sub.gc [0] [19, 10, 14, 15, 3] rfl rfl, fun i hi hi2 => by omega, St.gc_mk (by simp only [List.map_cons, List.map_nil, lk, Nat.reduceEqDiff, reduceIte, q3, q10, q14, q15, q7]; rfl) rfl rfl rfl⟩ ?_
  rintro j s hj ⟨hall, rfl⟩
  simp only [fl5, go_sem, Nat.reduceEqDiff, Nat.reduceAdd, Nat.reduceSub, Nat.reduceMul, Nat.reduceLT, Nat.reduceLeDiff, Nat.reduceMod, Nat.reduceDiv, Int.reduceToNat, Int.reduceLT, Int.reduceLE, Bool.not_true, Bool.not_false, reduceIte, Int.reduceEq, Int.reduceBEq, Int.reduceBNe, Int.reduceGT, Int.reduceGE, Int.reduceNeg, Int.reduceAdd, Int.reduceSub, Nat.reduceBEq, decide_true, decide_false, undef, beq_self_eq_true, bne_self_eq_false, Bool.and_true, Bool.true_and, Bool.and_false, Bool.false_and, Bool.or_true, Bool.true_or, Bool.or_false, Bool.false_or, List.length_map]
  refine BrL.mk (fun g => ?_) (fun g => ?_)
  · have hj' : a + j < f.hs.length := by simp at g; omega
    have hw : IntKind.i64.wrap (((a + j : Nat) : Int) + 1) = ((a + (j + 1) : Nat) : Int) := by rw [wrap_id (by omega) (by omega)]; omega
    have hs0 : (((a + j : Nat) : Int) < 0) = False := by simp; omega
    have hd : decide (a + j < f.hs.length) = true := by simp [hj']
    cases hP : perh f (a + j)
    · have hD : downF f a = some (a + j) := by
        unfold downF
        rw [List.find?_range_eq_some]
        refine ⟨by rw [hP]; simp; omega, List.mem_range.2 hj', fun i hi => ?_⟩
        by_cases c : a ≤ i
        · rw [hall i hi c]; simp
        · have : decide ((a : Int) ≤ (i : Int)) = false := by simp; omega
          rw [this]; rfl
      rw [hD] at hsp
      simp only [g, go_sem, Nat.reduceEqDiff, Nat.reduceAdd, Nat.reduceSub, Nat.reduceMul, Nat.reduceLT, Nat.reduceLeDiff, Nat.reduceMod, Nat.reduceDiv, Int.reduceToNat, Int.reduceLT, Int.reduceLE, Bool.not_true, Bool.not_false, reduceIte, Int.reduceEq, Int.reduceBEq, Int.reduceBNe, Int.reduceGT, Int.reduceGE, Int.reduceNeg, Int.reduceAdd, Int.reduceSub, Nat.reduceBEq, decide_true, decide_false, undef, beq_self_eq_true, bne_self_eq_false, Bool.and_true, Bool.true_and, Bool.and_false, Bool.false_and, Bool.or_true, Bool.true_or, Bool.or_false, Bool.false_or, undef, hbit, hd, hP, hsp, hs0]
      refine ACallL.quiet1 awake_ok rfl rfl rfl ?_
      simp only [go_sem, Nat.reduceEqDiff, Nat.reduceAdd, Nat.reduceSub, Nat.reduceMul, Nat.reduceLT, Nat.reduceLeDiff, Nat.reduceMod, Nat.reduceDiv, Int.reduceToNat, Int.reduceLT, Int.reduceLE, Bool.not_true, Bool.not_false, reduceIte, Int.reduceEq, Int.reduceBEq, Int.reduceBNe, Int.reduceGT, Int.reduceGE, Int.reduceNeg, Int.reduceAdd, Int.reduceSub, Nat.reduceBEq, decide_true, decide_false, undef, beq_self_eq_true, bne_self_eq_false, Bool.and_true, Bool.true_and, Bool.and_false, Bool.false_and, Bool.or_true, Bool.true_or, Bool.or_false, Bool.false_or, undef]
      exact finL_ret [] ⟨rfl, rfl, rfl, rfl, _, rfl, res_mk rfl⟩
    · simp only [g, go_sem, Nat.reduceEqDiff, Nat.reduceAdd, Nat.reduceSub, Nat.reduceMul, Nat.reduceLT, Nat.reduceLeDiff, Nat.reduceMod, Nat.reduceDiv, Int.reduceToNat, Int.reduceLT, Int.reduceLE, Bool.not_true, Bool.not_false, reduceIte, Int.reduceEq, Int.reduceBEq, Int.reduceBNe, Int.reduceGT, Int.reduceGE, Int.reduceNeg, Int.reduceAdd, Int.reduceSub, Nat.reduceBEq, decide_true, decide_false, undef, beq_self_eq_true, bne_self_eq_false, Bool.and_true, Bool.true_and, Bool.and_false, Bool.false_and, Bool.or_true, Bool.true_or, Bool.or_false, Bool.false_or, undef, hbit, hd, hP, hs0, hw]
      refine ⟨by omega, _, Sub.gc [0] [19, 10, 14, 15, 3] rfl rfl, fun i hi hi2 => ?_, rfl⟩
      by_cases e : i = a + j
      · rw [e]; exact hP
      · exact hall i (by omega) hi2
  · have hjn : a + j = f.hs.length := by simp at g; omega
    have hD : downF f a = none := by
      unfold downF
      rw [List.find?_range_eq_none]
      intro i hi
      by_cases c : a ≤ i
      · rw [hall i (by omega) c]; simp
      · have : decide ((a : Int) ≤ (i : Int)) = false := by simp; omega
        rw [this]; rfl
    rw [hD] at hsp
    simp only [g, go_sem, Nat.reduceEqDiff, Nat.reduceAdd, Nat.reduceSub, Nat.reduceMul, Nat.reduceLT, Nat.reduceLeDiff, Nat.reduceMod, Nat.reduceDiv, Int.reduceToNat, Int.reduceLT, Int.reduceLE, Bool.not_true, Bool.not_false, reduceIte, Int.reduceEq, Int.reduceBEq, Int.reduceBNe, Int.reduceGT, Int.reduceGE, Int.reduceNeg, Int.reduceAdd, Int.reduceSub, Nat.reduceBEq, decide_true, decide_false, undef, beq_self_eq_true, bne_self_eq_false, Bool.and_true, Bool.true_and, Bool.and_false, Bool.false_and, Bool.or_true, Bool.true_or, Bool.or_false, Bool.false_or, undef, hsp]
    refine ACallL.quiet1 awake_ok rfl rfl rfl ?_
    simp only [go_sem, Nat.reduceEqDiff, Nat.reduceAdd, Nat.reduceSub, Nat.reduceMul, Nat.reduceLT, Nat.reduceLeDiff, Nat.reduceMod, Nat.reduceDiv, Int.reduceToNat, Int.reduceLT, Int.reduceLE, Bool.not_true, Bool.not_false, reduceIte, Int.reduceEq, Int.reduceBEq, Int.reduceBNe, Int.reduceGT, Int.reduceGE, Int.reduceNeg, Int.reduceAdd, Int.reduceSub, Nat.reduceBEq, decide_true, decide_false, undef, beq_self_eq_true, bne_self_eq_false, Bool.and_true, Bool.true_and, Bool.and_false, Bool.false_and, Bool.or_true, Bool.true_or, Bool.or_false, Bool.false_or, undef]
    exact finL_ret [] ⟨rfl, rfl, rfl, rfl, _, rfl, res_mk rfl⟩
end Go.Proofs.YtkbjodmpmmnhgaaDoor
