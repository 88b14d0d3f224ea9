/- Proved here: laws that the statements need (TwC57, TwXE). No conditions but those that each law states. -/
import Derived.Test.YticdacdflemoiaaLF
import Derived.Test.YticdacdflemoiaaFL
import Derived.Test.YticdacdflemoiaaLV

set_option linter.unusedSimpArgs false
set_option linter.unusedVariables false

/- Compiled code of functions, printed by program; each is checked to be the program's. No conditions. -/
namespace Go.Proofs.Yticdacdflemoiaa
open Go Go.Ab
def c7 : AC :=
 .seq (.reg [⟨(some 2), none, .box (.tmp 0)⟩,
    ⟨(some 4), none, .mov (.lit (.bool false))⟩])
 (.seq (.seq (.reg [⟨(some 23), none, .load true 3 (.tmp 2)⟩,
     ⟨(some 24), none, .call (.fn 34) [(.tmp 23)]⟩])
  (.cond (.tmp 24) (.seq (.reg [⟨(some 25), none, .call (.fn 14) []⟩,
      ⟨(some 4), none, .mov (.tmp 25)⟩])
   (.ret))
    (.skip)))
 (.seq (.reg [⟨(some 27), none, .load true 3 (.tmp 2)⟩,
    ⟨(some 28), none, .call (.fn 23) [(.tmp 27)]⟩,
    ⟨(some 26), none, .mov (.tmp 28)⟩,
    ⟨(some 29), none, .ext (.tmp 26) 0⟩,
    ⟨(some 30), none, .ext (.tmp 26) 1⟩,
    ⟨(some 5), none, .mov (.tmp 29)⟩,
    ⟨(some 6), none, .mov (.tmp 30)⟩])
 (.seq (.seq (.reg [⟨(some 31), none, .load true 3 (.tmp 2)⟩,
     ⟨(some 32), none, .call (.fn 35) [(.tmp 31)]⟩,
     ⟨(some 33), none, .un .not (.tmp 32)⟩])
  (.cond (.tmp 33) (.seq (.reg [⟨(some 34), none, .mov (.tmp 6)⟩,
      ⟨(some 35), none, .bin .eql (.tmp 34) (.lit (.int .i64 1))⟩,
      ⟨(some 36), none, .mov (.tmp 35)⟩,
      ⟨(some 37), (some (36, true)), .mov (.tmp 5)⟩,
      ⟨(some 38), (some (36, true)), .bin .eql (.tmp 37) (.lit (.int .i64 0))⟩,
      ⟨(some 39), none, .pick (.tmp 36) (.tmp 38) (.lit (.bool false))⟩,
      ⟨(some 40), none, .mov (.tmp 39)⟩,
      ⟨(some 41), (some (40, true)), .call (.fn 14) []⟩,
      ⟨(some 42), none, .pick (.tmp 40) (.tmp 41) (.lit (.bool false))⟩,
      ⟨(some 4), none, .mov (.tmp 42)⟩])
   (.ret))
    (.skip)))
 (.seq (.reg [⟨(some 44), none, .load true 3 (.tmp 2)⟩,
    ⟨(some 45), none, .faddr 0 (.tmp 2)⟩,
    ⟨(some 46), none, .load false 1 (.tmp 45)⟩,
    ⟨(some 47), none, .len (.tmp 46)⟩,
    ⟨(some 48), none, .call (.fn 15) [(.tmp 44), (.tmp 47)]⟩,
    ⟨(some 43), none, .mov (.tmp 48)⟩,
    ⟨(some 49), none, .ext (.tmp 43) 0⟩,
    ⟨(some 50), none, .ext (.tmp 43) 1⟩,
    ⟨(some 7), none, .alloc [(.int .i64 0), (.int .i64 0)]⟩,
    ⟨none, none, .store 2 (.tmp 7) (.tmp 49)⟩,
    ⟨(some 8), none, .mov (.tmp 50)⟩])
 (.seq (.reg [⟨(some 52), none, .load true 3 (.tmp 2)⟩,
    ⟨(some 53), none, .call (.fn 17) [(.tmp 52), (.lit (.int .i64 (-1)))]⟩,
    ⟨(some 51), none, .mov (.tmp 53)⟩,
    ⟨(some 54), none, .ext (.tmp 51) 0⟩,
    ⟨(some 55), none, .ext (.tmp 51) 1⟩,
    ⟨(some 9), none, .alloc [(.int .i64 0), (.int .i64 0)]⟩,
    ⟨none, none, .store 2 (.tmp 9) (.tmp 54)⟩,
    ⟨(some 10), none, .mov (.tmp 55)⟩])
 (.seq (.seq (.reg [⟨(some 56), none, .mov (.tmp 6)⟩,
     ⟨(some 57), none, .bin .neq (.tmp 56) (.lit (.int .i64 0))⟩,
     ⟨(some 58), none, .mov (.tmp 57)⟩,
     ⟨(some 59), (some (58, false)), .mov (.tmp 5)⟩,
     ⟨(some 60), (some (58, false)), .bin .lss (.tmp 59) (.lit (.int .i64 0))⟩,
     ⟨(some 61), none, .pick (.tmp 58) (.lit (.bool true)) (.tmp 60)⟩,
     ⟨(some 62), none, .mov (.tmp 61)⟩,
     ⟨(some 63), (some (62, false)), .mov (.tmp 8)⟩,
     ⟨(some 64), (some (62, false)), .bin .neq (.tmp 63) (.lit (.int .i64 2))⟩,
     ⟨(some 65), none, .pick (.tmp 62) (.lit (.bool true)) (.tmp 64)⟩,
     ⟨(some 66), none, .mov (.tmp 65)⟩,
     ⟨(some 67), (some (66, false)), .mov (.tmp 10)⟩,
     ⟨(some 68), (some (66, false)), .bin .neq (.tmp 67) (.lit (.int .i64 2))⟩,
     ⟨(some 69), none, .pick (.tmp 66) (.lit (.bool true)) (.tmp 68)⟩])
  (.cond (.tmp 69) (.seq (.reg [⟨(some 4), none, .mov (.lit (.bool false))⟩])
   (.ret))
    (.skip)))
 (.seq (.seq (.reg [⟨(some 70), none, .faddr 0 (.tmp 2)⟩,
     ⟨(some 71), none, .load false 1 (.tmp 70)⟩,
     ⟨(some 72), none, .len (.tmp 71)⟩,
     ⟨(some 73), none, .bin .eql (.tmp 72) (.lit (.int .i64 0))⟩])
  (.cond (.tmp 73) (.seq (.reg [⟨(some 74), none, .call (.fn 14) []⟩,
      ⟨(some 4), none, .mov (.tmp 74)⟩])
   (.ret))
    (.skip)))
 (.seq (.reg [⟨(some 75), none, .mov (.tmp 1)⟩,
    ⟨(some 76), none, .conv .i64 (.tmp 75)⟩,
    ⟨(some 77), none, .faddr 0 (.tmp 2)⟩,
    ⟨(some 78), none, .load false 1 (.tmp 77)⟩,
    ⟨(some 79), none, .len (.tmp 78)⟩,
    ⟨(some 80), none, .bin .rem (.tmp 76) (.tmp 79)⟩,
    ⟨(some 11), none, .mov (.tmp 80)⟩])
 (.seq (.reg [⟨(some 82), none, .load true 3 (.tmp 2)⟩,
    ⟨(some 83), none, .mov (.tmp 11)⟩,
    ⟨(some 84), none, .call (.fn 15) [(.tmp 82), (.tmp 83)]⟩,
    ⟨(some 81), none, .mov (.tmp 84)⟩,
    ⟨(some 85), none, .ext (.tmp 81) 0⟩,
    ⟨(some 86), none, .ext (.tmp 81) 1⟩,
    ⟨(some 12), none, .alloc [(.int .i64 0), (.int .i64 0)]⟩,
    ⟨none, none, .store 2 (.tmp 12) (.tmp 85)⟩,
    ⟨(some 13), none, .mov (.tmp 86)⟩])
 (.seq (.reg [⟨(some 88), none, .load true 3 (.tmp 2)⟩,
    ⟨(some 89), none, .mov (.tmp 11)⟩,
    ⟨(some 90), none, .call (.fn 17) [(.tmp 88), (.tmp 89)]⟩,
    ⟨(some 87), none, .mov (.tmp 90)⟩,
    ⟨(some 91), none, .ext (.tmp 87) 0⟩,
    ⟨(some 92), none, .ext (.tmp 87) 1⟩,
    ⟨(some 14), none, .alloc [(.int .i64 0), (.int .i64 0)]⟩,
    ⟨none, none, .store 2 (.tmp 14) (.tmp 91)⟩,
    ⟨(some 15), none, .mov (.tmp 92)⟩])
 (.seq (.reg [⟨(some 94), none, .load true 3 (.tmp 2)⟩,
    ⟨(some 95), none, .call (.fn 21) [(.tmp 94)]⟩,
    ⟨(some 93), none, .mov (.tmp 95)⟩,
    ⟨(some 96), none, .ext (.tmp 93) 0⟩,
    ⟨(some 97), none, .ext (.tmp 93) 1⟩,
    ⟨(some 16), none, .alloc [(.int .i64 0), (.int .i64 0)]⟩,
    ⟨none, none, .store 2 (.tmp 16) (.tmp 96)⟩,
    ⟨(some 17), none, .mov (.tmp 97)⟩])
 (.seq (.seq (.reg [⟨(some 98), none, .mov (.tmp 13)⟩,
     ⟨(some 99), none, .bin .neq (.tmp 98) (.lit (.int .i64 0))⟩,
     ⟨(some 100), none, .mov (.tmp 99)⟩,
     ⟨(some 101), (some (100, false)), .mov (.tmp 15)⟩,
     ⟨(some 102), (some (100, false)), .bin .eql (.tmp 101) (.lit (.int .i64 0))⟩,
     ⟨(some 103), (some (100, false)), .mov (.tmp 5)⟩,
     ⟨(some 104), (some (100, false)), .bin .gtr (.tmp 103) (.lit (.int .i64 0))⟩,
     ⟨(some 105), (some (100, false)), .eqb true (.tmp 102) (.tmp 104)⟩,
     ⟨(some 106), none, .pick (.tmp 100) (.lit (.bool true)) (.tmp 105)⟩,
     ⟨(some 107), none, .mov (.tmp 106)⟩,
     ⟨(some 108), (some (107, false)), .mov (.tmp 17)⟩,
     ⟨(some 109), (some (107, false)), .mov (.tmp 15)⟩,
     ⟨(some 110), (some (107, false)), .bin .neq (.tmp 108) (.tmp 109)⟩,
     ⟨(some 111), none, .pick (.tmp 107) (.lit (.bool true)) (.tmp 110)⟩,
     ⟨(some 112), none, .mov (.tmp 111)⟩,
     ⟨(some 113), (some (112, false)), .mov (.tmp 15)⟩,
     ⟨(some 114), (some (112, false)), .bin .neq (.tmp 113) (.lit (.int .i64 0))⟩,
     ⟨(some 115), (some (112, false)), .mov (.tmp 114)⟩,
     ⟨(some 116), (some (115, true)), .mov (.tmp 15)⟩,
     ⟨(some 117), (some (115, true)), .bin .neq (.tmp 116) (.lit (.int .i64 10))⟩,
     ⟨(some 118), (some (115, true)), .mov (.tmp 117)⟩,
     ⟨(some 119), (some (118, false)), .load true 2 (.tmp 14)⟩,
     ⟨(some 120), (some (118, false)), .build [(.int .i64 0), (.int .i64 0)] []⟩,
     ⟨(some 121), (some (118, false)), .eqs true [(some .i64), (some .i64)] (.tmp 119) (.tmp 120)⟩,
     ⟨(some 122), (some (115, true)), .pick (.tmp 118) (.lit (.bool true)) (.tmp 121)⟩,
     ⟨(some 123), (some (115, true)), .mov (.tmp 122)⟩,
     ⟨(some 124), (some (123, false)), .load true 2 (.tmp 16)⟩,
     ⟨(some 125), (some (123, false)), .build [(.int .i64 0), (.int .i64 0)] []⟩,
     ⟨(some 126), (some (123, false)), .eqs true [(some .i64), (some .i64)] (.tmp 124) (.tmp 125)⟩,
     ⟨(some 127), (some (115, true)), .pick (.tmp 123) (.lit (.bool true)) (.tmp 126)⟩,
     ⟨(some 128), (some (112, false)), .pick (.tmp 115) (.tmp 127) (.lit (.bool false))⟩,
     ⟨(some 129), none, .pick (.tmp 112) (.lit (.bool true)) (.tmp 128)⟩])
  (.cond (.tmp 129) (.seq (.reg [⟨(some 4), none, .mov (.lit (.bool false))⟩])
   (.ret))
    (.skip)))
 (.seq (.reg [⟨(some 130), none, .faddr 0 (.tmp 2)⟩,
    ⟨(some 131), none, .load false 1 (.tmp 130)⟩,
    ⟨(some 132), none, .mov (.tmp 11)⟩,
    ⟨(some 133), none, .iaddr 6 (.tmp 131) (.tmp 132)⟩,
    ⟨(some 134), none, .load true 6 (.tmp 133)⟩,
    ⟨(some 18), none, .alloc [(.int .i64 0), (.int .i64 0), (.int .i64 0), (.int .i64 0), (.int .i64 0), (.int .i64 0)]⟩,
    ⟨none, none, .store 6 (.tmp 18) (.tmp 134)⟩])
 (.seq (.seq (.reg [⟨(some 135), none, .faddr 0 (.tmp 12)⟩,
     ⟨(some 136), none, .load false 1 (.tmp 135)⟩,
     ⟨(some 137), none, .faddr 2 (.tmp 18)⟩,
     ⟨(some 138), none, .faddr 0 (.tmp 137)⟩,
     ⟨(some 139), none, .load false 1 (.tmp 138)⟩,
     ⟨(some 140), none, .faddr 4 (.tmp 18)⟩,
     ⟨(some 141), none, .faddr 1 (.tmp 140)⟩,
     ⟨(some 142), none, .load false 1 (.tmp 141)⟩,
     ⟨(some 143), none, .bin .sub (.tmp 139) (.tmp 142)⟩,
     ⟨(some 144), none, .mxmn true (.lit (.int .i64 0)) [(.tmp 143)]⟩,
     ⟨(some 145), none, .bin .neq (.tmp 136) (.tmp 144)⟩,
     ⟨(some 146), none, .mov (.tmp 145)⟩,
     ⟨(some 147), (some (146, false)), .faddr 1 (.tmp 12)⟩,
     ⟨(some 148), (some (146, false)), .load false 1 (.tmp 147)⟩,
     ⟨(some 149), (some (146, false)), .faddr 2 (.tmp 18)⟩,
     ⟨(some 150), (some (146, false)), .faddr 1 (.tmp 149)⟩,
     ⟨(some 151), (some (146, false)), .load false 1 (.tmp 150)⟩,
     ⟨(some 152), (some (146, false)), .faddr 4 (.tmp 18)⟩,
     ⟨(some 153), (some (146, false)), .faddr 0 (.tmp 152)⟩,
     ⟨(some 154), (some (146, false)), .load false 1 (.tmp 153)⟩,
     ⟨(some 155), (some (146, false)), .bin .sub (.tmp 151) (.tmp 154)⟩,
     ⟨(some 156), (some (146, false)), .bin .neq (.tmp 148) (.tmp 155)⟩,
     ⟨(some 157), none, .pick (.tmp 146) (.lit (.bool true)) (.tmp 156)⟩])
  (.cond (.tmp 157) (.seq (.reg [⟨(some 4), none, .mov (.lit (.bool false))⟩])
   (.ret))
    (.skip)))
 (.seq (.reg [⟨(some 19), none, .mov (.lit (.int .i64 0))⟩])
 (.seq (.seq (.reg [⟨(some 158), none, .faddr 0 (.tmp 12)⟩,
     ⟨(some 159), none, .load false 1 (.tmp 158)⟩,
     ⟨(some 20), none, .mov (.tmp 159)⟩])
  (.block 0 (.loop (.seq (.seq (.reg [⟨(some 160), none, .mov (.tmp 20)⟩,
       ⟨(some 161), none, .faddr 1 (.tmp 12)⟩,
       ⟨(some 162), none, .load false 1 (.tmp 161)⟩,
       ⟨(some 163), none, .bin .leq (.tmp 160) (.tmp 162)⟩])
    (.cond (.tmp 163) (.skip)
      (.exit 0)))
   (.seq (.block 1 (.seq (.reg [⟨(some 167), none, .load true 3 (.tmp 2)⟩,
       ⟨(some 168), none, .mov (.tmp 11)⟩,
       ⟨(some 169), none, .mov (.tmp 20)⟩,
       ⟨(some 170), none, .call (.fn 36) [(.tmp 167), (.tmp 168), (.tmp 169)]⟩,
       ⟨(some 171), none, .call (.fn 23) [(.tmp 170)]⟩,
       ⟨(some 166), none, .mov (.tmp 171)⟩,
       ⟨(some 172), none, .ext (.tmp 166) 0⟩,
       ⟨(some 173), none, .ext (.tmp 166) 1⟩,
       ⟨(some 21), none, .mov (.tmp 172)⟩,
       ⟨(some 22), none, .mov (.tmp 173)⟩])
    (.seq (.seq (.reg [⟨(some 174), none, .mov (.tmp 22)⟩,
        ⟨(some 175), none, .bin .neq (.tmp 174) (.lit (.int .i64 0))⟩,
        ⟨(some 176), none, .mov (.tmp 175)⟩,
        ⟨(some 177), (some (176, false)), .mov (.tmp 21)⟩,
        ⟨(some 178), (some (176, false)), .bin .gtr (.tmp 177) (.lit (.int .i64 0))⟩,
        ⟨(some 179), (some (176, false)), .mov (.tmp 5)⟩,
        ⟨(some 180), (some (176, false)), .bin .gtr (.tmp 179) (.lit (.int .i64 0))⟩,
        ⟨(some 181), (some (176, false)), .mov (.tmp 180)⟩,
        ⟨(some 182), (some (181, true)), .mov (.tmp 20)⟩,
        ⟨(some 183), (some (181, true)), .load true 2 (.tmp 14)⟩,
        ⟨(some 184), (some (181, true)), .call (.fn 33) [(.tmp 182), (.tmp 183)]⟩,
        ⟨(some 185), (some (176, false)), .pick (.tmp 181) (.tmp 184) (.lit (.bool false))⟩,
        ⟨(some 186), (some (176, false)), .eqb true (.tmp 178) (.tmp 185)⟩,
        ⟨(some 187), none, .pick (.tmp 176) (.lit (.bool true)) (.tmp 186)⟩])
     (.cond (.tmp 187) (.seq (.reg [⟨(some 4), none, .mov (.lit (.bool false))⟩])
      (.ret))
       (.skip)))
    (.reg [⟨(some 188), none, .mov (.tmp 19)⟩,
      ⟨(some 189), none, .mov (.tmp 21)⟩,
      ⟨(some 190), none, .bin .add (.tmp 188) (.tmp 189)⟩,
      ⟨(some 19), none, .mov (.tmp 190)⟩]))))
   (.reg [⟨(some 164), none, .mov (.tmp 20)⟩,
     ⟨(some 165), none, .bin .add (.tmp 164) (.lit (.int .i64 1))⟩,
     ⟨(some 20), none, .mov (.tmp 165)⟩]))))))
 (.seq (.reg [⟨(some 191), none, .mov (.tmp 19)⟩,
    ⟨(some 192), none, .mov (.tmp 5)⟩,
    ⟨(some 193), none, .bin .eql (.tmp 191) (.tmp 192)⟩,
    ⟨(some 194), none, .mov (.tmp 193)⟩,
    ⟨(some 195), (some (194, true)), .call (.fn 14) []⟩,
    ⟨(some 196), none, .pick (.tmp 194) (.tmp 195) (.lit (.bool false))⟩,
    ⟨(some 4), none, .mov (.tmp 196)⟩])
 (.ret))))))))))))))))))
theorem k7 : FnC Try.prog 7 197 [] [] [.tmp 4] c7 2 := ⟨Try.f7, _, Try.func7, rfl, by decide, rfl, by decide, by kernel_rfl, by kernel_rfl⟩
end Go.Proofs.Yticdacdflemoiaa

/- TowelEnds. -/
namespace Go.Proofs.Yticdacdflemoiaa
open Go Go.Ab

set_option maxRecDepth 8000 in
set_option maxHeartbeats 4000000 in
theorem TowelEnds_ok (t : Tw) (w : Nat) (hw : w < 256) : ACall Try.prog 7 [.t (.agg (tw3 t)), .t (.lit (.int .u8 w))] [] (res (.ret (.t (vb true)))) := by
  have h23 := Count_ok t
  rw [Count_eq] at h23
  refine ACall.walk k7 ?_
  unfold c7
  have htw : tw3 t = [.slice 6 (t.bs.map tB), .slice 2 (t.hs.map tS), .slice 2 (t.vs.map tS)] := rfl
  have hfar := far_ok t
  have hrt := rtowels_ok t
  rw [htw] at h23 hfar hrt ⊢
  simp only [go_sem, Nat.reduceEqDiff, Nat.reduceAdd, Nat.reduceSub, Nat.reduceMul, Nat.reduceLT, Nat.reduceLeDiff, Nat.reduceMod, Nat.reduceDiv, Int.reduceToNat, Int.reduceLT, Int.reduceLE, Bool.not_true, Bool.not_false, reduceIte, Int.reduceEq, Int.reduceBEq, Int.reduceBNe, Int.reduceGT, Int.reduceGE, Int.reduceNeg, Int.reduceAdd, Int.reduceSub, Nat.reduceBEq, decide_true, decide_false, undef, beq_self_eq_true, bne_self_eq_false, Bool.and_true, Bool.true_and, Bool.and_false, Bool.false_and, Bool.or_true, Bool.true_or, Bool.or_false, Bool.false_or]
  refine ACallL.quiet1 hfar rfl rfl rfl ?_
  cases hF : farB t
  case true =>
    simp only [go_sem, Nat.reduceEqDiff, Nat.reduceAdd, Nat.reduceSub, Nat.reduceMul, Nat.reduceLT, Nat.reduceLeDiff, Nat.reduceMod, Nat.reduceDiv, Int.reduceToNat, Int.reduceLT, Int.reduceLE, Bool.not_true, Bool.not_false, reduceIte, Int.reduceEq, Int.reduceBEq, Int.reduceBNe, Int.reduceGT, Int.reduceGE, Int.reduceNeg, Int.reduceAdd, Int.reduceSub, Nat.reduceBEq, decide_true, decide_false, undef, beq_self_eq_true, bne_self_eq_false, Bool.and_true, Bool.true_and, Bool.and_false, Bool.false_and, Bool.or_true, Bool.true_or, Bool.or_false, Bool.false_or]
    refine ACallL.quiet1 awake_ok rfl rfl rfl ?_
    simp only [go_sem, Nat.reduceEqDiff, Nat.reduceAdd, Nat.reduceSub, Nat.reduceMul, Nat.reduceLT, Nat.reduceLeDiff, Nat.reduceMod, Nat.reduceDiv, Int.reduceToNat, Int.reduceLT, Int.reduceLE, Bool.not_true, Bool.not_false, reduceIte, Int.reduceEq, Int.reduceBEq, Int.reduceBNe, Int.reduceGT, Int.reduceGE, Int.reduceNeg, Int.reduceAdd, Int.reduceSub, Nat.reduceBEq, decide_true, decide_false, undef, beq_self_eq_true, bne_self_eq_false, Bool.and_true, Bool.true_and, Bool.and_false, Bool.false_and, Bool.or_true, Bool.true_or, Bool.or_false, Bool.false_or]
    exact finL_ret [] ⟨rfl, rfl, rfl, rfl, _, rfl, res_mk rfl⟩
  have hL : t.bs.length < 9223372036854775808 := by
    unfold farB at hF
    have : ¬ (max (max (t.bs.length : Int) t.hs.length) t.vs.length > 40) := by simpa using hF
    omega
  cases hok : t.ok
  · rw [show docCount t = ((0 : Int), (1 : Int)) by simp only [docCount, hok]; rfl] at h23
    simp only [oneE] at h23
    rw [hok] at hrt
    simp only [go_sem, Nat.reduceEqDiff, Nat.reduceAdd, Nat.reduceSub, Nat.reduceMul, Nat.reduceLT, Nat.reduceLeDiff, Nat.reduceMod, Nat.reduceDiv, Int.reduceToNat, Int.reduceLT, Int.reduceLE, Bool.not_true, Bool.not_false, reduceIte, Int.reduceEq, Int.reduceBEq, Int.reduceBNe, Int.reduceGT, Int.reduceGE, Int.reduceNeg, Int.reduceAdd, Int.reduceSub, Nat.reduceBEq, decide_true, decide_false, undef, beq_self_eq_true, bne_self_eq_false, Bool.and_true, Bool.true_and, Bool.and_false, Bool.false_and, Bool.or_true, Bool.true_or, Bool.or_false, Bool.false_or]
    refine ACallL.quiet1 h23 rfl rfl rfl ?_
    simp only [go_sem, Nat.reduceEqDiff, Nat.reduceAdd, Nat.reduceSub, Nat.reduceMul, Nat.reduceLT, Nat.reduceLeDiff, Nat.reduceMod, Nat.reduceDiv, Int.reduceToNat, Int.reduceLT, Int.reduceLE, Bool.not_true, Bool.not_false, reduceIte, Int.reduceEq, Int.reduceBEq, Int.reduceBNe, Int.reduceGT, Int.reduceGE, Int.reduceNeg, Int.reduceAdd, Int.reduceSub, Nat.reduceBEq, decide_true, decide_false, undef, beq_self_eq_true, bne_self_eq_false, Bool.and_true, Bool.true_and, Bool.and_false, Bool.false_and, Bool.or_true, Bool.true_or, Bool.or_false, Bool.false_or]
    refine ACallL.quiet1 hrt rfl rfl rfl ?_
    simp only [go_sem, Nat.reduceEqDiff, Nat.reduceAdd, Nat.reduceSub, Nat.reduceMul, Nat.reduceLT, Nat.reduceLeDiff, Nat.reduceMod, Nat.reduceDiv, Int.reduceToNat, Int.reduceLT, Int.reduceLE, Bool.not_true, Bool.not_false, reduceIte, Int.reduceEq, Int.reduceBEq, Int.reduceBNe, Int.reduceGT, Int.reduceGE, Int.reduceNeg, Int.reduceAdd, Int.reduceSub, Nat.reduceBEq, decide_true, decide_false, undef, beq_self_eq_true, bne_self_eq_false, Bool.and_true, Bool.true_and, Bool.and_false, Bool.false_and, Bool.or_true, Bool.true_or, Bool.or_false, Bool.false_or]
    refine ACallL.quiet1 awake_ok rfl rfl rfl ?_
    simp only [go_sem, Nat.reduceEqDiff, Nat.reduceAdd, Nat.reduceSub, Nat.reduceMul, Nat.reduceLT, Nat.reduceLeDiff, Nat.reduceMod, Nat.reduceDiv, Int.reduceToNat, Int.reduceLT, Int.reduceLE, Bool.not_true, Bool.not_false, reduceIte, Int.reduceEq, Int.reduceBEq, Int.reduceBNe, Int.reduceGT, Int.reduceGE, Int.reduceNeg, Int.reduceAdd, Int.reduceSub, Nat.reduceBEq, decide_true, decide_false, undef, beq_self_eq_true, bne_self_eq_false, Bool.and_true, Bool.true_and, Bool.and_false, Bool.false_and, Bool.or_true, Bool.true_or, Bool.or_false, Bool.false_or]
    exact finL_ret [] ⟨rfl, rfl, rfl, rfl, _, rfl, res_mk rfl⟩
  have ht := (Tw.ok_iff t).1 hok
  have hnb := ht.nb
  rw [show docCount t = (((docA t).length : Int), (0 : Int)) by simp only [docCount, hok]; rfl] at h23
  rw [hok] at hrt
  have h15 := Own_ok t t.bs.length hL
  have e15 : specOwn t t.bs.length = ((0, 0), 2) := by
    have : t.isB (t.bs.length : Int) = false := by unfold Tw.isB wI; simp; omega
    simp only [specOwn, hok, this]; rfl
  have h17 := Kept_ok t (-1) hL
  have e17 : specKept t (-1) = ((0, 0), 2) := by
    have : t.isB (-1) = false := by unfold Tw.isB wI; simp
    simp only [specKept, hok, this]; rfl
  rw [e15] at h15
  rw [e17] at h17
  simp only [oneE, spanE, tS] at h23 h15 h17
  rw [htw] at h15 h17
  have g0 : decide (((docA t).length : Int) < 0) = false := by simp
  simp only [go_sem, Nat.reduceEqDiff, Nat.reduceAdd, Nat.reduceSub, Nat.reduceMul, Nat.reduceLT, Nat.reduceLeDiff, Nat.reduceMod, Nat.reduceDiv, Int.reduceToNat, Int.reduceLT, Int.reduceLE, Bool.not_true, Bool.not_false, reduceIte, Int.reduceEq, Int.reduceBEq, Int.reduceBNe, Int.reduceGT, Int.reduceGE, Int.reduceNeg, Int.reduceAdd, Int.reduceSub, Nat.reduceBEq, decide_true, decide_false, undef, beq_self_eq_true, bne_self_eq_false, Bool.and_true, Bool.true_and, Bool.and_false, Bool.false_and, Bool.or_true, Bool.true_or, Bool.or_false, Bool.false_or]
  refine ACallL.quiet1 h23 rfl rfl rfl ?_
  simp only [go_sem, Nat.reduceEqDiff, Nat.reduceAdd, Nat.reduceSub, Nat.reduceMul, Nat.reduceLT, Nat.reduceLeDiff, Nat.reduceMod, Nat.reduceDiv, Int.reduceToNat, Int.reduceLT, Int.reduceLE, Bool.not_true, Bool.not_false, reduceIte, Int.reduceEq, Int.reduceBEq, Int.reduceBNe, Int.reduceGT, Int.reduceGE, Int.reduceNeg, Int.reduceAdd, Int.reduceSub, Nat.reduceBEq, decide_true, decide_false, undef, beq_self_eq_true, bne_self_eq_false, Bool.and_true, Bool.true_and, Bool.and_false, Bool.false_and, Bool.or_true, Bool.true_or, Bool.or_false, Bool.false_or]
  refine ACallL.quiet1 hrt rfl rfl rfl ?_
  simp only [go_sem, Nat.reduceEqDiff, Nat.reduceAdd, Nat.reduceSub, Nat.reduceMul, Nat.reduceLT, Nat.reduceLeDiff, Nat.reduceMod, Nat.reduceDiv, Int.reduceToNat, Int.reduceLT, Int.reduceLE, Bool.not_true, Bool.not_false, reduceIte, Int.reduceEq, Int.reduceBEq, Int.reduceBNe, Int.reduceGT, Int.reduceGE, Int.reduceNeg, Int.reduceAdd, Int.reduceSub, Nat.reduceBEq, decide_true, decide_false, undef, beq_self_eq_true, bne_self_eq_false, Bool.and_true, Bool.true_and, Bool.and_false, Bool.false_and, Bool.or_true, Bool.true_or, Bool.or_false, Bool.false_or, List.length_map]
  refine ACallL.quiet1 h15 rfl rfl rfl ?_
  simp only [go_sem, Nat.reduceEqDiff, Nat.reduceAdd, Nat.reduceSub, Nat.reduceMul, Nat.reduceLT, Nat.reduceLeDiff, Nat.reduceMod, Nat.reduceDiv, Int.reduceToNat, Int.reduceLT, Int.reduceLE, Bool.not_true, Bool.not_false, reduceIte, Int.reduceEq, Int.reduceBEq, Int.reduceBNe, Int.reduceGT, Int.reduceGE, Int.reduceNeg, Int.reduceAdd, Int.reduceSub, Nat.reduceBEq, decide_true, decide_false, undef, beq_self_eq_true, bne_self_eq_false, Bool.and_true, Bool.true_and, Bool.and_false, Bool.false_and, Bool.or_true, Bool.true_or, Bool.or_false, Bool.false_or]
  refine ACallL.quiet1 h17 rfl rfl rfl ?_
  simp only [go_sem, Nat.reduceEqDiff, Nat.reduceAdd, Nat.reduceSub, Nat.reduceMul, Nat.reduceLT, Nat.reduceLeDiff, Nat.reduceMod, Nat.reduceDiv, Int.reduceToNat, Int.reduceLT, Int.reduceLE, Bool.not_true, Bool.not_false, reduceIte, Int.reduceEq, Int.reduceBEq, Int.reduceBNe, Int.reduceGT, Int.reduceGE, Int.reduceNeg, Int.reduceAdd, Int.reduceSub, Nat.reduceBEq, decide_true, decide_false, undef, beq_self_eq_true, bne_self_eq_false, Bool.and_true, Bool.true_and, Bool.and_false, Bool.false_and, Bool.or_true, Bool.true_or, Bool.or_false, Bool.false_or, g0, List.length_map]
  cases hz : ((t.bs.length : Int) == 0)
  case true =>
    simp only [go_sem, Nat.reduceEqDiff, Nat.reduceAdd, Nat.reduceSub, Nat.reduceMul, Nat.reduceLT, Nat.reduceLeDiff, Nat.reduceMod, Nat.reduceDiv, Int.reduceToNat, Int.reduceLT, Int.reduceLE, Bool.not_true, Bool.not_false, reduceIte, Int.reduceEq, Int.reduceBEq, Int.reduceBNe, Int.reduceGT, Int.reduceGE, Int.reduceNeg, Int.reduceAdd, Int.reduceSub, Nat.reduceBEq, decide_true, decide_false, undef, beq_self_eq_true, bne_self_eq_false, Bool.and_true, Bool.true_and, Bool.and_false, Bool.false_and, Bool.or_true, Bool.true_or, Bool.or_false, Bool.false_or]
    refine ACallL.quiet1 awake_ok rfl rfl rfl ?_
    simp only [go_sem, Nat.reduceEqDiff, Nat.reduceAdd, Nat.reduceSub, Nat.reduceMul, Nat.reduceLT, Nat.reduceLeDiff, Nat.reduceMod, Nat.reduceDiv, Int.reduceToNat, Int.reduceLT, Int.reduceLE, Bool.not_true, Bool.not_false, reduceIte, Int.reduceEq, Int.reduceBEq, Int.reduceBNe, Int.reduceGT, Int.reduceGE, Int.reduceNeg, Int.reduceAdd, Int.reduceSub, Nat.reduceBEq, decide_true, decide_false, undef, beq_self_eq_true, bne_self_eq_false, Bool.and_true, Bool.true_and, Bool.and_false, Bool.false_and, Bool.or_true, Bool.true_or, Bool.or_false, Bool.false_or]
    exact finL_ret [] ⟨rfl, rfl, rfl, rfl, _, rfl, res_mk rfl⟩
  have hn0 : ¬ ((t.bs.length : Int) = 0) := by simpa using hz
  have t1 : (w : Int).tmod t.bs.length = ((w % t.bs.length : Nat) : Int) := by rw [Int.tmod_eq_emod_of_nonneg (by omega)]; rfl
  have w0 : IntKind.i64.wrap (w : Int) = w := wrap_id (by omega) (by omega)
  have hbl := Nat.mod_lt w (show 0 < t.bs.length by omega)
  generalize w % t.bs.length = b at *
  have hx : t.bs[b]? = some t.bs[b] := List.getElem?_eq_getElem hbl
  have hq := ht.bs _ (List.getElem_mem hbl)
  generalize t.bs[b] = x at *
  have hisB : t.isB (b : Int) = true := by unfold Tw.isB wI; simp; omega
  have o15 := Own_ok t b hL
  rw [show specOwn t b = (words x, 0) by simp only [specOwn, hok, hisB, Int.toNat_natCast, hx]; rfl] at o15
  have o17 := Kept_ok t b hL
  have o21 := All_ok t
  rw [Kept_eq] at o17
  rw [All_eq] at o21
  have hwd := words_bound t ht (List.mem_of_getElem? hx)
  have hwx : words x = (max 0 (x.ll - x.bh), x.lh - x.bl) := rfl
  have hcnt : ∀ j : Nat, (words x).1 + (j : Int) ≤ (words x).2 → specCount (keepsT t b x ((words x).1 + j)) = (waysN t b 0 ((words x).1 + j), 0) := fun j hj => by
    have h1 := count_keeps ht hx (n := (words x).1 + (j : Int)) (by omega)
    have hK := (Tw.ok_iff _).2 (keepsT_OK ht hx (n := (words x).1 + (j : Int)) (by omega))
    refine Prod.ext h1 ?_
    unfold specCount
    rw [hK]
    rfl
  have hsum := sumW_all ht hx
  have hsb : ∀ j : Nat, j < ((words x).2 - (words x).1 + 1).toNat → -1000000 ≤ sumW t b (words x).1 j ∧ sumW t b (words x).1 j ≤ 1000000 ∧ 0 ≤ waysN t b 0 ((words x).1 + j) ∧ waysN t b 0 ((words x).1 + j) ≤ 1000000 := fun j hj => by
    rw [sumW_eq ht hbl]
    have h1 : (docA t).countP (fun l => decide ((words x).1 ≤ l.getD b 0 ∧ l.getD b 0 < (words x).1 + (j : Int))) ≤ (docA t).length := List.countP_le_length
    have h2 := docT_many ht (2 ^ t.hs.length - 1) (2 ^ t.vs.length - 1)
    have h3 : (docA t).length ≤ 15625 := h2
    have h4 : waysN t b 0 ((words x).1 + j) ≤ (docA t).length := by
      unfold waysN
      rw [truthsA_one ht b hbl]
      have := List.length_filter_le (fun l => l.getD b 0 == (words x).1 + (j : Int)) (docA t)
      omega
    have h5 : 0 ≤ waysN t b 0 ((words x).1 + j) := by unfold waysN; omega
    omega
  have hkeep := fun n => keeps_ok t ht b x hx n
  -- what is told of the bather: the same of each number
  have fin : ∀ (u al : Int × Int) (e1 : Int), docKept t b = (u, e1) → docAll t = (al, e1) → (e1 == 0) = decide (((docA t).length : Int) > 0) → (e1 ≠ 0 → e1 = 10 ∧ u = (0, 0) ∧ al = (0, 0)) →
      (∀ k : Int, decide (waysN t b 0 k > 0) = (decide (((docA t).length : Int) > 0) && wI k u.1 u.2)) → True := fun _ _ _ _ _ _ _ _ => trivial
  obtain ⟨u, al, e1, q1, q2, q3, q4, q5⟩ : ∃ (u al : Int × Int) (e1 : Int), docKept t b = (u, e1) ∧ docAll t = (al, e1) ∧ (e1 == 0) = decide (((docA t).length : Int) > 0) ∧ (e1 ≠ 0 → e1 = 10 ∧ u = (0, 0) ∧ al = (0, 0)) ∧
      (∀ k : Int, decide (waysN t b 0 k > 0) = (decide (((docA t).length : Int) > 0) && wI k u.1 u.2)) := by
    cases hD : (docA t).isEmpty
    · have hne : docA t ≠ [] := by simpa using hD
      have hpos : 0 < (docA t).length := List.length_pos_iff.2 hne
      refine ⟨hullD ((docA t).map fun l => l.getD b 0), hullD ((docA t).map fun l => l.sum), 0, by simp only [docKept, hok, hisB, hD, Int.toNat_natCast]; rfl, by simp only [docAll, hok, hD]; rfl, ?_, fun h => absurd rfl h, fun k => ?_⟩
      · simp; omega
      · have h1 := ways_in ht hbl hne k
        rw [← h1]
        have : decide (((docA t).length : Int) > 0) = true := by simp; omega
        rw [this]
        rfl
    · have he : docA t = [] := by simpa using hD
      refine ⟨(0, 0), (0, 0), 10, by simp only [docKept, hok, hisB, hD]; rfl, by simp only [docAll, hok, hD]; rfl, by rw [he]; rfl, fun _ => ⟨rfl, rfl, rfl⟩, fun k => ?_⟩
      have : waysN t b 0 k = 0 := by unfold waysN; rw [truthsA_one ht b hbl, he]; rfl
      rw [this, he]
      rfl
  clear fin
  rw [q1] at o17
  rw [q2] at o21
  generalize (docA t).length = N at *
  simp only [spanE, tS] at o15 o17 o21
  rw [htw] at o15 o17 o21
  have hn1 : IntKind.i64.wrap (x.ll - x.bh) = x.ll - x.bh := wrap_id (by omega) (by omega)
  have hn2 : IntKind.i64.wrap (x.lh - x.bl) = x.lh - x.bl := wrap_id (by omega) (by omega)
  have hw1 : (words x).1 = max 0 (x.ll - x.bh) := rfl
  have hw2 : (words x).2 = x.lh - x.bl := rfl
  have hbi : (b : Int) < t.bs.length := by omega
  simp only [go_sem, Nat.reduceEqDiff, Nat.reduceAdd, Nat.reduceSub, Nat.reduceMul, Nat.reduceLT, Nat.reduceLeDiff, Nat.reduceMod, Nat.reduceDiv, Int.reduceToNat, Int.reduceLT, Int.reduceLE, Bool.not_true, Bool.not_false, reduceIte, Int.reduceEq, Int.reduceBEq, Int.reduceBNe, Int.reduceGT, Int.reduceGE, Int.reduceNeg, Int.reduceAdd, Int.reduceSub, Nat.reduceBEq, decide_true, decide_false, undef, beq_self_eq_true, bne_self_eq_false, Bool.and_true, Bool.true_and, Bool.and_false, Bool.false_and, Bool.or_true, Bool.true_or, Bool.or_false, Bool.false_or, hn0, t1, w0, List.length_map]
  refine ACallL.quiet1 o15 rfl rfl rfl ?_
  simp only [go_sem, Nat.reduceEqDiff, Nat.reduceAdd, Nat.reduceSub, Nat.reduceMul, Nat.reduceLT, Nat.reduceLeDiff, Nat.reduceMod, Nat.reduceDiv, Int.reduceToNat, Int.reduceLT, Int.reduceLE, Bool.not_true, Bool.not_false, reduceIte, Int.reduceEq, Int.reduceBEq, Int.reduceBNe, Int.reduceGT, Int.reduceGE, Int.reduceNeg, Int.reduceAdd, Int.reduceSub, Nat.reduceBEq, decide_true, decide_false, undef, beq_self_eq_true, bne_self_eq_false, Bool.and_true, Bool.true_and, Bool.and_false, Bool.false_and, Bool.or_true, Bool.true_or, Bool.or_false, Bool.false_or]
  refine ACallL.quiet1 o17 rfl rfl rfl ?_
  simp only [go_sem, Nat.reduceEqDiff, Nat.reduceAdd, Nat.reduceSub, Nat.reduceMul, Nat.reduceLT, Nat.reduceLeDiff, Nat.reduceMod, Nat.reduceDiv, Int.reduceToNat, Int.reduceLT, Int.reduceLE, Bool.not_true, Bool.not_false, reduceIte, Int.reduceEq, Int.reduceBEq, Int.reduceBNe, Int.reduceGT, Int.reduceGE, Int.reduceNeg, Int.reduceAdd, Int.reduceSub, Nat.reduceBEq, decide_true, decide_false, undef, beq_self_eq_true, bne_self_eq_false, Bool.and_true, Bool.true_and, Bool.and_false, Bool.false_and, Bool.or_true, Bool.true_or, Bool.or_false, Bool.false_or]
  refine ACallL.quiet1 o21 rfl rfl rfl ?_
  cases hN : decide ((N : Int) > 0)
  · have he1 : e1 ≠ 0 := by
      intro e
      rw [hN, e] at q3
      simp at q3
    obtain ⟨rfl, rfl, rfl⟩ := q4 he1
    simp only [go_sem, Nat.reduceEqDiff, Nat.reduceAdd, Nat.reduceSub, Nat.reduceMul, Nat.reduceLT, Nat.reduceLeDiff, Nat.reduceMod, Nat.reduceDiv, Int.reduceToNat, Int.reduceLT, Int.reduceLE, Bool.not_true, Bool.not_false, reduceIte, Int.reduceEq, Int.reduceBEq, Int.reduceBNe, Int.reduceGT, Int.reduceGE, Int.reduceNeg, Int.reduceAdd, Int.reduceSub, Nat.reduceBEq, decide_true, decide_false, undef, beq_self_eq_true, bne_self_eq_false, Bool.and_true, Bool.true_and, Bool.and_false, Bool.false_and, Bool.or_true, Bool.true_or, Bool.or_false, Bool.false_or, hN, toKey2, kEq2, nat_neg, List.getElem?_map, hx, tB, hn1, hn2, hw1, hw2, bne_self_eq_false]
    refine awpL_loopK ((words x).2 - (words x).1 + 1).toNat (fun j s => s = { env := [(20, .t (vi ((words x).1 + j))), (2, .t (.ptr (.agg (tw3 t)) 0)), (5, .t (vi N)), (11, .t (vi b)), (12, .t (.ptr (.agg [vi (words x).1, vi (words x).2]) 0)), (14, .t (.ptr (.agg [vi 0, vi 0]) 0)), (19, .t (vi (sumW t b (words x).1 j)))], σ := [] })
      ⟨_, Sub.gc [] [20, 2, 5, 11, 12, 14, 19] rfl rfl, by rw [show (words x).1 + ((0 : Nat) : Int) = (words x).1 by simp]; rfl⟩ ?_
    rintro j s hj rfl
    simp only [htw, go_sem, Nat.reduceEqDiff, Nat.reduceAdd, Nat.reduceSub, Nat.reduceMul, Nat.reduceLT, Nat.reduceLeDiff, Nat.reduceMod, Nat.reduceDiv, Int.reduceToNat, Int.reduceLT, Int.reduceLE, Bool.not_true, Bool.not_false, reduceIte, Int.reduceEq, Int.reduceBEq, Int.reduceBNe, Int.reduceGT, Int.reduceGE, Int.reduceNeg, Int.reduceAdd, Int.reduceSub, Nat.reduceBEq, decide_true, decide_false, undef, beq_self_eq_true, bne_self_eq_false, Bool.and_true, Bool.true_and, Bool.and_false, Bool.false_and, Bool.or_true, Bool.true_or, Bool.or_false, Bool.false_or]
    refine BrL.mk (fun hle => ?_) (fun hle => ?_)
    · have hle' : (words x).1 + (j : Int) ≤ (words x).2 := by simpa using hle
      have hC := Count_ok (keepsT t b x ((words x).1 + j))
      rw [hcnt j hle'] at hC
      have hK := hkeep ((words x).1 + j)
      have hB := hsb j (by omega)
      simp only [oneE] at hC
      have hq5 := q5 ((words x).1 + j)
      rw [hN, Bool.false_and] at hq5
      have hwa : IntKind.i64.wrap (sumW t b (words x).1 j + waysN t b 0 ((words x).1 + j)) = sumW t b (words x).1 (j + 1) := by rw [wrap_id (by omega) (by omega)]; rfl
      have hwj : IntKind.i64.wrap ((words x).1 + (j : Int) + 1) = (words x).1 + ((j + 1 : Nat) : Int) := by rw [wrap_id (by omega) (by omega)]; omega
      generalize waysN t b 0 ((words x).1 + j) = m at *
      rw [htw] at hK
      simp only [hle, go_sem, Nat.reduceEqDiff, Nat.reduceAdd, Nat.reduceSub, Nat.reduceMul, Nat.reduceLT, Nat.reduceLeDiff, Nat.reduceMod, Nat.reduceDiv, Int.reduceToNat, Int.reduceLT, Int.reduceLE, Bool.not_true, Bool.not_false, reduceIte, Int.reduceEq, Int.reduceBEq, Int.reduceBNe, Int.reduceGT, Int.reduceGE, Int.reduceNeg, Int.reduceAdd, Int.reduceSub, Nat.reduceBEq, decide_true, decide_false, undef, beq_self_eq_true, bne_self_eq_false, Bool.and_true, Bool.true_and, Bool.and_false, Bool.false_and, Bool.or_true, Bool.true_or, Bool.or_false, Bool.false_or]
      refine ACallL.fresh1 hK rfl ?_
      simp only [go_sem, Nat.reduceEqDiff, Nat.reduceAdd, Nat.reduceSub, Nat.reduceMul, Nat.reduceLT, Nat.reduceLeDiff, Nat.reduceMod, Nat.reduceDiv, Int.reduceToNat, Int.reduceLT, Int.reduceLE, Bool.not_true, Bool.not_false, reduceIte, Int.reduceEq, Int.reduceBEq, Int.reduceBNe, Int.reduceGT, Int.reduceGE, Int.reduceNeg, Int.reduceAdd, Int.reduceSub, Nat.reduceBEq, decide_true, decide_false, undef, beq_self_eq_true, bne_self_eq_false, Bool.and_true, Bool.true_and, Bool.and_false, Bool.false_and, Bool.or_true, Bool.true_or, Bool.or_false, Bool.false_or]
      refine ACallL.quiet1 hC rfl rfl rfl ?_
      simp only [go_sem, Nat.reduceEqDiff, Nat.reduceAdd, Nat.reduceSub, Nat.reduceMul, Nat.reduceLT, Nat.reduceLeDiff, Nat.reduceMod, Nat.reduceDiv, Int.reduceToNat, Int.reduceLT, Int.reduceLE, Bool.not_true, Bool.not_false, reduceIte, Int.reduceEq, Int.reduceBEq, Int.reduceBNe, Int.reduceGT, Int.reduceGE, Int.reduceNeg, Int.reduceAdd, Int.reduceSub, Nat.reduceBEq, decide_true, decide_false, undef, beq_self_eq_true, bne_self_eq_false, Bool.and_true, Bool.true_and, Bool.and_false, Bool.false_and, Bool.or_true, Bool.true_or, Bool.or_false, Bool.false_or, hN, hq5, hwa, hwj]
      exact ⟨by omega, _, Sub.gc [] [20, 2, 5, 11, 12, 14, 19] rfl rfl, rfl⟩
    · have hj : j = ((words x).2 - (words x).1 + 1).toNat := by
        have : ¬ (words x).1 + (j : Int) ≤ (words x).2 := by simpa using hle
        omega
      subst hj
      rw [hsum] at *
      simp only [hle, go_sem, Nat.reduceEqDiff, Nat.reduceAdd, Nat.reduceSub, Nat.reduceMul, Nat.reduceLT, Nat.reduceLeDiff, Nat.reduceMod, Nat.reduceDiv, Int.reduceToNat, Int.reduceLT, Int.reduceLE, Bool.not_true, Bool.not_false, reduceIte, Int.reduceEq, Int.reduceBEq, Int.reduceBNe, Int.reduceGT, Int.reduceGE, Int.reduceNeg, Int.reduceAdd, Int.reduceSub, Nat.reduceBEq, decide_true, decide_false, undef, beq_self_eq_true, bne_self_eq_false, Bool.and_true, Bool.true_and, Bool.and_false, Bool.false_and, Bool.or_true, Bool.true_or, Bool.or_false, Bool.false_or]
      refine ACallL.quiet1 awake_ok rfl rfl rfl ?_
      simp only [go_sem, Nat.reduceEqDiff, Nat.reduceAdd, Nat.reduceSub, Nat.reduceMul, Nat.reduceLT, Nat.reduceLeDiff, Nat.reduceMod, Nat.reduceDiv, Int.reduceToNat, Int.reduceLT, Int.reduceLE, Bool.not_true, Bool.not_false, reduceIte, Int.reduceEq, Int.reduceBEq, Int.reduceBNe, Int.reduceGT, Int.reduceGE, Int.reduceNeg, Int.reduceAdd, Int.reduceSub, Nat.reduceBEq, decide_true, decide_false, undef, beq_self_eq_true, bne_self_eq_false, Bool.and_true, Bool.true_and, Bool.and_false, Bool.false_and, Bool.or_true, Bool.true_or, Bool.or_false, Bool.false_or]
      exact finL_ret [] ⟨rfl, rfl, rfl, rfl, _, rfl, res_mk rfl⟩
  · have he1 : e1 = 0 := by
      rw [hN] at q3
      simpa using q3
    subst he1
    simp only [go_sem, Nat.reduceEqDiff, Nat.reduceAdd, Nat.reduceSub, Nat.reduceMul, Nat.reduceLT, Nat.reduceLeDiff, Nat.reduceMod, Nat.reduceDiv, Int.reduceToNat, Int.reduceLT, Int.reduceLE, Bool.not_true, Bool.not_false, reduceIte, Int.reduceEq, Int.reduceBEq, Int.reduceBNe, Int.reduceGT, Int.reduceGE, Int.reduceNeg, Int.reduceAdd, Int.reduceSub, Nat.reduceBEq, decide_true, decide_false, undef, beq_self_eq_true, bne_self_eq_false, Bool.and_true, Bool.true_and, Bool.and_false, Bool.false_and, Bool.or_true, Bool.true_or, Bool.or_false, Bool.false_or, hN, toKey2, kEq2, nat_neg, List.getElem?_map, hx, tB, hn1, hn2, hw1, hw2, bne_self_eq_false]
    refine awpL_loopK ((words x).2 - (words x).1 + 1).toNat (fun j s => s = { env := [(20, .t (vi ((words x).1 + j))), (2, .t (.ptr (.agg (tw3 t)) 0)), (5, .t (vi N)), (11, .t (vi b)), (12, .t (.ptr (.agg [vi (words x).1, vi (words x).2]) 0)), (14, .t (.ptr (.agg [vi u.1, vi u.2]) 0)), (19, .t (vi (sumW t b (words x).1 j)))], σ := [] })
      ⟨_, Sub.gc [] [20, 2, 5, 11, 12, 14, 19] rfl rfl, by rw [show (words x).1 + ((0 : Nat) : Int) = (words x).1 by simp]; rfl⟩ ?_
    rintro j s hj rfl
    simp only [htw, go_sem, Nat.reduceEqDiff, Nat.reduceAdd, Nat.reduceSub, Nat.reduceMul, Nat.reduceLT, Nat.reduceLeDiff, Nat.reduceMod, Nat.reduceDiv, Int.reduceToNat, Int.reduceLT, Int.reduceLE, Bool.not_true, Bool.not_false, reduceIte, Int.reduceEq, Int.reduceBEq, Int.reduceBNe, Int.reduceGT, Int.reduceGE, Int.reduceNeg, Int.reduceAdd, Int.reduceSub, Nat.reduceBEq, decide_true, decide_false, undef, beq_self_eq_true, bne_self_eq_false, Bool.and_true, Bool.true_and, Bool.and_false, Bool.false_and, Bool.or_true, Bool.true_or, Bool.or_false, Bool.false_or]
    refine BrL.mk (fun hle => ?_) (fun hle => ?_)
    · have hle' : (words x).1 + (j : Int) ≤ (words x).2 := by simpa using hle
      have hC := Count_ok (keepsT t b x ((words x).1 + j))
      rw [hcnt j hle'] at hC
      have hK := hkeep ((words x).1 + j)
      have hB := hsb j (by omega)
      simp only [oneE] at hC
      have hq5 := q5 ((words x).1 + j)
      rw [hN, Bool.true_and] at hq5
      have hwa : IntKind.i64.wrap (sumW t b (words x).1 j + waysN t b 0 ((words x).1 + j)) = sumW t b (words x).1 (j + 1) := by rw [wrap_id (by omega) (by omega)]; rfl
      have hwj : IntKind.i64.wrap ((words x).1 + (j : Int) + 1) = (words x).1 + ((j + 1 : Nat) : Int) := by rw [wrap_id (by omega) (by omega)]; omega
      generalize waysN t b 0 ((words x).1 + j) = m at *
      rw [htw] at hK
      simp only [hle, go_sem, Nat.reduceEqDiff, Nat.reduceAdd, Nat.reduceSub, Nat.reduceMul, Nat.reduceLT, Nat.reduceLeDiff, Nat.reduceMod, Nat.reduceDiv, Int.reduceToNat, Int.reduceLT, Int.reduceLE, Bool.not_true, Bool.not_false, reduceIte, Int.reduceEq, Int.reduceBEq, Int.reduceBNe, Int.reduceGT, Int.reduceGE, Int.reduceNeg, Int.reduceAdd, Int.reduceSub, Nat.reduceBEq, decide_true, decide_false, undef, beq_self_eq_true, bne_self_eq_false, Bool.and_true, Bool.true_and, Bool.and_false, Bool.false_and, Bool.or_true, Bool.true_or, Bool.or_false, Bool.false_or]
      refine ACallL.fresh1 hK rfl ?_
      simp only [go_sem, Nat.reduceEqDiff, Nat.reduceAdd, Nat.reduceSub, Nat.reduceMul, Nat.reduceLT, Nat.reduceLeDiff, Nat.reduceMod, Nat.reduceDiv, Int.reduceToNat, Int.reduceLT, Int.reduceLE, Bool.not_true, Bool.not_false, reduceIte, Int.reduceEq, Int.reduceBEq, Int.reduceBNe, Int.reduceGT, Int.reduceGE, Int.reduceNeg, Int.reduceAdd, Int.reduceSub, Nat.reduceBEq, decide_true, decide_false, undef, beq_self_eq_true, bne_self_eq_false, Bool.and_true, Bool.true_and, Bool.and_false, Bool.false_and, Bool.or_true, Bool.true_or, Bool.or_false, Bool.false_or]
      refine ACallL.quiet1 hC rfl rfl rfl ?_
      simp only [go_sem, Nat.reduceEqDiff, Nat.reduceAdd, Nat.reduceSub, Nat.reduceMul, Nat.reduceLT, Nat.reduceLeDiff, Nat.reduceMod, Nat.reduceDiv, Int.reduceToNat, Int.reduceLT, Int.reduceLE, Bool.not_true, Bool.not_false, reduceIte, Int.reduceEq, Int.reduceBEq, Int.reduceBNe, Int.reduceGT, Int.reduceGE, Int.reduceNeg, Int.reduceAdd, Int.reduceSub, Nat.reduceBEq, decide_true, decide_false, undef, beq_self_eq_true, bne_self_eq_false, Bool.and_true, Bool.true_and, Bool.and_false, Bool.false_and, Bool.or_true, Bool.true_or, Bool.or_false, Bool.false_or, hN, hq5]
      refine ACallL.quiet1 (inside_ok ((words x).1 + j) u.1 u.2) rfl rfl rfl ?_
      simp only [go_sem, Nat.reduceEqDiff, Nat.reduceAdd, Nat.reduceSub, Nat.reduceMul, Nat.reduceLT, Nat.reduceLeDiff, Nat.reduceMod, Nat.reduceDiv, Int.reduceToNat, Int.reduceLT, Int.reduceLE, Bool.not_true, Bool.not_false, reduceIte, Int.reduceEq, Int.reduceBEq, Int.reduceBNe, Int.reduceGT, Int.reduceGE, Int.reduceNeg, Int.reduceAdd, Int.reduceSub, Nat.reduceBEq, decide_true, decide_false, undef, beq_self_eq_true, bne_self_eq_false, Bool.and_true, Bool.true_and, Bool.and_false, Bool.false_and, Bool.or_true, Bool.true_or, Bool.or_false, Bool.false_or, hN, hq5, bne_self_eq_false, hwa, hwj]
      exact ⟨by omega, _, Sub.gc [] [20, 2, 5, 11, 12, 14, 19] rfl rfl, rfl⟩
    · have hj : j = ((words x).2 - (words x).1 + 1).toNat := by
        have : ¬ (words x).1 + (j : Int) ≤ (words x).2 := by simpa using hle
        omega
      subst hj
      rw [hsum] at *
      simp only [hle, go_sem, Nat.reduceEqDiff, Nat.reduceAdd, Nat.reduceSub, Nat.reduceMul, Nat.reduceLT, Nat.reduceLeDiff, Nat.reduceMod, Nat.reduceDiv, Int.reduceToNat, Int.reduceLT, Int.reduceLE, Bool.not_true, Bool.not_false, reduceIte, Int.reduceEq, Int.reduceBEq, Int.reduceBNe, Int.reduceGT, Int.reduceGE, Int.reduceNeg, Int.reduceAdd, Int.reduceSub, Nat.reduceBEq, decide_true, decide_false, undef, beq_self_eq_true, bne_self_eq_false, Bool.and_true, Bool.true_and, Bool.and_false, Bool.false_and, Bool.or_true, Bool.true_or, Bool.or_false, Bool.false_or]
      refine ACallL.quiet1 awake_ok rfl rfl rfl ?_
      simp only [go_sem, Nat.reduceEqDiff, Nat.reduceAdd, Nat.reduceSub, Nat.reduceMul, Nat.reduceLT, Nat.reduceLeDiff, Nat.reduceMod, Nat.reduceDiv, Int.reduceToNat, Int.reduceLT, Int.reduceLE, Bool.not_true, Bool.not_false, reduceIte, Int.reduceEq, Int.reduceBEq, Int.reduceBNe, Int.reduceGT, Int.reduceGE, Int.reduceNeg, Int.reduceAdd, Int.reduceSub, Nat.reduceBEq, decide_true, decide_false, undef, beq_self_eq_true, bne_self_eq_false, Bool.and_true, Bool.true_and, Bool.and_false, Bool.false_and, Bool.or_true, Bool.true_or, Bool.or_false, Bool.false_or]
      exact finL_ret [] ⟨rfl, rfl, rfl, rfl, _, rfl, res_mk rfl⟩
end Go.Proofs.Yticdacdflemoiaa
