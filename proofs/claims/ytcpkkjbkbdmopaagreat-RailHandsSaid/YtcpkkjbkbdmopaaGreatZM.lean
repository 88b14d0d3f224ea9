/- Proved here: laws that the statements need (ZaC4, ZaY3). No conditions but those that each law states. -/
import Derived.Test.YtcpkkjbkbdmopaaGreatFL
import Derived.Test.YtcpkkjbkbdmopaaGreatFP
import Derived.Test.YtcpkkjbkbdmopaaGreatProg
import Derived.Test.YtcpkkjbkbdmopaaGreatZL
import Derived.Test.YtcpkkjbkbdmopaaGreatZE

set_option linter.unusedSimpArgs false
set_option linter.unusedVariables false

/- Compiled code of functions, printed by program; each is checked to be the program's. No conditions. -/
namespace Go.Proofs.YtcpkkjbkbdmopaaGreat
open Go Go.Ab
/-- dipworks/dipworkslaw11.RailHands -/
def c3 : AC :=
 .seq (.reg [⟨(some 4), none, .box (.tmp 0)⟩,
 ⟨(some 8), none, .mov (.lit (.bool false))⟩])
 (.seq (.seq (.reg [⟨(some 29), none, .load true 10 (.tmp 4)⟩,
 ⟨(some 30), none, .call (.fn 4) [(.tmp 29), (.lit (.int .i64 2)), (.lit (.int .i64 300))]⟩])
 (.cond (.tmp 30) (.seq (.reg [⟨(some 31), none, .call (.fn 5) []⟩,
 ⟨(some 8), none, .mov (.tmp 31)⟩])
 (.ret))
 (.skip)))
 (.seq (.reg [⟨(some 33), none, .load true 10 (.tmp 4)⟩,
 ⟨(some 34), none, .mov (.tmp 1)⟩,
 ⟨(some 35), none, .call (.fn 6) [(.tmp 33), (.tmp 34)]⟩,
 ⟨(some 32), none, .mov (.tmp 35)⟩,
 ⟨(some 36), none, .ext (.tmp 32) 0⟩,
 ⟨(some 37), none, .ext (.tmp 32) 1⟩,
 ⟨(some 9), none, .alloc [(.int .i64 0), (.int .i64 0)]⟩,
 ⟨none, none, .store 2 (.tmp 9) (.tmp 36)⟩,
 ⟨(some 10), none, .mov (.tmp 37)⟩])
 (.seq (.reg [⟨(some 39), none, .load true 10 (.tmp 4)⟩,
 ⟨(some 40), none, .mov (.tmp 1)⟩,
 ⟨(some 41), none, .call (.fn 7) [(.tmp 39), (.tmp 40)]⟩,
 ⟨(some 38), none, .mov (.tmp 41)⟩,
 ⟨(some 42), none, .ext (.tmp 38) 0⟩,
 ⟨(some 43), none, .ext (.tmp 38) 1⟩,
 ⟨(some 11), none, .alloc [(.int .i64 0), (.int .i64 0)]⟩,
 ⟨none, none, .store 2 (.tmp 11) (.tmp 42)⟩,
 ⟨(some 12), none, .mov (.tmp 43)⟩])
 (.seq (.reg [⟨(some 45), none, .load true 10 (.tmp 4)⟩,
 ⟨(some 46), none, .mov (.tmp 1)⟩,
 ⟨(some 47), none, .mov (.tmp 2)⟩,
 ⟨(some 48), none, .call (.fn 8) [(.tmp 45), (.tmp 46), (.tmp 47)]⟩,
 ⟨(some 44), none, .mov (.tmp 48)⟩,
 ⟨(some 49), none, .ext (.tmp 44) 0⟩,
 ⟨(some 50), none, .ext (.tmp 44) 1⟩,
 ⟨(some 13), none, .mov (.tmp 49)⟩,
 ⟨(some 14), none, .mov (.tmp 50)⟩])
 (.seq (.reg [⟨(some 52), none, .load true 10 (.tmp 4)⟩,
 ⟨(some 53), none, .mov (.tmp 1)⟩,
 ⟨(some 54), none, .mov (.tmp 2)⟩,
 ⟨(some 55), none, .call (.fn 9) [(.tmp 52), (.tmp 53), (.tmp 54)]⟩,
 ⟨(some 51), none, .mov (.tmp 55)⟩,
 ⟨(some 56), none, .ext (.tmp 51) 0⟩,
 ⟨(some 57), none, .ext (.tmp 51) 1⟩,
 ⟨(some 15), none, .mov (.tmp 56)⟩,
 ⟨(some 16), none, .mov (.tmp 57)⟩])
 (.seq (.reg [⟨(some 59), none, .load true 10 (.tmp 4)⟩,
 ⟨(some 60), none, .mov (.tmp 2)⟩,
 ⟨(some 61), none, .call (.fn 10) [(.tmp 59), (.tmp 60)]⟩,
 ⟨(some 58), none, .mov (.tmp 61)⟩,
 ⟨(some 62), none, .ext (.tmp 58) 0⟩,
 ⟨(some 63), none, .ext (.tmp 58) 1⟩,
 ⟨(some 17), none, .mov (.tmp 62)⟩,
 ⟨(some 18), none, .mov (.tmp 63)⟩])
 (.seq (.reg [⟨(some 65), none, .load true 10 (.tmp 4)⟩,
 ⟨(some 66), none, .mov (.tmp 2)⟩,
 ⟨(some 67), none, .call (.fn 11) [(.tmp 65), (.tmp 66)]⟩,
 ⟨(some 64), none, .mov (.tmp 67)⟩,
 ⟨(some 68), none, .ext (.tmp 64) 0⟩,
 ⟨(some 69), none, .ext (.tmp 64) 1⟩,
 ⟨(some 19), none, .mov (.tmp 68)⟩,
 ⟨(some 20), none, .mov (.tmp 69)⟩])
 (.seq (.reg [⟨(some 71), none, .load true 10 (.tmp 4)⟩,
 ⟨(some 72), none, .mov (.tmp 1)⟩,
 ⟨(some 73), none, .mov (.tmp 2)⟩,
 ⟨(some 74), none, .call (.fn 12) [(.tmp 71), (.tmp 72), (.tmp 73)]⟩,
 ⟨(some 70), none, .mov (.tmp 74)⟩,
 ⟨(some 75), none, .ext (.tmp 70) 0⟩,
 ⟨(some 76), none, .ext (.tmp 70) 1⟩,
 ⟨(some 21), none, .mov (.tmp 75)⟩,
 ⟨(some 22), none, .mov (.tmp 76)⟩])
 (.seq (.reg [⟨(some 78), none, .load true 10 (.tmp 4)⟩,
 ⟨(some 79), none, .mov (.tmp 1)⟩,
 ⟨(some 80), none, .mov (.tmp 2)⟩,
 ⟨(some 81), none, .call (.fn 13) [(.tmp 78), (.tmp 79), (.tmp 80)]⟩,
 ⟨(some 77), none, .mov (.tmp 81)⟩,
 ⟨(some 82), none, .ext (.tmp 77) 0⟩,
 ⟨(some 83), none, .ext (.tmp 77) 1⟩,
 ⟨(some 23), none, .mov (.tmp 82)⟩,
 ⟨(some 24), none, .mov (.tmp 83)⟩])
 (.seq (.reg [⟨(some 85), none, .load true 10 (.tmp 4)⟩,
 ⟨(some 86), none, .mov (.tmp 3)⟩,
 ⟨(some 87), none, .call (.fn 14) [(.tmp 85), (.tmp 86)]⟩,
 ⟨(some 84), none, .mov (.tmp 87)⟩,
 ⟨(some 88), none, .ext (.tmp 84) 0⟩,
 ⟨(some 89), none, .ext (.tmp 84) 1⟩,
 ⟨(some 25), none, .alloc [(.int .i64 0), (.int .i64 0)]⟩,
 ⟨none, none, .store 2 (.tmp 25) (.tmp 88)⟩,
 ⟨(some 26), none, .mov (.tmp 89)⟩])
 (.seq (.reg [⟨(some 91), none, .load true 10 (.tmp 4)⟩,
 ⟨(some 92), none, .mov (.tmp 3)⟩,
 ⟨(some 93), none, .call (.fn 15) [(.tmp 91), (.tmp 92)]⟩,
 ⟨(some 90), none, .mov (.tmp 93)⟩,
 ⟨(some 94), none, .ext (.tmp 90) 0⟩,
 ⟨(some 95), none, .ext (.tmp 90) 1⟩,
 ⟨(some 27), none, .alloc [(.int .i64 0), (.int .i64 0)]⟩,
 ⟨none, none, .store 2 (.tmp 27) (.tmp 94)⟩,
 ⟨(some 28), none, .mov (.tmp 95)⟩])
 (.seq (.reg [⟨(some 96), none, .load true 2 (.tmp 9)⟩,
 ⟨(some 97), none, .load true 2 (.tmp 11)⟩,
 ⟨(some 98), none, .eqs false [(some .i64), (some .i64)] (.tmp 96) (.tmp 97)⟩,
 ⟨(some 99), none, .mov (.tmp 98)⟩,
 ⟨(some 100), (some (99, true)), .mov (.tmp 10)⟩,
 ⟨(some 101), (some (99, true)), .mov (.tmp 12)⟩,
 ⟨(some 102), (some (99, true)), .bin .eql (.tmp 100) (.tmp 101)⟩,
 ⟨(some 103), none, .pick (.tmp 99) (.tmp 102) (.lit (.bool false))⟩,
 ⟨(some 104), none, .mov (.tmp 103)⟩,
 ⟨(some 105), (some (104, true)), .mov (.tmp 13)⟩,
 ⟨(some 106), (some (104, true)), .mov (.tmp 15)⟩,
 ⟨(some 107), (some (104, true)), .bin .eql (.tmp 105) (.tmp 106)⟩,
 ⟨(some 108), none, .pick (.tmp 104) (.tmp 107) (.lit (.bool false))⟩,
 ⟨(some 109), none, .mov (.tmp 108)⟩,
 ⟨(some 110), (some (109, true)), .mov (.tmp 14)⟩,
 ⟨(some 111), (some (109, true)), .mov (.tmp 16)⟩,
 ⟨(some 112), (some (109, true)), .bin .eql (.tmp 110) (.tmp 111)⟩,
 ⟨(some 113), none, .pick (.tmp 109) (.tmp 112) (.lit (.bool false))⟩,
 ⟨(some 114), none, .mov (.tmp 113)⟩,
 ⟨(some 115), (some (114, true)), .mov (.tmp 17)⟩,
 ⟨(some 116), (some (114, true)), .mov (.tmp 19)⟩,
 ⟨(some 117), (some (114, true)), .bin .eql (.tmp 115) (.tmp 116)⟩,
 ⟨(some 118), none, .pick (.tmp 114) (.tmp 117) (.lit (.bool false))⟩,
 ⟨(some 119), none, .mov (.tmp 118)⟩,
 ⟨(some 120), (some (119, true)), .mov (.tmp 18)⟩,
 ⟨(some 121), (some (119, true)), .mov (.tmp 20)⟩,
 ⟨(some 122), (some (119, true)), .bin .eql (.tmp 120) (.tmp 121)⟩,
 ⟨(some 123), none, .pick (.tmp 119) (.tmp 122) (.lit (.bool false))⟩,
 ⟨(some 124), none, .mov (.tmp 123)⟩,
 ⟨(some 125), (some (124, true)), .mov (.tmp 21)⟩,
 ⟨(some 126), (some (124, true)), .mov (.tmp 23)⟩,
 ⟨(some 127), (some (124, true)), .bin .eql (.tmp 125) (.tmp 126)⟩,
 ⟨(some 128), none, .pick (.tmp 124) (.tmp 127) (.lit (.bool false))⟩,
 ⟨(some 129), none, .mov (.tmp 128)⟩,
 ⟨(some 130), (some (129, true)), .mov (.tmp 22)⟩,
 ⟨(some 131), (some (129, true)), .mov (.tmp 24)⟩,
 ⟨(some 132), (some (129, true)), .bin .eql (.tmp 130) (.tmp 131)⟩,
 ⟨(some 133), none, .pick (.tmp 129) (.tmp 132) (.lit (.bool false))⟩,
 ⟨(some 134), none, .mov (.tmp 133)⟩,
 ⟨(some 135), (some (134, true)), .load true 2 (.tmp 25)⟩,
 ⟨(some 136), (some (134, true)), .load true 2 (.tmp 27)⟩,
 ⟨(some 137), (some (134, true)), .eqs false [(some .i64), (some .i64)] (.tmp 135) (.tmp 136)⟩,
 ⟨(some 138), none, .pick (.tmp 134) (.tmp 137) (.lit (.bool false))⟩,
 ⟨(some 139), none, .mov (.tmp 138)⟩,
 ⟨(some 140), (some (139, true)), .mov (.tmp 26)⟩,
 ⟨(some 141), (some (139, true)), .mov (.tmp 28)⟩,
 ⟨(some 142), (some (139, true)), .bin .eql (.tmp 140) (.tmp 141)⟩,
 ⟨(some 143), none, .pick (.tmp 139) (.tmp 142) (.lit (.bool false))⟩,
 ⟨(some 144), none, .mov (.tmp 143)⟩,
 ⟨(some 145), (some (144, true)), .call (.fn 5) []⟩,
 ⟨(some 146), none, .pick (.tmp 144) (.tmp 145) (.lit (.bool false))⟩,
 ⟨(some 8), none, .mov (.tmp 146)⟩])
 (.ret)))))))))))))
theorem k3 : FnC Tryz.prog 3 147 [] [] [.tmp 8] c3 4 := ⟨Tryz.f3, _, Tryz.func3, rfl, by decide, rfl, by decide, by kernel_rfl, by kernel_rfl⟩
end Go.Proofs.YtcpkkjbkbdmopaaGreat

/- The reference's Owes, and RailHands: numbers at hand are the document's. -/
namespace Go.Proofs.YtcpkkjbkbdmopaaGreat
open Go Go.Ab

set_option maxRecDepth 8000 in
set_option maxHeartbeats 4000000 in
theorem qOwes_ok (r : Ra) (i : Int) (hL : Lens r) : ACall Tryz.prog 15 [.t (tRa r), .t (vi i)] [] (res (spanE (specOwes r i).1 (specOwes r i).2)) := by
  have hc := qcheck_ok r hL.l (r.tw.isB i)
  have hb := rbather_ok r.tw i hL.b
  have hk := rKept_ok r.tw i hL.b
  rw [← Kept_eq] at hk
  refine ACall.walk k15 ?_
  unfold c15
  unfold tRa at hc ⊢
  unfold tw3 ra7 at hc ⊢
  unfold tw3 at hb hk
  simp only [List.cons_append, List.nil_append] at hc
  simp only [go_sem, Nat.reduceEqDiff, Nat.reduceAdd, Nat.reduceLeDiff]
  refine ACallL.quiet1 hb rfl rfl rfl ?_
  simp only [go_sem, Nat.reduceEqDiff, Nat.reduceAdd]
  refine ACallL.quiet1 hc rfl rfl rfl ?_
  cases hok : r.ok
  · have e : chk r (r.tw.isB i) = 1 := by unfold chk; rw [hok]; rfl
    rw [e]
    simp only [go_sem, Nat.reduceEqDiff, Nat.reduceAdd, Nat.reduceLeDiff, Int.reduceBNe, undef]
    exact finL_ret [] ⟨rfl, rfl, rfl, rfl, _, rfl, res_mk (by unfold specOwes ans; rw [hok]; rfl)⟩
  cases hh : r.tw.isB i
  · have e : chk r false = 2 := by unfold chk; rw [hok]; rfl
    rw [e]
    simp only [go_sem, Nat.reduceEqDiff, Nat.reduceAdd, Nat.reduceLeDiff, Int.reduceBNe, undef]
    exact finL_ret [] ⟨rfl, rfl, rfl, rfl, _, rfl, res_mk (by unfold specOwes ans; rw [hok, hh]; rfl)⟩
  have e : chk r true = 0 := by unfold chk; rw [hok]; rfl
  rw [e]
  have hr := (r.ok_iff).1 hok
  obtain ⟨n, b, rfl, hb2⟩ := isB_get hh
  have hsp : specKept r.tw n = if isT r.tw then (keptOf r.tw n, 0) else ((0, 0), 10) := by
    unfold specKept
    rw [(r.tw.ok_iff).2 hr.tw, if_pos rfl, hh, if_pos rfl]
    rfl
  rw [hsp] at hk
  have hsp2 : specOwes r n = if isT r.tw then (((keptOf r.tw n).1 * r.price, (keptOf r.tw n).2 * r.price), 0) else ((0, 0), 10) := by
    unfold specOwes ans
    rw [hok, hh]
    rfl
  have hbd := fun hT => keptOf_bd hr.tw hT hb2
  have hp := hr.price
  generalize keptOf r.tw n = K at *
  obtain ⟨K0, K1⟩ := K
  cases hT : isT r.tw
  · rw [hT] at hk hsp2
    simp only [Bool.false_eq_true, if_false] at hk hsp2
    simp only [go_sem, Nat.reduceEqDiff, Nat.reduceAdd, Nat.reduceLeDiff, bne_self_eq_false]
    refine ACallL.quiet1 hk rfl rfl rfl ?_
    simp only [spanE, tS, go_sem, Nat.reduceEqDiff, Nat.reduceAdd, Int.reduceBNe, undef]
    exact finL_ret [] ⟨rfl, rfl, rfl, rfl, _, rfl, res_mk (by rw [hsp2]; rfl)⟩
  rw [hT] at hk hsp2
  simp only [if_true] at hk hsp2
  have hbd := hbd hT
  simp only at hbd
  have m0 : 0 ≤ K0 * r.price ∧ K0 * r.price ≤ 80 := ⟨Int.mul_nonneg (by omega) (by omega), by have := Int.mul_le_mul (show K0 ≤ 4 by omega) hp.2 hp.1 (by decide); omega⟩
  have m1 : 0 ≤ K1 * r.price ∧ K1 * r.price ≤ 80 := ⟨Int.mul_nonneg (by omega) (by omega), by have := Int.mul_le_mul (show K1 ≤ 4 by omega) hp.2 hp.1 (by decide); omega⟩
  have w0 : IntKind.i64.wrap (r.price * K0) = K0 * r.price := by rw [Int.mul_comm]; exact wrap_id (by omega) (by omega)
  have w1 : IntKind.i64.wrap (r.price * K1) = K1 * r.price := by rw [Int.mul_comm]; exact wrap_id (by omega) (by omega)
  simp only [go_sem, Nat.reduceEqDiff, Nat.reduceAdd, Nat.reduceLeDiff, bne_self_eq_false]
  refine ACallL.quiet1 hk rfl rfl rfl ?_
  simp only [spanE, tS, go_sem, Nat.reduceEqDiff, Nat.reduceAdd, Nat.reduceLeDiff, undef, bne_self_eq_false, w0, w1]
  exact finL_ret [] ⟨rfl, rfl, rfl, rfl, _, rfl, res_mk (by rw [hsp2]; rfl)⟩

set_option maxRecDepth 8000 in
set_option maxHeartbeats 8000000 in
theorem RailHands_ok (r : Ra) (hL : Lens r) (hour many bather : Int) : ACall Tryz.prog 3 [.t (tRa r), .t (vi hour), .t (vi many), .t (vi bather)] [] (ret (vb true)) := by
  have h0 := heavy_ok r 2 300 hL
  have h1 := Ready_ok r hour hL
  have h2 := qReady_ok r hour hL.l
  have h3 := Enough_ok r hour many hL
  have h4 := qEnough_ok r hour many hL.l
  have h5 := When_ok r many hL
  have h6 := qWhen_ok r many hL.l
  have h7 := Buy_ok r hour many hL
  have h8 := qBuy_ok r hour many hL.l
  have h9 := Owes_ok r bather hL
  have hA := qOwes_ok r bather hL
  refine ACall.walk k3 ?_
  unfold c3
  generalize specReady r hour = A at *
  generalize specEnough r hour many = B at *
  generalize specWhen r many = C at *
  generalize specBuy r hour many = D at *
  generalize specOwes r bather = E0 at *
  obtain ⟨⟨a1, a2⟩, a3⟩ := A
  obtain ⟨b1, b2⟩ := B
  obtain ⟨d1, d2⟩ := C
  obtain ⟨f1, f2⟩ := D
  obtain ⟨⟨g1, g2⟩, g3⟩ := E0
  unfold tRa at h0 h1 h2 h3 h4 h5 h6 h7 h8 h9 hA ⊢
  unfold tw3 ra7 at h0 h1 h2 h3 h4 h5 h6 h7 h8 h9 hA ⊢
  simp only [List.cons_append, List.nil_append] at h0 h1 h2 h3 h4 h5 h6 h7 h8 h9 hA
  simp only [go_sem, Nat.reduceEqDiff, Nat.reduceAdd]
  refine ACallL.quiet1 h0 rfl rfl rfl ?_
  cases heavyN r 2 300
  · simp only [go_sem, Nat.reduceEqDiff, Nat.reduceAdd]
    refine ACallL.quiet1 h1 rfl rfl rfl ?_
    simp only [spanE, tS, go_sem, Nat.reduceEqDiff, Nat.reduceAdd, undef]
    refine ACallL.quiet1 h2 rfl rfl rfl ?_
    simp only [spanE, tS, go_sem, Nat.reduceEqDiff, Nat.reduceAdd, undef]
    refine ACallL.quiet1 h3 rfl rfl rfl ?_
    simp only [oneE, go_sem, Nat.reduceEqDiff, Nat.reduceAdd]
    refine ACallL.quiet1 h4 rfl rfl rfl ?_
    simp only [oneE, go_sem, Nat.reduceEqDiff, Nat.reduceAdd]
    refine ACallL.quiet1 h5 rfl rfl rfl ?_
    simp only [oneE, go_sem, Nat.reduceEqDiff, Nat.reduceAdd]
    refine ACallL.quiet1 h6 rfl rfl rfl ?_
    simp only [oneE, go_sem, Nat.reduceEqDiff, Nat.reduceAdd]
    refine ACallL.quiet1 h7 rfl rfl rfl ?_
    simp only [oneE, go_sem, Nat.reduceEqDiff, Nat.reduceAdd]
    refine ACallL.quiet1 h8 rfl rfl rfl ?_
    simp only [oneE, go_sem, Nat.reduceEqDiff, Nat.reduceAdd]
    refine ACallL.quiet1 h9 rfl rfl rfl ?_
    simp only [spanE, tS, go_sem, Nat.reduceEqDiff, Nat.reduceAdd, undef]
    refine ACallL.quiet1 hA rfl rfl rfl ?_
    simp only [spanE, tS, go_sem, Nat.reduceEqDiff, Nat.reduceAdd, Bool.not_true, undef, beq_self_eq_true, Bool.and_true, toKey, cellKeys, cellKey, kEq, cellEq, beq_self_eq_true]
    refine aliveL ?_
    simp only [go_sem, Nat.reduceEqDiff]
    exact finL_ret [] ⟨rfl, rfl, rfl, rfl, _, rfl, ret_mk rfl⟩
  · simp only [go_sem, Nat.reduceEqDiff]
    refine aliveL ?_
    simp only [go_sem, Nat.reduceEqDiff]
    exact finL_ret [] ⟨rfl, rfl, rfl, rfl, _, rfl, ret_mk rfl⟩
end Go.Proofs.YtcpkkjbkbdmopaaGreat
