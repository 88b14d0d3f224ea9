/- Proved here: laws that the statements need (SuC39, SuR). No conditions but those that each law states. -/
import Derived.Test.YtmahocdmkpigjaaDoorFL
import Derived.Test.YtmahocdmkpigjaaDoorProg
import Derived.Test.YtmahocdmkpigjaaDoorSE
import Derived.Test.YtmahocdmkpigjaaDoorSG
import Derived.Test.YtmahocdmkpigjaaDoorSG0

set_option linter.unusedSimpArgs false
set_option linter.unusedVariables false

/- Compiled code of functions, printed by program; each is checked to be the program's. No conditions. -/
namespace Go.Proofs.YtmahocdmkpigjaaDoor
open Go Go.Ab
/-- dipworks/dipworkslaw04.SurfEnough -/
def c9 : AC :=
 .seq (.reg [⟨(some 3), none, .box (.tmp 0)⟩,
 ⟨(some 6), none, .mov (.lit (.bool false))⟩])
 (.seq (.seq (.reg [⟨(some 22), none, .load true 5 (.tmp 3)⟩,
 ⟨(some 23), none, .call (.fn 33) [(.tmp 22)]⟩,
 ⟨(some 24), none, .un .not (.tmp 23)⟩,
 ⟨(some 25), none, .mov (.tmp 24)⟩,
 ⟨(some 26), (some (25, false)), .faddr 4 (.tmp 3)⟩,
 ⟨(some 27), (some (25, false)), .load false 1 (.tmp 26)⟩,
 ⟨(some 28), (some (25, false)), .len (.tmp 27)⟩,
 ⟨(some 29), (some (25, false)), .bin .eql (.tmp 28) (.lit (.int .i64 0))⟩,
 ⟨(some 30), none, .pick (.tmp 25) (.lit (.bool true)) (.tmp 29)⟩])
 (.cond (.tmp 30) (.seq (.reg [⟨(some 31), none, .call (.fn 14) []⟩,
 ⟨(some 6), none, .mov (.tmp 31)⟩])
 (.ret))
 (.skip)))
 (.seq (.reg [⟨(some 32), none, .mov (.tmp 1)⟩,
 ⟨(some 33), none, .conv .i64 (.tmp 32)⟩,
 ⟨(some 34), none, .faddr 4 (.tmp 3)⟩,
 ⟨(some 35), none, .load false 1 (.tmp 34)⟩,
 ⟨(some 36), none, .len (.tmp 35)⟩,
 ⟨(some 37), none, .bin .rem (.tmp 33) (.tmp 36)⟩,
 ⟨(some 7), none, .mov (.tmp 37)⟩])
 (.seq (.reg [⟨(some 38), none, .faddr 4 (.tmp 3)⟩,
 ⟨(some 39), none, .load false 1 (.tmp 38)⟩,
 ⟨(some 40), none, .mov (.tmp 7)⟩,
 ⟨(some 41), none, .iaddr 3 (.tmp 39) (.tmp 40)⟩,
 ⟨(some 42), none, .load true 3 (.tmp 41)⟩,
 ⟨(some 8), none, .alloc [(.int .i64 0), (.int .i64 0), (.int .i64 0)]⟩,
 ⟨none, none, .store 3 (.tmp 8) (.tmp 42)⟩])
 (.seq (.reg [⟨(some 44), none, .load true 5 (.tmp 3)⟩,
 ⟨(some 45), none, .mov (.tmp 7)⟩,
 ⟨(some 46), none, .call (.fn 25) [(.tmp 44), (.tmp 45)]⟩,
 ⟨(some 43), none, .mov (.tmp 46)⟩,
 ⟨(some 47), none, .ext (.tmp 43) 0⟩,
 ⟨(some 48), none, .ext (.tmp 43) 1⟩,
 ⟨(some 9), none, .mov (.tmp 47)⟩,
 ⟨(some 10), none, .mov (.tmp 48)⟩])
 (.seq (.reg [⟨(some 50), none, .load true 5 (.tmp 3)⟩,
 ⟨(some 51), none, .mov (.tmp 7)⟩,
 ⟨(some 52), none, .call (.fn 27) [(.tmp 50), (.tmp 51)]⟩,
 ⟨(some 49), none, .mov (.tmp 52)⟩,
 ⟨(some 53), none, .ext (.tmp 49) 0⟩,
 ⟨(some 54), none, .ext (.tmp 49) 1⟩,
 ⟨(some 11), none, .mov (.tmp 53)⟩,
 ⟨(some 12), none, .mov (.tmp 54)⟩])
 (.seq (.seq (.reg [⟨(some 55), none, .mov (.tmp 10)⟩,
 ⟨(some 56), none, .bin .neq (.tmp 55) (.lit (.int .i64 0))⟩,
 ⟨(some 57), none, .mov (.tmp 56)⟩,
 ⟨(some 58), (some (57, false)), .mov (.tmp 12)⟩,
 ⟨(some 59), (some (57, false)), .bin .neq (.tmp 58) (.lit (.int .i64 0))⟩,
 ⟨(some 60), none, .pick (.tmp 57) (.lit (.bool true)) (.tmp 59)⟩,
 ⟨(some 61), none, .mov (.tmp 60)⟩,
 ⟨(some 62), (some (61, false)), .mov (.tmp 9)⟩,
 ⟨(some 63), (some (61, false)), .bin .lss (.tmp 62) (.lit (.int .i64 0))⟩,
 ⟨(some 64), none, .pick (.tmp 61) (.lit (.bool true)) (.tmp 63)⟩,
 ⟨(some 65), none, .mov (.tmp 64)⟩,
 ⟨(some 66), (some (65, false)), .mov (.tmp 9)⟩,
 ⟨(some 67), (some (65, false)), .bin .gtr (.tmp 66) (.lit (.int .i64 10))⟩,
 ⟨(some 68), none, .pick (.tmp 65) (.lit (.bool true)) (.tmp 67)⟩,
 ⟨(some 69), none, .mov (.tmp 68)⟩,
 ⟨(some 70), (some (69, false)), .mov (.tmp 11)⟩,
 ⟨(some 71), (some (69, false)), .bin .lss (.tmp 70) (.lit (.int .i64 0))⟩,
 ⟨(some 72), none, .pick (.tmp 69) (.lit (.bool true)) (.tmp 71)⟩,
 ⟨(some 73), none, .mov (.tmp 72)⟩,
 ⟨(some 74), (some (73, false)), .mov (.tmp 11)⟩,
 ⟨(some 75), (some (73, false)), .bin .gtr (.tmp 74) (.lit (.int .i64 40))⟩,
 ⟨(some 76), none, .pick (.tmp 73) (.lit (.bool true)) (.tmp 75)⟩])
 (.cond (.tmp 76) (.seq (.reg [⟨(some 6), none, .mov (.lit (.bool false))⟩])
 (.ret))
 (.skip)))
 (.seq (.seq (.reg [⟨(some 77), none, .mov (.tmp 9)⟩,
 ⟨(some 78), none, .bin .sub (.tmp 77) (.lit (.int .i64 1))⟩,
 ⟨(some 79), none, .mov (.tmp 9)⟩,
 ⟨(some 80), none, .mov (.tmp 9)⟩,
 ⟨(some 81), none, .mov (.tmp 2)⟩,
 ⟨(some 82), none, .conv .i64 (.tmp 81)⟩,
 ⟨(some 83), none, .bin .rem (.tmp 82) (.lit (.int .i64 4))⟩,
 ⟨(some 84), none, .bin .add (.tmp 80) (.tmp 83)⟩,
 ⟨(some 85), none, .mxmn false (.lit (.int .i64 10)) [(.tmp 84)]⟩,
 ⟨(some 86), none, .bslice 1 (.int .i64 0) 3 [(0, (.tmp 78)), (1, (.tmp 79)), (2, (.tmp 85))]⟩,
 ⟨(some 87), none, .len (.tmp 86)⟩,
 ⟨(some 88), none, .mov (.lit (.int .i64 0))⟩])
 (.block 0 (.loop (.seq (.reg [⟨(some 89), none, .bin .lss (.tmp 88) (.tmp 87)⟩])
 (.seq (.cond (.tmp 89) (.skip)
 (.exit 0))
 (.seq (.block 1 (.seq (.reg [⟨(some 90), none, .iaddr 1 (.tmp 86) (.tmp 88)⟩,
 ⟨(some 91), none, .load false 1 (.tmp 90)⟩,
 ⟨(some 14), none, .mov (.tmp 91)⟩])
 (.seq (.seq (.reg [⟨(some 92), none, .mov (.tmp 14)⟩,
 ⟨(some 93), none, .bin .lss (.tmp 92) (.lit (.int .i64 0))⟩])
 (.cond (.tmp 93) (.exit 1)
 (.skip)))
 (.seq (.reg [⟨(some 95), none, .load true 5 (.tmp 3)⟩,
 ⟨(some 96), none, .mov (.tmp 7)⟩,
 ⟨(some 97), none, .faddr 0 (.tmp 8)⟩,
 ⟨(some 98), none, .load false 1 (.tmp 97)⟩,
 ⟨(some 99), none, .mov (.tmp 14)⟩,
 ⟨(some 100), none, .call (.fn 37) [(.tmp 95), (.tmp 96), (.tmp 98), (.tmp 99)]⟩,
 ⟨(some 101), none, .mov (.tmp 7)⟩,
 ⟨(some 102), none, .call (.fn 21) [(.tmp 100), (.tmp 101)]⟩,
 ⟨(some 94), none, .mov (.tmp 102)⟩,
 ⟨(some 103), none, .ext (.tmp 94) 0⟩,
 ⟨(some 104), none, .ext (.tmp 94) 1⟩,
 ⟨(some 15), none, .mov (.tmp 103)⟩,
 ⟨(some 16), none, .mov (.tmp 104)⟩])
 (.seq (.reg [⟨(some 105), none, .mov (.tmp 16)⟩,
 ⟨(some 106), none, .bin .neq (.tmp 105) (.lit (.int .i64 0))⟩,
 ⟨(some 107), none, .mov (.tmp 106)⟩,
 ⟨(some 108), (some (107, false)), .mov (.tmp 15)⟩,
 ⟨(some 109), (some (107, false)), .bin .eql (.tmp 108) (.lit (.int .i64 0))⟩,
 ⟨(some 110), (some (107, false)), .mov (.tmp 14)⟩,
 ⟨(some 111), (some (107, false)), .mov (.tmp 9)⟩,
 ⟨(some 112), (some (107, false)), .bin .geq (.tmp 110) (.tmp 111)⟩,
 ⟨(some 113), (some (107, false)), .eqb true (.tmp 109) (.tmp 112)⟩,
 ⟨(some 114), none, .pick (.tmp 107) (.lit (.bool true)) (.tmp 113)⟩])
 (.cond (.tmp 114) (.seq (.reg [⟨(some 6), none, .mov (.lit (.bool false))⟩])
 (.ret))
 (.skip)))))))
 (.reg [⟨(some 115), none, .bin .add (.tmp 88) (.lit (.int .i64 1))⟩,
 ⟨(some 88), none, .mov (.tmp 115)⟩])))))))
 (.seq (.seq (.reg [⟨(some 116), none, .mov (.tmp 11)⟩,
 ⟨(some 117), none, .bin .sub (.tmp 116) (.lit (.int .i64 1))⟩,
 ⟨(some 118), none, .mov (.tmp 11)⟩,
 ⟨(some 119), none, .mov (.tmp 11)⟩,
 ⟨(some 120), none, .mov (.tmp 2)⟩,
 ⟨(some 121), none, .conv .i64 (.tmp 120)⟩,
 ⟨(some 122), none, .bin .rem (.tmp 121) (.lit (.int .i64 9))⟩,
 ⟨(some 123), none, .bin .add (.tmp 119) (.tmp 122)⟩,
 ⟨(some 124), none, .mxmn false (.lit (.int .i64 40)) [(.tmp 123)]⟩,
 ⟨(some 125), none, .bslice 1 (.int .i64 0) 3 [(0, (.tmp 117)), (1, (.tmp 118)), (2, (.tmp 124))]⟩,
 ⟨(some 126), none, .len (.tmp 125)⟩,
 ⟨(some 127), none, .mov (.lit (.int .i64 0))⟩])
 (.block 2 (.loop (.seq (.reg [⟨(some 128), none, .bin .lss (.tmp 127) (.tmp 126)⟩])
 (.seq (.cond (.tmp 128) (.skip)
 (.exit 2))
 (.seq (.block 3 (.seq (.reg [⟨(some 129), none, .iaddr 1 (.tmp 125) (.tmp 127)⟩,
 ⟨(some 130), none, .load false 1 (.tmp 129)⟩,
 ⟨(some 18), none, .mov (.tmp 130)⟩])
 (.seq (.seq (.reg [⟨(some 131), none, .mov (.tmp 18)⟩,
 ⟨(some 132), none, .bin .lss (.tmp 131) (.lit (.int .i64 0))⟩])
 (.cond (.tmp 132) (.exit 3)
 (.skip)))
 (.seq (.reg [⟨(some 134), none, .load true 5 (.tmp 3)⟩,
 ⟨(some 135), none, .mov (.tmp 7)⟩,
 ⟨(some 136), none, .mov (.tmp 18)⟩,
 ⟨(some 137), none, .faddr 1 (.tmp 8)⟩,
 ⟨(some 138), none, .load false 1 (.tmp 137)⟩,
 ⟨(some 139), none, .call (.fn 37) [(.tmp 134), (.tmp 135), (.tmp 136), (.tmp 138)]⟩,
 ⟨(some 140), none, .mov (.tmp 7)⟩,
 ⟨(some 141), none, .call (.fn 19) [(.tmp 139), (.tmp 140)]⟩,
 ⟨(some 133), none, .mov (.tmp 141)⟩,
 ⟨(some 142), none, .ext (.tmp 133) 0⟩,
 ⟨(some 143), none, .ext (.tmp 133) 1⟩,
 ⟨(some 144), none, .ext (.tmp 133) 2⟩,
 ⟨(some 19), none, .mov (.tmp 142)⟩,
 ⟨(some 20), none, .mov (.tmp 143)⟩,
 ⟨(some 21), none, .mov (.tmp 144)⟩])
 (.seq (.reg [⟨(some 145), none, .mov (.tmp 21)⟩,
 ⟨(some 146), none, .bin .neq (.tmp 145) (.lit (.int .i64 0))⟩,
 ⟨(some 147), none, .mov (.tmp 146)⟩,
 ⟨(some 148), (some (147, false)), .mov (.tmp 20)⟩,
 ⟨(some 149), (some (147, false)), .bin .eql (.tmp 148) (.lit (.int .i64 0))⟩,
 ⟨(some 150), (some (147, false)), .mov (.tmp 18)⟩,
 ⟨(some 151), (some (147, false)), .mov (.tmp 11)⟩,
 ⟨(some 152), (some (147, false)), .bin .geq (.tmp 150) (.tmp 151)⟩,
 ⟨(some 153), (some (147, false)), .eqb true (.tmp 149) (.tmp 152)⟩,
 ⟨(some 154), none, .pick (.tmp 147) (.lit (.bool true)) (.tmp 153)⟩])
 (.cond (.tmp 154) (.seq (.reg [⟨(some 6), none, .mov (.lit (.bool false))⟩])
 (.ret))
 (.skip)))))))
 (.reg [⟨(some 155), none, .bin .add (.tmp 127) (.lit (.int .i64 1))⟩,
 ⟨(some 127), none, .mov (.tmp 155)⟩])))))))
 (.seq (.reg [⟨(some 156), none, .call (.fn 14) []⟩,
 ⟨(some 6), none, .mov (.tmp 156)⟩])
 (.ret))))))))))
theorem k9 : FnC Tryd.prog 9 157 [] [] [.tmp 6] c9 3 := ⟨Tryd.f9, _, Tryd.func9, rfl, by decide, rfl, by decide, by kernel_rfl, by kernel_rfl⟩
/-- dipworks/dipworkslaw04.with -/
def c37 : AC :=
 .seq (.reg [⟨(some 4), none, .box (.tmp 0)⟩,
 ⟨(some 8), none, .alloc [(.int .i64 0), (.int .i64 0), (.slice none 0 0), (.slice none 0 0), (.slice none 0 0)]⟩])
 (.seq (.reg [⟨(some 9), none, .load true 5 (.tmp 4)⟩,
 ⟨(some 10), none, .mov (.tmp 1)⟩,
 ⟨(some 11), none, .mov (.tmp 2)⟩,
 ⟨(some 12), none, .mov (.tmp 3)⟩,
 ⟨(some 13), none, .call (.fn 68) [(.tmp 9), (.tmp 10), (.tmp 11), (.tmp 12)]⟩,
 ⟨none, none, .store 5 (.tmp 8) (.tmp 13)⟩])
 (.ret))
theorem k37 : FnC Tryd.prog 37 14 [8] [] [.cell 8 true 5] c37 4 := ⟨Tryd.f37, _, Tryd.func37, rfl, by decide, rfl, by decide, by kernel_rfl, by kernel_rfl⟩
end Go.Proofs.YtmahocdmkpigjaaDoor

/- SurfEnough. -/
namespace Go.Proofs.YtmahocdmkpigjaaDoor
open Go Go.Ab

theorem gc_sl {σ : List AO} {a b c d : T} {xs : List T} {es id n : Nat} (h : σ[id]? = some (.row es (xs.map .t))) (hn : n = xs.length) : E.gc [] σ 12 (.agg [.t a, .t b, .t c, .t d, .loc id n]) = .t (.agg [a, b, c, d, .slice es xs]) := by
  rw [E.gc]
  simp only [List.map_cons, List.map_nil, gc_t]
  rw [gc_loc (n := 9) (xs := xs) rfl h hn]
  rfl
set_option maxRecDepth 8000 in
set_option maxHeartbeats 4000000 in
theorem With_ok (s : Su) (hs : s.OK) (n : Nat) (hn : n < s.huts.length) (fl br : Int) : ACall Tryd.prog 68 [.t (.agg (su5 s)), .t (vi n), .t (vi fl), .t (vi br)] [] (ret (.agg (su5 (withH s n fl br)))) := by
  refine ACall.walk k68 ?_
  unfold c68 su5
  have hnh := hs.nh
  have hg := hut_get hn
  have hset : ∀ h : Hu, ((s.huts.map tHu).map E.t).set n (.t (tHu h)) = ((s.huts.set n h).map tHu).map E.t := fun h => by rw [List.map_set, List.map_set]
  have hnn : (n : Int) < s.huts.length := by omega
  have hws : withH s n fl br = { s with huts := s.huts.set n ⟨fl, br, (s.huts.getD n ⟨0, 0, 0⟩).row⟩ } := rfl
  generalize s.huts.getD n ⟨0, 0, 0⟩ = hu at *
  obtain ⟨f, b, r⟩ := hu
  have hset := hset ⟨fl, br, r⟩
  simp only [tHu] at hset
  simp only [go_sem, Nat.reduceEqDiff, Nat.reduceAdd, Nat.reduceSub, Nat.reduceMul, Nat.reduceLT, Nat.reduceLeDiff, Nat.reduceMod, Nat.reduceDiv, Int.reduceToNat, Int.reduceLT, Int.reduceLE, Bool.not_true, Bool.not_false, reduceIte, Int.reduceEq, Int.reduceBEq, Int.reduceBNe, Int.reduceGT, Int.reduceGE, Int.reduceNeg, Int.reduceAdd, Int.reduceSub, Nat.reduceBEq, decide_true, decide_false, undef, beq_self_eq_true, bne_self_eq_false, Bool.and_true, Bool.true_and, Bool.and_false, Bool.false_and, Bool.or_true, Bool.true_or, Bool.or_false, Bool.false_or, List.length_map]
  refine ⟨⟨by unfold maxLen; omega, by omega⟩, ?_⟩
  simp only [go_sem, Nat.reduceEqDiff, Nat.reduceAdd, Nat.reduceSub, Nat.reduceMul, Nat.reduceLT, Nat.reduceLeDiff, Nat.reduceMod, Nat.reduceDiv, Int.reduceToNat, Int.reduceLT, Int.reduceLE, Bool.not_true, Bool.not_false, reduceIte, Int.reduceEq, Int.reduceBEq, Int.reduceBNe, Int.reduceGT, Int.reduceGE, Int.reduceNeg, Int.reduceAdd, Int.reduceSub, Nat.reduceBEq, decide_true, decide_false, undef, beq_self_eq_true, bne_self_eq_false, Bool.and_true, Bool.true_and, Bool.and_false, Bool.false_and, Bool.or_true, Bool.true_or, Bool.or_false, Bool.false_or, undef, List.length_map, List.getElem?_map, hg, Option.map_some, tHu, hnn, hset]
  refine finL_ret [] ⟨rfl, rfl, rfl, rfl, _, rfl, ⟨congrArg Out.ret ((gc_sl (xs := (s.huts.set n ⟨fl, br, r⟩).map tHu) rfl (by simp)).trans ?_), rfl⟩⟩
  rw [hws]
theorem with_ok (s : Su) (hs : s.OK) (n : Nat) (hn : n < s.huts.length) (fl br : Int) : ACall Tryd.prog 37 [.t (.agg (su5 s)), .t (vi n), .t (vi fl), .t (vi br)] [] (ret (.agg (su5 (withH s n fl br)))) := by
  refine ACall.walk k37 ?_
  have h68 := With_ok s hs n hn fl br
  unfold c37
  generalize withH s n fl br = s' at *
  unfold su5 at h68 ⊢
  simp only [go_sem, Nat.reduceEqDiff, Nat.reduceAdd, Nat.reduceSub, Nat.reduceMul, Nat.reduceLT, Nat.reduceLeDiff, Nat.reduceMod, Nat.reduceDiv, Int.reduceToNat, Int.reduceLT, Int.reduceLE, Bool.not_true, Bool.not_false, reduceIte, Int.reduceEq, Int.reduceBEq, Int.reduceBNe, Int.reduceGT, Int.reduceGE, Int.reduceNeg, Int.reduceAdd, Int.reduceSub, Nat.reduceBEq, decide_true, decide_false, undef, beq_self_eq_true, bne_self_eq_false, Bool.and_true, Bool.true_and, Bool.and_false, Bool.false_and, Bool.or_true, Bool.true_or, Bool.or_false, Bool.false_or]
  refine ACallL.fresh1 h68 rfl ?_
  simp only [go_sem, Nat.reduceEqDiff, Nat.reduceAdd, Nat.reduceSub, Nat.reduceMul, Nat.reduceLT, Nat.reduceLeDiff, Nat.reduceMod, Nat.reduceDiv, Int.reduceToNat, Int.reduceLT, Int.reduceLE, Bool.not_true, Bool.not_false, reduceIte, Int.reduceEq, Int.reduceBEq, Int.reduceBNe, Int.reduceGT, Int.reduceGE, Int.reduceNeg, Int.reduceAdd, Int.reduceSub, Nat.reduceBEq, decide_true, decide_false, undef, beq_self_eq_true, bne_self_eq_false, Bool.and_true, Bool.true_and, Bool.and_false, Bool.false_and, Bool.or_true, Bool.true_or, Bool.or_false, Bool.false_or, undef]
  exact finL_ret [] ⟨rfl, rfl, rfl, rfl, _, rfl, res_mk rfl⟩

theorem lostN_never (m : Nat) : (lostN m == 0) = !m.testBit 0 := by
  unfold lostN
  cases m.testBit 0
  · rfl
  · simp only [if_true]
    split <;> rfl
theorem canM_zero (s : Su) (h : Hu) : ((canM s h : Nat) : Int) = 0 ↔ firstS s h < 0 := by
  rw [first_neg]
  constructor
  · intro h0 i hi
    have : canM s h = 0 := by omega
    have hb := maskOf_bit (canB s h) s.water.length i
    rw [show maskOf (canB s h) s.water.length = 0 from this, Nat.zero_testBit, decide_eq_true hi, Bool.true_and] at hb
    exact hb.symm
  · intro h0
    have : canM s h = 0 := by
      apply Nat.eq_of_testBit_eq
      intro i
      rw [maskOf_bit, Nat.zero_testBit]
      by_cases c : i < s.water.length
      · rw [h0 i c]; simp
      · rw [decide_eq_false c]; rfl
    rw [this]; rfl
def EuMid (s : Su) (n : Nat) (hu : Hu) (v : Nat) (br fl : Int) (st : St) : Prop := lk st.env 2 = .t (.lit (.int .u8 v)) ∧ lk st.env 3 = .ptr 0 0 ∧ lk st.env 7 = .t (vi n) ∧ lk st.env 8 = .ptr 1 0 ∧ lk st.env 9 = .t (vi br) ∧ lk st.env 11 = .t (vi fl) ∧ st.σ = [.cells ((su5 s).map .t), .cells [.t (vi hu.floor), .t (vi hu.brake), .t (vi hu.row)]] ∧ st.df = [] ∧ st.k = 0

set_option maxRecDepth 8000 in
set_option maxHeartbeats 8000000 in
theorem SurfEnough_ok (s : Su) (hL : Lens s) (u : Nat) (hu : u < 256) (v : Nat) (hv : v < 256) : ACall Tryd.prog 9 [.t (.agg (su5 s)), .t (.lit (.int .u8 u)), .t (.lit (.int .u8 v))] [] (res (.ret (.t (vb true)))) := by
  refine ACall.walk k9 ?_
  have h33 := fine_ok s hL
  unfold c9
  refine awpL_chop 7 (c1 := ?a1) (c2 := ?a2) (fun st => s.OK ∧ ∃ n h, s.huts[n]? = some h ∧ EuMid s n h v (leastN (holdsB s h) 10 : Nat) (leastN (restsF s h) 40 : Nat) st) ?hc ?_ ?_
  case hc => simp only [chop]; rfl
  · unfold su5 at h33 ⊢
    simp only [go_sem, Nat.reduceEqDiff, Nat.reduceAdd, Nat.reduceSub, Nat.reduceMul, Nat.reduceLT, Nat.reduceLeDiff, Nat.reduceMod, Nat.reduceDiv, Int.reduceToNat, Int.reduceLT, Int.reduceLE, Bool.not_true, Bool.not_false, reduceIte, Int.reduceEq, Int.reduceBEq, Int.reduceBNe, Int.reduceGT, Int.reduceGE, Int.reduceNeg, Int.reduceAdd, Int.reduceSub, Nat.reduceBEq, decide_true, decide_false, undef, beq_self_eq_true, bne_self_eq_false, Bool.and_true, Bool.true_and, Bool.and_false, Bool.false_and, Bool.or_true, Bool.true_or, Bool.or_false, Bool.false_or]
    refine ACallL.quiet1 h33 rfl rfl rfl ?_
    cases hF : fineB s
    · simp only [go_sem, Nat.reduceEqDiff, Nat.reduceAdd, Nat.reduceSub, Nat.reduceMul, Nat.reduceLT, Nat.reduceLeDiff, Nat.reduceMod, Nat.reduceDiv, Int.reduceToNat, Int.reduceLT, Int.reduceLE, Bool.not_true, Bool.not_false, reduceIte, Int.reduceEq, Int.reduceBEq, Int.reduceBNe, Int.reduceGT, Int.reduceGE, Int.reduceNeg, Int.reduceAdd, Int.reduceSub, Nat.reduceBEq, decide_true, decide_false, undef, beq_self_eq_true, bne_self_eq_false, Bool.and_true, Bool.true_and, Bool.and_false, Bool.false_and, Bool.or_true, Bool.true_or, Bool.or_false, Bool.false_or, undef]
      refine ACallL.quiet1 awake_ok rfl rfl rfl ?_
      simp only [go_sem, Nat.reduceEqDiff, Nat.reduceAdd, Nat.reduceSub, Nat.reduceMul, Nat.reduceLT, Nat.reduceLeDiff, Nat.reduceMod, Nat.reduceDiv, Int.reduceToNat, Int.reduceLT, Int.reduceLE, Bool.not_true, Bool.not_false, reduceIte, Int.reduceEq, Int.reduceBEq, Int.reduceBNe, Int.reduceGT, Int.reduceGE, Int.reduceNeg, Int.reduceAdd, Int.reduceSub, Nat.reduceBEq, decide_true, decide_false, undef, beq_self_eq_true, bne_self_eq_false, Bool.and_true, Bool.true_and, Bool.and_false, Bool.false_and, Bool.or_true, Bool.true_or, Bool.or_false, Bool.false_or, undef]
      exact finL_ret [] ⟨rfl, rfl, rfl, rfl, _, rfl, res_mk rfl⟩
    obtain ⟨hok, hs⟩ := fine_iff hF
    have hnh := hs.nh
    simp only [go_sem, Nat.reduceEqDiff, Nat.reduceAdd, Nat.reduceSub, Nat.reduceMul, Nat.reduceLT, Nat.reduceLeDiff, Nat.reduceMod, Nat.reduceDiv, Int.reduceToNat, Int.reduceLT, Int.reduceLE, Bool.not_true, Bool.not_false, reduceIte, Int.reduceEq, Int.reduceBEq, Int.reduceBNe, Int.reduceGT, Int.reduceGE, Int.reduceNeg, Int.reduceAdd, Int.reduceSub, Nat.reduceBEq, decide_true, decide_false, undef, beq_self_eq_true, bne_self_eq_false, Bool.and_true, Bool.true_and, Bool.and_false, Bool.false_and, Bool.or_true, Bool.true_or, Bool.or_false, Bool.false_or, undef, List.length_map]
    cases h0 : ((s.huts.length : Int) == 0)
    rotate_left
    · simp only [go_sem, Nat.reduceEqDiff, Nat.reduceAdd, Nat.reduceSub, Nat.reduceMul, Nat.reduceLT, Nat.reduceLeDiff, Nat.reduceMod, Nat.reduceDiv, Int.reduceToNat, Int.reduceLT, Int.reduceLE, Bool.not_true, Bool.not_false, reduceIte, Int.reduceEq, Int.reduceBEq, Int.reduceBNe, Int.reduceGT, Int.reduceGE, Int.reduceNeg, Int.reduceAdd, Int.reduceSub, Nat.reduceBEq, decide_true, decide_false, undef, beq_self_eq_true, bne_self_eq_false, Bool.and_true, Bool.true_and, Bool.and_false, Bool.false_and, Bool.or_true, Bool.true_or, Bool.or_false, Bool.false_or, undef, h0]
      refine ACallL.quiet1 awake_ok rfl rfl rfl ?_
      simp only [go_sem, Nat.reduceEqDiff, Nat.reduceAdd, Nat.reduceSub, Nat.reduceMul, Nat.reduceLT, Nat.reduceLeDiff, Nat.reduceMod, Nat.reduceDiv, Int.reduceToNat, Int.reduceLT, Int.reduceLE, Bool.not_true, Bool.not_false, reduceIte, Int.reduceEq, Int.reduceBEq, Int.reduceBNe, Int.reduceGT, Int.reduceGE, Int.reduceNeg, Int.reduceAdd, Int.reduceSub, Nat.reduceBEq, decide_true, decide_false, undef, beq_self_eq_true, bne_self_eq_false, Bool.and_true, Bool.true_and, Bool.and_false, Bool.false_and, Bool.or_true, Bool.true_or, Bool.or_false, Bool.false_or, undef]
      exact finL_ret [] ⟨rfl, rfl, rfl, rfl, _, rfl, res_mk rfl⟩
    have n0 : ¬ ((s.huts.length : Int) = 0) := by simpa using h0
    have ha : u % s.huts.length < s.huts.length := Nat.mod_lt _ (by omega)
    have t1 := mod_nat u s.huts.length
    have w0 : IntKind.i64.wrap (u : Int) = u := wrap_id (by omega) (by omega)
    have hg := hut_get ha
    generalize u % s.huts.length = n at *
    generalize s.huts.getD n ⟨0, 0, 0⟩ = hh at *
    have h25 := Brake_ok s hs n hh hg
    have h27 := Floor_ok s hs n hh hg
    have l1 := (leastN_spec (holdsB s hh) 10).1
    have l2 := (leastN_spec (restsF s hh) 40).1
    generalize hBe : leastN (holdsB s hh) 10 = B at *
    generalize hFe : leastN (restsF s hh) 40 = F at *
    have g1 : decide ((B : Int) < 0) = false := by simp
    have g2 : decide ((B : Int) > 10) = false := by simp; omega
    have g3 : decide ((F : Int) < 0) = false := by simp
    have g4 : decide ((F : Int) > 40) = false := by simp; omega
    simp only [oneE, su5] at h25 h27
    obtain ⟨f, b, r⟩ := hh
    simp only [go_sem, Nat.reduceEqDiff, Nat.reduceAdd, Nat.reduceSub, Nat.reduceMul, Nat.reduceLT, Nat.reduceLeDiff, Nat.reduceMod, Nat.reduceDiv, Int.reduceToNat, Int.reduceLT, Int.reduceLE, Bool.not_true, Bool.not_false, reduceIte, Int.reduceEq, Int.reduceBEq, Int.reduceBNe, Int.reduceGT, Int.reduceGE, Int.reduceNeg, Int.reduceAdd, Int.reduceSub, Nat.reduceBEq, decide_true, decide_false, undef, beq_self_eq_true, bne_self_eq_false, Bool.and_true, Bool.true_and, Bool.and_false, Bool.false_and, Bool.or_true, Bool.true_or, Bool.or_false, Bool.false_or, undef, List.length_map, h0, n0, w0, t1, List.getElem?_map, hg, Option.map_some, tHu]
    refine ACallL.quiet1 h25 rfl rfl rfl ?_
    simp only [go_sem, Nat.reduceEqDiff, Nat.reduceAdd, Nat.reduceSub, Nat.reduceMul, Nat.reduceLT, Nat.reduceLeDiff, Nat.reduceMod, Nat.reduceDiv, Int.reduceToNat, Int.reduceLT, Int.reduceLE, Bool.not_true, Bool.not_false, reduceIte, Int.reduceEq, Int.reduceBEq, Int.reduceBNe, Int.reduceGT, Int.reduceGE, Int.reduceNeg, Int.reduceAdd, Int.reduceSub, Nat.reduceBEq, decide_true, decide_false, undef, beq_self_eq_true, bne_self_eq_false, Bool.and_true, Bool.true_and, Bool.and_false, Bool.false_and, Bool.or_true, Bool.true_or, Bool.or_false, Bool.false_or, undef]
    refine ACallL.quiet1 h27 rfl rfl rfl ?_
    simp only [go_sem, Nat.reduceEqDiff, Nat.reduceAdd, Nat.reduceSub, Nat.reduceMul, Nat.reduceLT, Nat.reduceLeDiff, Nat.reduceMod, Nat.reduceDiv, Int.reduceToNat, Int.reduceLT, Int.reduceLE, Bool.not_true, Bool.not_false, reduceIte, Int.reduceEq, Int.reduceBEq, Int.reduceBNe, Int.reduceGT, Int.reduceGE, Int.reduceNeg, Int.reduceAdd, Int.reduceSub, Nat.reduceBEq, decide_true, decide_false, undef, beq_self_eq_true, bne_self_eq_false, Bool.and_true, Bool.true_and, Bool.and_false, Bool.false_and, Bool.or_true, Bool.true_or, Bool.or_false, Bool.false_or, undef, g1, g2, g3, g4]
    exact ⟨hs, n, ⟨f, b, r⟩, hg, rfl, rfl, rfl, rfl, by rw [hBe]; rfl, by rw [hFe]; rfl, rfl, rfl, rfl⟩
  rintro ⟨env, σ, df, k⟩ ⟨hs, n, hh, hg, q2, q3, q7, q8, q9, q11, hσ, hdf, hk⟩
  simp only at q2 q3 q7 q8 q9 q11 hσ hdf hk
  subst hσ hdf hk
  have hnn := (List.getElem?_eq_some_iff.1 hg).1
  have hho := hs.huts _ (List.mem_of_getElem? hg)
  have hr6 : 0 ≤ hh.row ∧ hh.row < 6 := ⟨hho.2.2.2.2.1, by have := hho.2.2.2.2.2; have := hs.rows; omega⟩
  have l1 := (leastN_spec (holdsB s hh) 10).1
  have l2 := (leastN_spec (restsF s hh) 40).1
  have i1 := fun m => leastN_iff (holds_mono s hh hr6) (holds_top s hs hh hr6) m
  have i2 := fun m => leastN_iff (rests_mono s hh hr6) (rests_top s hs hh hr6) m
  generalize leastN (holdsB s hh) 10 = B at *
  generalize leastN (restsF s hh) 40 = F at *
  have wv : IntKind.i64.wrap (v : Int) = v := wrap_id (by omega) (by omega)
  have v4 : (v : Int).tmod 4 = ((v % 4 : Nat) : Int) := mod_nat v 4
  have v9 : (v : Int).tmod 9 = ((v % 9 : Nat) : Int) := mod_nat v 9
  have m4 : v % 4 < 4 := Nat.mod_lt _ (by decide)
  have m9 : v % 9 < 9 := Nat.mod_lt _ (by decide)
  have a1 : IntKind.i64.wrap ((B : Int) - 1) = (B : Int) - 1 := wrap_id (by omega) (by omega)
  have a2 : IntKind.i64.wrap ((B : Int) + ((v % 4 : Nat) : Int)) = (B : Int) + ((v % 4 : Nat) : Int) := wrap_id (by omega) (by omega)
  have a3 : IntKind.i64.wrap ((F : Int) - 1) = (F : Int) - 1 := wrap_id (by omega) (by omega)
  have a4 : IntKind.i64.wrap ((F : Int) + ((v % 9 : Nat) : Int)) = (F : Int) + ((v % 9 : Nat) : Int) := wrap_id (by omega) (by omega)
  refine awpL_chop 1 (c1 := ?b1) (c2 := ?b2) (EuMid s n hh v B F) ?hc2 ?_ ?_
  case hc2 => simp only [chop]; rfl
  · simp only [go_sem, Nat.reduceEqDiff, Nat.reduceAdd, Nat.reduceSub, Nat.reduceMul, Nat.reduceLT, Nat.reduceLeDiff, Nat.reduceMod, Nat.reduceDiv, Int.reduceToNat, Int.reduceLT, Int.reduceLE, Bool.not_true, Bool.not_false, reduceIte, Int.reduceEq, Int.reduceBEq, Int.reduceBNe, Int.reduceGT, Int.reduceGE, Int.reduceNeg, Int.reduceAdd, Int.reduceSub, Nat.reduceBEq, decide_true, decide_false, undef, beq_self_eq_true, bne_self_eq_false, Bool.and_true, Bool.true_and, Bool.and_false, Bool.false_and, Bool.or_true, Bool.true_or, Bool.or_false, Bool.false_or, undef, q2, q3, q7, q8, q9, q11, wv, v4, a1, a2]
    have hZb : ∀ z ∈ [(B : Int) - 1, (B : Int), min 10 ((B : Int) + ((v % 4 : Nat) : Int))], -1 ≤ z ∧ z ≤ 10 := by simp; omega
    generalize hZ : [(B : Int) - 1, (B : Int), min 10 ((B : Int) + ((v % 4 : Nat) : Int))] = Z at *
    have hZl : Z.length = 3 := by rw [← hZ]; rfl
    refine awpL_for (i := 88) (L := 87) 3 (fun j st => st = { env := [(88, .t (vi j)), (87, .t (vi 3)), (86, .t (.slice 1 (Z.map fun z : Int => vi z))), (2, .t (.lit (.int .u8 v))), (3, .ptr 0 0), (7, .t (vi n)), (8, .ptr 1 0), (9, .t (vi B)), (11, .t (vi F))], σ := [.cells ((su5 s).map .t), .cells [.t (vi hh.floor), .t (vi hh.brake), .t (vi hh.row)]] }) ?_ ⟨_, Sub.gc [0, 1] [88, 87, 86, 2, 3, 7, 8, 9, 11] rfl rfl, ?_⟩ ?_ ?_
    · rintro k st rfl; exact ⟨rfl, rfl⟩
    · rw [← hZ]
      exact St.gc_mk (by simp only [List.map_cons, List.map_nil, lk, Nat.reduceEqDiff, reduceIte, q2, q3, q7, q8, q9, q11]; rfl) rfl rfl rfl
    · rintro j st hj rfl
      have hwj : IntKind.i64.wrap ((j : Int) + 1) = ((j + 1 : Nat) : Int) := by rw [wrap_id (by omega) (by omega)]; omega
      have hz : Z[j]? = some Z[j] := List.getElem?_eq_getElem (by omega)
      have hzb := hZb _ (List.getElem_mem (show j < Z.length by omega))
      generalize Z[j] = z at *
      simp only [go_sem, Nat.reduceEqDiff, Nat.reduceAdd, Nat.reduceSub, Nat.reduceMul, Nat.reduceLT, Nat.reduceLeDiff, Nat.reduceMod, Nat.reduceDiv, Int.reduceToNat, Int.reduceLT, Int.reduceLE, Bool.not_true, Bool.not_false, reduceIte, Int.reduceEq, Int.reduceBEq, Int.reduceBNe, Int.reduceGT, Int.reduceGE, Int.reduceNeg, Int.reduceAdd, Int.reduceSub, Nat.reduceBEq, decide_true, decide_false, undef, beq_self_eq_true, bne_self_eq_false, Bool.and_true, Bool.true_and, Bool.and_false, Bool.false_and, Bool.or_true, Bool.true_or, Bool.or_false, Bool.false_or, undef, List.length_map, List.getElem?_map, hz, Option.map_some]
      cases h0 : decide (z < 0)
      rotate_left
      · simp only [go_sem, Nat.reduceEqDiff, Nat.reduceAdd, Nat.reduceSub, Nat.reduceMul, Nat.reduceLT, Nat.reduceLeDiff, Nat.reduceMod, Nat.reduceDiv, Int.reduceToNat, Int.reduceLT, Int.reduceLE, Bool.not_true, Bool.not_false, reduceIte, Int.reduceEq, Int.reduceBEq, Int.reduceBNe, Int.reduceGT, Int.reduceGE, Int.reduceNeg, Int.reduceAdd, Int.reduceSub, Nat.reduceBEq, decide_true, decide_false, undef, beq_self_eq_true, bne_self_eq_false, Bool.and_true, Bool.true_and, Bool.and_false, Bool.false_and, Bool.or_true, Bool.true_or, Bool.or_false, Bool.false_or, undef, h0, hwj]
        exact ⟨_, Sub.gc [0, 1] [88, 87, 86, 2, 3, 7, 8, 9, 11] rfl rfl, rfl⟩
      obtain ⟨m, rfl⟩ : ∃ m : Nat, z = m := ⟨z.toNat, by have := of_decide_eq_false h0; omega⟩
      have h37 := with_ok s hs n hnn hh.floor m
      obtain ⟨hw, hwg⟩ := withH_OK hs hg (fl := hh.floor) (br := m) ⟨hho.1, hho.2.1⟩ ⟨by omega, by omega⟩
      have h21 := Lost_ok _ hw n _ hwg
      have hlog : (lostN (logS (withH s n hh.floor m) ⟨hh.floor, m, hh.row⟩ (withH s n hh.floor m).water.length) == 0) = decide ((m : Int) ≥ (B : Int)) := by
        have e1 : logS (withH s n hh.floor m) ⟨hh.floor, m, hh.row⟩ (withH s n hh.floor m).water.length = logS s (hB hh m) s.water.length := logS_huts s _ _ _
        rw [e1, lostN_never]
        have := i1 m
        unfold holdsB at this
        rw [this]
        exact decide_eq_decide.2 (by omega)
      generalize lostN (logS (withH s n hh.floor m) ⟨hh.floor, m, hh.row⟩ (withH s n hh.floor m).water.length) = lo at *
      generalize withH s n hh.floor m = s' at *
      simp only [oneE, su5] at h21 h37
      simp only [su5, go_sem, Nat.reduceEqDiff, Nat.reduceAdd, Nat.reduceSub, Nat.reduceMul, Nat.reduceLT, Nat.reduceLeDiff, Nat.reduceMod, Nat.reduceDiv, Int.reduceToNat, Int.reduceLT, Int.reduceLE, Bool.not_true, Bool.not_false, reduceIte, Int.reduceEq, Int.reduceBEq, Int.reduceBNe, Int.reduceGT, Int.reduceGE, Int.reduceNeg, Int.reduceAdd, Int.reduceSub, Nat.reduceBEq, decide_true, decide_false, undef, beq_self_eq_true, bne_self_eq_false, Bool.and_true, Bool.true_and, Bool.and_false, Bool.false_and, Bool.or_true, Bool.true_or, Bool.or_false, Bool.false_or, undef, h0]
      refine ACallL.fresh1 h37 rfl ?_
      simp only [go_sem, Nat.reduceEqDiff, Nat.reduceAdd, Nat.reduceSub, Nat.reduceMul, Nat.reduceLT, Nat.reduceLeDiff, Nat.reduceMod, Nat.reduceDiv, Int.reduceToNat, Int.reduceLT, Int.reduceLE, Bool.not_true, Bool.not_false, reduceIte, Int.reduceEq, Int.reduceBEq, Int.reduceBNe, Int.reduceGT, Int.reduceGE, Int.reduceNeg, Int.reduceAdd, Int.reduceSub, Nat.reduceBEq, decide_true, decide_false, undef, beq_self_eq_true, bne_self_eq_false, Bool.and_true, Bool.true_and, Bool.and_false, Bool.false_and, Bool.or_true, Bool.true_or, Bool.or_false, Bool.false_or, undef]
      refine ACallL.fresh1 h21 rfl ?_
      simp only [go_sem, Nat.reduceEqDiff, Nat.reduceAdd, Nat.reduceSub, Nat.reduceMul, Nat.reduceLT, Nat.reduceLeDiff, Nat.reduceMod, Nat.reduceDiv, Int.reduceToNat, Int.reduceLT, Int.reduceLE, Bool.not_true, Bool.not_false, reduceIte, Int.reduceEq, Int.reduceBEq, Int.reduceBNe, Int.reduceGT, Int.reduceGE, Int.reduceNeg, Int.reduceAdd, Int.reduceSub, Nat.reduceBEq, decide_true, decide_false, undef, beq_self_eq_true, bne_self_eq_false, Bool.and_true, Bool.true_and, Bool.and_false, Bool.false_and, Bool.or_true, Bool.true_or, Bool.or_false, Bool.false_or, undef, hlog, hwj]
      exact ⟨_, Sub.gc [0, 1] [88, 87, 86, 2, 3, 7, 8, 9, 11] rfl rfl, rfl⟩
    · rintro st rfl
      simp only [go_sem, Nat.reduceEqDiff, Nat.reduceAdd, Nat.reduceSub, Nat.reduceMul, Nat.reduceLT, Nat.reduceLeDiff, Nat.reduceMod, Nat.reduceDiv, Int.reduceToNat, Int.reduceLT, Int.reduceLE, Bool.not_true, Bool.not_false, reduceIte, Int.reduceEq, Int.reduceBEq, Int.reduceBNe, Int.reduceGT, Int.reduceGE, Int.reduceNeg, Int.reduceAdd, Int.reduceSub, Nat.reduceBEq, decide_true, decide_false, undef, beq_self_eq_true, bne_self_eq_false, Bool.and_true, Bool.true_and, Bool.and_false, Bool.false_and, Bool.or_true, Bool.true_or, Bool.or_false, Bool.false_or, undef]
      exact ⟨rfl, rfl, rfl, rfl, rfl, rfl, rfl, rfl, rfl⟩
  rintro ⟨env, σ, df, k⟩ ⟨q2, q3, q7, q8, q9, q11, hσ, hdf, hk⟩
  simp only at q2 q3 q7 q8 q9 q11 hσ hdf hk
  subst hσ hdf hk
  simp only [go_sem, Nat.reduceEqDiff, Nat.reduceAdd, Nat.reduceSub, Nat.reduceMul, Nat.reduceLT, Nat.reduceLeDiff, Nat.reduceMod, Nat.reduceDiv, Int.reduceToNat, Int.reduceLT, Int.reduceLE, Bool.not_true, Bool.not_false, reduceIte, Int.reduceEq, Int.reduceBEq, Int.reduceBNe, Int.reduceGT, Int.reduceGE, Int.reduceNeg, Int.reduceAdd, Int.reduceSub, Nat.reduceBEq, decide_true, decide_false, undef, beq_self_eq_true, bne_self_eq_false, Bool.and_true, Bool.true_and, Bool.and_false, Bool.false_and, Bool.or_true, Bool.true_or, Bool.or_false, Bool.false_or, undef, q2, q3, q7, q8, q9, q11, wv, v9, a3, a4]
  have hZb : ∀ z ∈ [(F : Int) - 1, (F : Int), min 40 ((F : Int) + ((v % 9 : Nat) : Int))], -1 ≤ z ∧ z ≤ 40 := by simp; omega
  generalize hZ : [(F : Int) - 1, (F : Int), min 40 ((F : Int) + ((v % 9 : Nat) : Int))] = Z at *
  have hZl : Z.length = 3 := by rw [← hZ]; rfl
  refine awpL_for (i := 127) (L := 126) 3 (fun j st => st = { env := [(127, .t (vi j)), (126, .t (vi 3)), (125, .t (.slice 1 (Z.map fun z : Int => vi z))), (3, .ptr 0 0), (7, .t (vi n)), (8, .ptr 1 0), (11, .t (vi F))], σ := [.cells ((su5 s).map .t), .cells [.t (vi hh.floor), .t (vi hh.brake), .t (vi hh.row)]] }) ?_ ⟨_, Sub.gc [0, 1] [127, 126, 125, 3, 7, 8, 11] rfl rfl, ?_⟩ ?_ ?_
  · rintro k st rfl; exact ⟨rfl, rfl⟩
  · rw [← hZ]
    exact St.gc_mk (by simp only [List.map_cons, List.map_nil, lk, Nat.reduceEqDiff, reduceIte, q2, q3, q7, q8, q9, q11]; rfl) rfl rfl rfl
  · rintro j st hj rfl
    have hwj : IntKind.i64.wrap ((j : Int) + 1) = ((j + 1 : Nat) : Int) := by rw [wrap_id (by omega) (by omega)]; omega
    have hz : Z[j]? = some Z[j] := List.getElem?_eq_getElem (by omega)
    have hzb := hZb _ (List.getElem_mem (show j < Z.length by omega))
    generalize Z[j] = z at *
    simp only [go_sem, Nat.reduceEqDiff, Nat.reduceAdd, Nat.reduceSub, Nat.reduceMul, Nat.reduceLT, Nat.reduceLeDiff, Nat.reduceMod, Nat.reduceDiv, Int.reduceToNat, Int.reduceLT, Int.reduceLE, Bool.not_true, Bool.not_false, reduceIte, Int.reduceEq, Int.reduceBEq, Int.reduceBNe, Int.reduceGT, Int.reduceGE, Int.reduceNeg, Int.reduceAdd, Int.reduceSub, Nat.reduceBEq, decide_true, decide_false, undef, beq_self_eq_true, bne_self_eq_false, Bool.and_true, Bool.true_and, Bool.and_false, Bool.false_and, Bool.or_true, Bool.true_or, Bool.or_false, Bool.false_or, undef, List.length_map, List.getElem?_map, hz, Option.map_some]
    cases h0 : decide (z < 0)
    rotate_left
    · simp only [go_sem, Nat.reduceEqDiff, Nat.reduceAdd, Nat.reduceSub, Nat.reduceMul, Nat.reduceLT, Nat.reduceLeDiff, Nat.reduceMod, Nat.reduceDiv, Int.reduceToNat, Int.reduceLT, Int.reduceLE, Bool.not_true, Bool.not_false, reduceIte, Int.reduceEq, Int.reduceBEq, Int.reduceBNe, Int.reduceGT, Int.reduceGE, Int.reduceNeg, Int.reduceAdd, Int.reduceSub, Nat.reduceBEq, decide_true, decide_false, undef, beq_self_eq_true, bne_self_eq_false, Bool.and_true, Bool.true_and, Bool.and_false, Bool.false_and, Bool.or_true, Bool.true_or, Bool.or_false, Bool.false_or, undef, h0, hwj]
      exact ⟨_, Sub.gc [0, 1] [127, 126, 125, 3, 7, 8, 11] rfl rfl, rfl⟩
    obtain ⟨m, rfl⟩ : ∃ m : Nat, z = m := ⟨z.toNat, by have := of_decide_eq_false h0; omega⟩
    have h37 := with_ok s hs n hnn m hh.brake
    obtain ⟨hw, hwg⟩ := withH_OK hs hg (fl := m) (br := hh.brake) ⟨by omega, by omega⟩ ⟨hho.2.2.1, hho.2.2.2.1⟩
    have h19 := Floats_ok _ hw n _ hwg
    have hcan : (((canM (withH s n m hh.brake) ⟨m, hh.brake, hh.row⟩ : Nat) : Int) == 0) = decide ((m : Int) ≥ (F : Int)) := by
      have e1 : canM (withH s n m hh.brake) ⟨m, hh.brake, hh.row⟩ = canM s (hF hh m) := canM_huts s _ _
      rw [e1]
      have h2 := i2 m
      unfold restsF at h2
      have h3 := canM_zero s (hF hh m)
      rw [Bool.eq_iff_iff, beq_iff_eq, h3]
      have : firstS s (hF hh m) < 0 ↔ F ≤ m := by
        have := congrArg (· = true) h2
        simpa using this
      rw [this, decide_eq_true_eq]
      omega
    generalize canM (withH s n m hh.brake) ⟨m, hh.brake, hh.row⟩ = cm at *
    generalize sureM (withH s n m hh.brake) ⟨m, hh.brake, hh.row⟩ = sm at *
    generalize withH s n m hh.brake = s' at *
    simp only [twoE, su5] at h19 h37
    simp only [su5, go_sem, Nat.reduceEqDiff, Nat.reduceAdd, Nat.reduceSub, Nat.reduceMul, Nat.reduceLT, Nat.reduceLeDiff, Nat.reduceMod, Nat.reduceDiv, Int.reduceToNat, Int.reduceLT, Int.reduceLE, Bool.not_true, Bool.not_false, reduceIte, Int.reduceEq, Int.reduceBEq, Int.reduceBNe, Int.reduceGT, Int.reduceGE, Int.reduceNeg, Int.reduceAdd, Int.reduceSub, Nat.reduceBEq, decide_true, decide_false, undef, beq_self_eq_true, bne_self_eq_false, Bool.and_true, Bool.true_and, Bool.and_false, Bool.false_and, Bool.or_true, Bool.true_or, Bool.or_false, Bool.false_or, undef, h0]
    refine ACallL.fresh1 h37 rfl ?_
    simp only [go_sem, Nat.reduceEqDiff, Nat.reduceAdd, Nat.reduceSub, Nat.reduceMul, Nat.reduceLT, Nat.reduceLeDiff, Nat.reduceMod, Nat.reduceDiv, Int.reduceToNat, Int.reduceLT, Int.reduceLE, Bool.not_true, Bool.not_false, reduceIte, Int.reduceEq, Int.reduceBEq, Int.reduceBNe, Int.reduceGT, Int.reduceGE, Int.reduceNeg, Int.reduceAdd, Int.reduceSub, Nat.reduceBEq, decide_true, decide_false, undef, beq_self_eq_true, bne_self_eq_false, Bool.and_true, Bool.true_and, Bool.and_false, Bool.false_and, Bool.or_true, Bool.true_or, Bool.or_false, Bool.false_or, undef]
    refine ACallL.fresh1 h19 rfl ?_
    simp only [go_sem, Nat.reduceEqDiff, Nat.reduceAdd, Nat.reduceSub, Nat.reduceMul, Nat.reduceLT, Nat.reduceLeDiff, Nat.reduceMod, Nat.reduceDiv, Int.reduceToNat, Int.reduceLT, Int.reduceLE, Bool.not_true, Bool.not_false, reduceIte, Int.reduceEq, Int.reduceBEq, Int.reduceBNe, Int.reduceGT, Int.reduceGE, Int.reduceNeg, Int.reduceAdd, Int.reduceSub, Nat.reduceBEq, decide_true, decide_false, undef, beq_self_eq_true, bne_self_eq_false, Bool.and_true, Bool.true_and, Bool.and_false, Bool.false_and, Bool.or_true, Bool.true_or, Bool.or_false, Bool.false_or, undef, hcan, hwj]
    exact ⟨_, Sub.gc [0, 1] [127, 126, 125, 3, 7, 8, 11] rfl rfl, rfl⟩
  · rintro st rfl
    simp only [go_sem, Nat.reduceEqDiff, Nat.reduceAdd, Nat.reduceSub, Nat.reduceMul, Nat.reduceLT, Nat.reduceLeDiff, Nat.reduceMod, Nat.reduceDiv, Int.reduceToNat, Int.reduceLT, Int.reduceLE, Bool.not_true, Bool.not_false, reduceIte, Int.reduceEq, Int.reduceBEq, Int.reduceBNe, Int.reduceGT, Int.reduceGE, Int.reduceNeg, Int.reduceAdd, Int.reduceSub, Nat.reduceBEq, decide_true, decide_false, undef, beq_self_eq_true, bne_self_eq_false, Bool.and_true, Bool.true_and, Bool.and_false, Bool.false_and, Bool.or_true, Bool.true_or, Bool.or_false, Bool.false_or, undef]
    refine ACallL.quiet1 awake_ok rfl rfl rfl ?_
    simp only [go_sem, Nat.reduceEqDiff, Nat.reduceAdd, Nat.reduceSub, Nat.reduceMul, Nat.reduceLT, Nat.reduceLeDiff, Nat.reduceMod, Nat.reduceDiv, Int.reduceToNat, Int.reduceLT, Int.reduceLE, Bool.not_true, Bool.not_false, reduceIte, Int.reduceEq, Int.reduceBEq, Int.reduceBNe, Int.reduceGT, Int.reduceGE, Int.reduceNeg, Int.reduceAdd, Int.reduceSub, Nat.reduceBEq, decide_true, decide_false, undef, beq_self_eq_true, bne_self_eq_false, Bool.and_true, Bool.true_and, Bool.and_false, Bool.false_and, Bool.or_true, Bool.true_or, Bool.or_false, Bool.false_or, undef]
    exact finL_ret [] ⟨rfl, rfl, rfl, rfl, _, rfl, res_mk rfl⟩
end Go.Proofs.YtmahocdmkpigjaaDoor
