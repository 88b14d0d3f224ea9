/- Proved here: laws that the statements need (FlC310, FlX3). No conditions but those that each law states. -/
import Derived.Test.YtkbjodmpmmnhgaaDoorFL
import Derived.Test.YtkbjodmpmmnhgaaDoorProg
import Derived.Test.YtkbjodmpmmnhgaaDoorMN

set_option linter.unusedSimpArgs false
set_option linter.unusedVariables false

/- Compiled code of functions, printed by program; each is checked to be the program's. No conditions. -/
namespace Go.Proofs.YtkbjodmpmmnhgaaDoor
open Go Go.Ab
/-- dipworks/dipworkslaw10.FlagWrong -/
def c10 : AC :=
 .seq (.reg [⟨(some 2), none, .box (.tmp 0)⟩,
    ⟨(some 4), none, .mov (.lit (.bool false))⟩])
 (.seq (.seq (.reg [⟨(some 14), none, .load true 5 (.tmp 2)⟩,
     ⟨(some 15), none, .call (.fn 31) [(.tmp 14)]⟩,
     ⟨(some 16), none, .un .not (.tmp 15)⟩])
  (.cond (.tmp 16) (.seq (.reg [⟨(some 17), none, .call (.fn 14) []⟩,
      ⟨(some 4), none, .mov (.tmp 17)⟩])
   (.ret))
    (.skip)))
 (.seq (.reg [⟨(some 19), none, .load true 5 (.tmp 2)⟩,
    ⟨(some 20), none, .call (.fn 29) [(.tmp 19)]⟩,
    ⟨(some 18), none, .mov (.tmp 20)⟩,
    ⟨(some 21), none, .ext (.tmp 18) 0⟩,
    ⟨(some 22), none, .ext (.tmp 18) 1⟩,
    ⟨(some 5), none, .mov (.tmp 21)⟩,
    ⟨(some 6), none, .mov (.tmp 22)⟩])
 (.seq (.reg [⟨(some 24), none, .load true 5 (.tmp 2)⟩,
    ⟨(some 25), none, .call (.fn 19) [(.tmp 24)]⟩,
    ⟨(some 23), none, .mov (.tmp 25)⟩,
    ⟨(some 26), none, .ext (.tmp 23) 0⟩,
    ⟨(some 27), none, .ext (.tmp 23) 1⟩,
    ⟨(some 7), none, .mov (.tmp 26)⟩,
    ⟨(some 8), none, .mov (.tmp 27)⟩])
 (.seq (.seq (.reg [⟨(some 28), none, .mov (.tmp 8)⟩,
     ⟨(some 29), none, .bin .neq (.tmp 28) (.lit (.int .i64 0))⟩,
     ⟨(some 30), none, .mov (.tmp 29)⟩,
     ⟨(some 31), (some (30, false)), .mov (.tmp 6)⟩,
     ⟨(some 32), (some (30, false)), .bin .eql (.tmp 31) (.lit (.int .i64 4))⟩,
     ⟨(some 33), (some (30, false)), .mov (.tmp 7)⟩,
     ⟨(some 34), (some (30, false)), .bin .gtr (.tmp 33) (.lit (.int .i64 0))⟩,
     ⟨(some 35), (some (30, false)), .eqb true (.tmp 32) (.tmp 34)⟩,
     ⟨(some 36), none, .pick (.tmp 30) (.lit (.bool true)) (.tmp 35)⟩,
     ⟨(some 37), none, .mov (.tmp 36)⟩,
     ⟨(some 38), (some (37, false)), .mov (.tmp 6)⟩,
     ⟨(some 39), (some (37, false)), .bin .neq (.tmp 38) (.lit (.int .i64 0))⟩,
     ⟨(some 40), (some (37, false)), .mov (.tmp 39)⟩,
     ⟨(some 41), (some (40, true)), .mov (.tmp 6)⟩,
     ⟨(some 42), (some (40, true)), .bin .neq (.tmp 41) (.lit (.int .i64 4))⟩,
     ⟨(some 43), (some (40, true)), .mov (.tmp 42)⟩,
     ⟨(some 44), (some (43, false)), .mov (.tmp 5)⟩,
     ⟨(some 45), (some (43, false)), .bin .neq (.tmp 44) (.lit (.int .i64 0))⟩,
     ⟨(some 46), (some (40, true)), .pick (.tmp 43) (.lit (.bool true)) (.tmp 45)⟩,
     ⟨(some 47), (some (37, false)), .pick (.tmp 40) (.tmp 46) (.lit (.bool false))⟩,
     ⟨(some 48), none, .pick (.tmp 37) (.lit (.bool true)) (.tmp 47)⟩])
  (.cond (.tmp 48) (.seq (.reg [⟨(some 4), none, .mov (.lit (.bool false))⟩])
   (.ret))
    (.skip)))
 (.seq (.seq (.reg [⟨(some 49), none, .mov (.tmp 6)⟩,
     ⟨(some 50), none, .bin .neq (.tmp 49) (.lit (.int .i64 0))⟩])
  (.cond (.tmp 50) (.seq (.reg [⟨(some 51), none, .call (.fn 14) []⟩,
      ⟨(some 4), none, .mov (.tmp 51)⟩])
   (.ret))
    (.skip)))
 (.seq (.reg [⟨(some 52), none, .mkfn (.func 41) [] [(.tmp 2)]⟩,
    ⟨(some 9), none, .mov (.tmp 52)⟩])
 (.seq (.reg [⟨(some 53), none, .faddr 4 (.tmp 2)⟩,
    ⟨(some 54), none, .load false 1 (.tmp 53)⟩,
    ⟨(some 55), none, .len (.tmp 54)⟩,
    ⟨(some 56), none, .bin .shl (.lit (.int .i64 1)) (.tmp 55)⟩,
    ⟨(some 57), none, .bin .sub (.tmp 56) (.lit (.int .i64 1))⟩,
    ⟨(some 10), none, .mov (.tmp 57)⟩])
 (.seq (.seq (.reg [⟨(some 58), none, .mov (.tmp 5)⟩,
     ⟨(some 59), none, .bin .lss (.tmp 58) (.lit (.int .i64 1))⟩,
     ⟨(some 60), none, .mov (.tmp 59)⟩,
     ⟨(some 61), (some (60, false)), .mov (.tmp 5)⟩,
     ⟨(some 62), (some (60, false)), .mov (.tmp 10)⟩,
     ⟨(some 63), (some (60, false)), .bin .gtr (.tmp 61) (.tmp 62)⟩,
     ⟨(some 64), none, .pick (.tmp 60) (.lit (.bool true)) (.tmp 63)⟩,
     ⟨(some 65), none, .mov (.tmp 64)⟩,
     ⟨(some 66), (some (65, false)), .mov (.tmp 9)⟩,
     ⟨(some 67), (some (65, false)), .mov (.tmp 5)⟩,
     ⟨(some 68), (some (65, false)), .call (.tmp 66) [(.tmp 67)]⟩,
     ⟨(some 69), (some (65, false)), .un .not (.tmp 68)⟩,
     ⟨(some 70), none, .pick (.tmp 65) (.lit (.bool true)) (.tmp 69)⟩])
  (.cond (.tmp 70) (.seq (.reg [⟨(some 4), none, .mov (.lit (.bool false))⟩])
   (.ret))
    (.skip)))
 (.seq (.seq (.reg [⟨(some 71), none, .faddr 4 (.tmp 2)⟩,
     ⟨(some 72), none, .load false 1 (.tmp 71)⟩,
     ⟨(some 73), none, .len (.tmp 72)⟩,
     ⟨(some 74), none, .mov (.lit (.int .i64 0))⟩])
  (.block 0 (.loop (.seq (.reg [⟨(some 75), none, .bin .lss (.tmp 74) (.tmp 73)⟩])
   (.seq (.cond (.tmp 75) (.skip)
      (.exit 0))
   (.seq (.block 1 (.seq (.reg [⟨(some 76), none, .mov (.tmp 74)⟩,
       ⟨(some 11), none, .mov (.tmp 76)⟩])
    (.seq (.reg [⟨(some 77), none, .mov (.tmp 5)⟩,
       ⟨(some 78), none, .mov (.tmp 11)⟩,
       ⟨(some 79), none, .bin .shr (.tmp 77) (.tmp 78)⟩,
       ⟨(some 80), none, .bin .and (.tmp 79) (.lit (.int .i64 1))⟩,
       ⟨(some 81), none, .bin .eql (.tmp 80) (.lit (.int .i64 1))⟩,
       ⟨(some 82), none, .mov (.tmp 81)⟩,
       ⟨(some 83), (some (82, true)), .mov (.tmp 9)⟩,
       ⟨(some 84), (some (82, true)), .mov (.tmp 5)⟩,
       ⟨(some 85), (some (82, true)), .mov (.tmp 11)⟩,
       ⟨(some 86), (some (82, true)), .bin .shl (.lit (.int .i64 1)) (.tmp 85)⟩,
       ⟨(some 87), (some (82, true)), .bin .andNot (.tmp 84) (.tmp 86)⟩,
       ⟨(some 88), (some (82, true)), .call (.tmp 83) [(.tmp 87)]⟩,
       ⟨(some 89), none, .pick (.tmp 82) (.tmp 88) (.lit (.bool false))⟩])
    (.cond (.tmp 89) (.seq (.reg [⟨(some 4), none, .mov (.lit (.bool false))⟩])
     (.ret))
      (.skip)))))
   (.reg [⟨(some 90), none, .bin .add (.tmp 74) (.lit (.int .i64 1))⟩,
     ⟨(some 74), none, .mov (.tmp 90)⟩])))))))
 (.seq (.reg [⟨(some 91), none, .mov (.tmp 1)⟩,
    ⟨(some 92), none, .conv .i64 (.tmp 91)⟩,
    ⟨(some 93), none, .mov (.tmp 10)⟩,
    ⟨(some 94), none, .bin .and (.tmp 92) (.tmp 93)⟩,
    ⟨(some 12), none, .mov (.tmp 94)⟩,
    ⟨(some 13), none, .mov (.fn 39)⟩])
 (.seq (.reg [⟨(some 95), none, .mov (.tmp 9)⟩,
    ⟨(some 96), none, .mov (.tmp 12)⟩,
    ⟨(some 97), none, .call (.tmp 95) [(.tmp 96)]⟩,
    ⟨(some 98), none, .un .not (.tmp 97)⟩,
    ⟨(some 99), none, .mov (.tmp 98)⟩,
    ⟨(some 100), (some (99, false)), .mov (.tmp 13)⟩,
    ⟨(some 101), (some (99, false)), .mov (.tmp 12)⟩,
    ⟨(some 102), (some (99, false)), .call (.tmp 100) [(.tmp 101)]⟩,
    ⟨(some 103), (some (99, false)), .mov (.tmp 13)⟩,
    ⟨(some 104), (some (99, false)), .mov (.tmp 5)⟩,
    ⟨(some 105), (some (99, false)), .call (.tmp 103) [(.tmp 104)]⟩,
    ⟨(some 106), (some (99, false)), .bin .gtr (.tmp 102) (.tmp 105)⟩,
    ⟨(some 107), none, .pick (.tmp 99) (.lit (.bool true)) (.tmp 106)⟩,
    ⟨(some 108), none, .mov (.tmp 107)⟩,
    ⟨(some 109), (some (108, false)), .mov (.tmp 13)⟩,
    ⟨(some 110), (some (108, false)), .mov (.tmp 12)⟩,
    ⟨(some 111), (some (108, false)), .call (.tmp 109) [(.tmp 110)]⟩,
    ⟨(some 112), (some (108, false)), .mov (.tmp 13)⟩,
    ⟨(some 113), (some (108, false)), .mov (.tmp 5)⟩,
    ⟨(some 114), (some (108, false)), .call (.tmp 112) [(.tmp 113)]⟩,
    ⟨(some 115), (some (108, false)), .bin .eql (.tmp 111) (.tmp 114)⟩,
    ⟨(some 116), (some (108, false)), .mov (.tmp 115)⟩,
    ⟨(some 117), (some (116, true)), .mov (.tmp 12)⟩,
    ⟨(some 118), (some (116, true)), .mov (.tmp 5)⟩,
    ⟨(some 119), (some (116, true)), .bin .geq (.tmp 117) (.tmp 118)⟩,
    ⟨(some 120), (some (108, false)), .pick (.tmp 116) (.tmp 119) (.lit (.bool false))⟩,
    ⟨(some 121), none, .pick (.tmp 108) (.lit (.bool true)) (.tmp 120)⟩,
    ⟨(some 122), none, .mov (.tmp 121)⟩,
    ⟨(some 123), (some (122, true)), .call (.fn 14) []⟩,
    ⟨(some 124), none, .pick (.tmp 122) (.tmp 123) (.lit (.bool false))⟩,
    ⟨(some 4), none, .mov (.tmp 124)⟩])
 (.ret))))))))))))
theorem k10 : FnC Tryd.prog 10 125 [] [] [.tmp 4] c10 2 := ⟨Tryd.f10, _, Tryd.func10, rfl, by decide, rfl, by decide, by kernel_rfl, by kernel_rfl⟩
/-- dipworks/dipworkslaw10.FlagWrong$1 -/
def c41 : AC :=
 .seq (.reg [⟨(some 3), none, .mov (.lit (.bool false))⟩])
 (.seq (.reg [⟨(some 9), none, .load true 5 (.tmp 1)⟩,
    ⟨(some 4), none, .alloc [(.int .i64 0), (.int .i64 0), (.int .i64 0), (.slice none 0 0), (.slice none 0 0)]⟩,
    ⟨none, none, .store 5 (.tmp 4) (.tmp 9)⟩])
 (.seq (.reg [⟨(some 10), none, .faddr 4 (.tmp 4)⟩,
    ⟨none, none, .store 1 (.tmp 10) (.lit (.slice none 0 0))⟩])
 (.seq (.seq (.reg [⟨(some 11), none, .faddr 4 (.tmp 1)⟩,
     ⟨(some 12), none, .load false 1 (.tmp 11)⟩,
     ⟨(some 13), none, .len (.tmp 12)⟩,
     ⟨(some 14), none, .mov (.lit (.int .i64 0))⟩])
  (.block 0 (.loop (.seq (.reg [⟨(some 15), none, .bin .lss (.tmp 14) (.tmp 13)⟩])
   (.seq (.cond (.tmp 15) (.skip)
      (.exit 0))
   (.seq (.block 1 (.seq (.reg [⟨(some 16), none, .mov (.tmp 14)⟩,
       ⟨(some 17), none, .iaddr 2 (.tmp 12) (.tmp 14)⟩,
       ⟨(some 18), none, .load true 2 (.tmp 17)⟩,
       ⟨(some 6), none, .alloc [(.int .i64 0), (.bool false)]⟩,
       ⟨(some 5), none, .mov (.tmp 16)⟩,
       ⟨none, none, .store 2 (.tmp 6) (.tmp 18)⟩])
    (.seq (.reg [⟨(some 19), none, .mov (.tmp 0)⟩,
       ⟨(some 20), none, .mov (.tmp 5)⟩,
       ⟨(some 21), none, .bin .shr (.tmp 19) (.tmp 20)⟩,
       ⟨(some 22), none, .bin .and (.tmp 21) (.lit (.int .i64 1))⟩,
       ⟨(some 23), none, .bin .eql (.tmp 22) (.lit (.int .i64 0))⟩])
    (.cond (.tmp 23) (.reg [⟨(some 24), none, .faddr 4 (.tmp 4)⟩,
       ⟨(some 25), none, .load false 1 (.tmp 24)⟩,
       ⟨(some 26), none, .load true 2 (.tmp 6)⟩,
       ⟨(some 27), none, .bslice 2 (.agg #[(.int .i64 0), (.bool false)]) 1 [(0, (.tmp 26))]⟩,
       ⟨(some 28), none, .app 2 16 (.tmp 25) (.tmp 27)⟩,
       ⟨(some 29), none, .faddr 4 (.tmp 4)⟩,
       ⟨none, none, .store 1 (.tmp 29) (.tmp 28)⟩])
      (.skip)))))
   (.reg [⟨(some 30), none, .bin .add (.tmp 14) (.lit (.int .i64 1))⟩,
     ⟨(some 14), none, .mov (.tmp 30)⟩])))))))
 (.seq (.reg [⟨(some 32), none, .load true 5 (.tmp 4)⟩,
    ⟨(some 33), none, .call (.fn 19) [(.tmp 32)]⟩,
    ⟨(some 31), none, .mov (.tmp 33)⟩,
    ⟨(some 34), none, .ext (.tmp 31) 0⟩,
    ⟨(some 35), none, .ext (.tmp 31) 1⟩,
    ⟨(some 7), none, .mov (.tmp 34)⟩,
    ⟨(some 8), none, .mov (.tmp 35)⟩])
 (.seq (.reg [⟨(some 36), none, .mov (.tmp 8)⟩,
    ⟨(some 37), none, .bin .eql (.tmp 36) (.lit (.int .i64 0))⟩,
    ⟨(some 38), none, .mov (.tmp 37)⟩,
    ⟨(some 39), (some (38, true)), .mov (.tmp 7)⟩,
    ⟨(some 40), (some (38, true)), .bin .gtr (.tmp 39) (.lit (.int .i64 0))⟩,
    ⟨(some 41), none, .pick (.tmp 38) (.tmp 40) (.lit (.bool false))⟩,
    ⟨(some 3), none, .mov (.tmp 41)⟩])
 (.ret))))))
theorem k41 : FnC Tryd.prog 41 42 [] [] [.tmp 3] c41 2 := ⟨Tryd.f41, _, Tryd.func41, rfl, by decide, rfl, by decide, by kernel_rfl, by kernel_rfl⟩
end Go.Proofs.YtkbjodmpmmnhgaaDoor

/- FlagWrong. -/
namespace Go.Proofs.YtkbjodmpmmnhgaaDoor
open Go Go.Ab

theorem outS_snoc (set : Nat) : ∀ (l : List Sn) (i : Nat) (s : Sn), outS set i (l ++ [s]) = outS set i l ++ if set.testBit (i + l.length) then [] else [s]
  | [], i, s => by simp only [List.nil_append, outS, List.length_nil, Nat.add_zero]
  | x :: l, i, s => by
    simp only [List.cons_append, outS, outS_snoc set l (i + 1) s, List.length_cons]
    rw [show i + 1 + l.length = i + (l.length + 1) by omega]
    split <;> simp
theorem outS_take (set : Nat) (l : List Sn) {j : Nat} {s : Sn} (hs : l[j]? = some s) : outS set 0 (l.take (j + 1)) = outS set 0 (l.take j) ++ if set.testBit j then [] else [s] := by
  obtain ⟨hk, e⟩ := List.getElem?_eq_some_iff.1 hs
  rw [List.take_succ_eq_append_getElem hk, outS_snoc, List.length_take, Nat.min_eq_left (by omega), Nat.zero_add, e]
theorem noT_lenB (f : Fl) : decide (((truths f).length : Int) > 0) = !noT f := noT_len f
theorem fl5_leave (f : Fl) (set : Nat) : fl5 (leave f set) = [vi f.low, vi f.high, vi f.quiet, .slice 3 (f.hs.map tHr), .slice 2 ((outS set 0 f.ss).map tSn)] := rfl
theorem gc_fs (B : AO) (a b c d : T) (xs : List T) (n : Nat) (hn : n = xs.length) (R : List AO) : E.gc [] (B :: .row 2 (xs.map .t) :: R) 12 (.agg [.t a, .t b, .t c, .t d, .loc 1 n]) = .t (.agg [a, b, c, d, .slice 2 xs]) := by
  have h : E.gc [] (B :: .row 2 (xs.map .t) :: R) 11 (.loc 1 n) = .t (.slice 2 xs) := gc_loc (n := 9) rfl rfl hn
  rw [E.gc]
  simp only [List.map_cons, List.map_nil, gc_t, h]
  rfl

set_option maxRecDepth 8000 in
set_option maxHeartbeats 4000000 in
theorem can_ok (f : Fl) (hL : Lens f) (hf : f.OK) (set : Nat) (hset : set < 4096) : ACall Tryd.prog 41 [.t (vi set), .t (.ptr (.agg (fl5 f)) 0)] [] (ret (vb (!noT (leave f set)))) := by
  refine ACall.walk k41 ?_
  have hg := leave_OK hf set
  have h19 := Count_ok (leave f set) ⟨hL.1, Nat.lt_of_le_of_lt (outS_len set 0 f.ss) hL.2⟩
  have e1 : specCount (leave f set) = ((((truths (leave f set)).length : Nat) : Int), 0) := by simp only [specCount, (Fl.ok_iff _).2 hg]; rfl
  have hn := noT_lenB (leave f set)
  rw [e1] at h19
  simp only [oneE, fl5_leave] at h19
  unfold c41 fl5
  simp only [go_sem, Nat.reduceEqDiff, Nat.reduceAdd, Nat.reduceSub, Nat.reduceMul, Nat.reduceLT, Nat.reduceLeDiff, Nat.reduceMod, Nat.reduceDiv, Int.reduceToNat, Int.reduceLT, Int.reduceLE, Bool.not_true, Bool.not_false, reduceIte, Int.reduceEq, Int.reduceBEq, Int.reduceBNe, Int.reduceGT, Int.reduceGE, Int.reduceNeg, Int.reduceAdd, Int.reduceSub, Nat.reduceBEq, decide_true, decide_false, undef, beq_self_eq_true, bne_self_eq_false, Bool.and_true, Bool.true_and, Bool.and_false, Bool.false_and, Bool.or_true, Bool.true_or, Bool.or_false, Bool.false_or]
  have hns := hf.ns
  refine awpL_for (i := 14) (L := 13) f.ss.length (fun j s => s = { env := [(14, .t (vi j)), (13, .t (vi f.ss.length)), (12, .t (.slice 2 (f.ss.map tSn))), (0, .t (vi set)), (4, .ptr 0 0)], σ := [.cells [.t (vi f.low), .t (vi f.high), .t (vi f.quiet), .t (.slice 3 (f.hs.map tHr)), .loc 1 (outS set 0 (f.ss.take j)).length], .row 2 (((outS set 0 (f.ss.take j)).map tSn).map .t)] }) ?_ ?_ ?_ ?_
  · rintro k s rfl; exact ⟨rfl, rfl⟩
  · simp only [List.length_map]
    exact ⟨_, (Sub.ghostC 0 4 2 (by decide) rfl rfl).trans (Sub.gc [0, 1] [14, 13, 12, 0, 4] rfl rfl), rfl⟩
  · rintro j s hj rfl
    have hg : f.ss[j]? = some f.ss[j] := List.getElem?_eq_getElem hj
    have hw : IntKind.i64.wrap ((j : Int) + 1) = ((j + 1 : Nat) : Int) := by rw [wrap_id (by omega) (by omega)]; omega
    have ht := outS_take set f.ss hg
    have hlo := outS_len set 0 (f.ss.take j)
    rw [List.length_take] at hlo
    generalize f.ss[j] = x at *
    generalize outS set 0 (f.ss.take j) = o at *
    have hbit := bit_eq0 (a := set) (i := j) (by omega)
    have hj0 : ((j : Int) < 0) = False := by simp
    simp only [go_sem, Nat.reduceEqDiff, Nat.reduceAdd, Nat.reduceSub, Nat.reduceMul, Nat.reduceLT, Nat.reduceLeDiff, Nat.reduceMod, Nat.reduceDiv, Int.reduceToNat, Int.reduceLT, Int.reduceLE, Bool.not_true, Bool.not_false, reduceIte, Int.reduceEq, Int.reduceBEq, Int.reduceBNe, Int.reduceGT, Int.reduceGE, Int.reduceNeg, Int.reduceAdd, Int.reduceSub, Nat.reduceBEq, decide_true, decide_false, undef, beq_self_eq_true, bne_self_eq_false, Bool.and_true, Bool.true_and, Bool.and_false, Bool.false_and, Bool.or_true, Bool.true_or, Bool.or_false, Bool.false_or, undef, List.length_map, List.getElem?_map, hg, tSn, Option.map_some, hbit, hj0, hw]
    cases hb : set.testBit j
    · simp only [go_sem, Nat.reduceEqDiff, Nat.reduceAdd, Nat.reduceSub, Nat.reduceMul, Nat.reduceLT, Nat.reduceLeDiff, Nat.reduceMod, Nat.reduceDiv, Int.reduceToNat, Int.reduceLT, Int.reduceLE, Bool.not_true, Bool.not_false, reduceIte, Int.reduceEq, Int.reduceBEq, Int.reduceBNe, Int.reduceGT, Int.reduceGE, Int.reduceNeg, Int.reduceAdd, Int.reduceSub, Nat.reduceBEq, decide_true, decide_false, undef, beq_self_eq_true, bne_self_eq_false, Bool.and_true, Bool.true_and, Bool.and_false, Bool.false_and, Bool.or_true, Bool.true_or, Bool.or_false, Bool.false_or, undef, List.length_map, List.getElem?_map, hg, tSn, Option.map_some, hbit, hb, hj0, hw]
      refine ⟨⟨by unfold maxLen; omega, by omega⟩, _, Sub.gc [0, 1] [14, 13, 12, 0, 4] rfl rfl, ?_⟩
      rw [ht, hb]
      show _ = St.mk _ [AO.cells [_, _, _, _, .loc 1 (o ++ [x]).length], AO.row 2 (((o ++ [x]).map tSn).map .t)] _ _
      rw [List.length_append, List.length_singleton, List.map_append, List.map_append]
      exact St.gc_mk rfl (by
        show [AO.cells _, AO.row 2 ((List.map E.t _ ++ List.map E.t [_]).map (E.gc _ _ _))] = _
        rw [List.map_append, gc_row, gc_row]
        rfl) rfl rfl
    · simp only [go_sem, Nat.reduceEqDiff, Nat.reduceAdd, Nat.reduceSub, Nat.reduceMul, Nat.reduceLT, Nat.reduceLeDiff, Nat.reduceMod, Nat.reduceDiv, Int.reduceToNat, Int.reduceLT, Int.reduceLE, Bool.not_true, Bool.not_false, reduceIte, Int.reduceEq, Int.reduceBEq, Int.reduceBNe, Int.reduceGT, Int.reduceGE, Int.reduceNeg, Int.reduceAdd, Int.reduceSub, Nat.reduceBEq, decide_true, decide_false, undef, beq_self_eq_true, bne_self_eq_false, Bool.and_true, Bool.true_and, Bool.and_false, Bool.false_and, Bool.or_true, Bool.true_or, Bool.or_false, Bool.false_or, undef, List.length_map, List.getElem?_map, hg, tSn, Option.map_some, hbit, hb, hj0, hw]
      refine ⟨_, Sub.gc [0, 1] [14, 13, 12, 0, 4] rfl rfl, ?_⟩
      rw [ht, hb]
      show _ = St.mk _ [AO.cells [_, _, _, _, .loc 1 (o ++ []).length], AO.row 2 (((o ++ []).map tSn).map .t)] _ _
      rw [List.append_nil]
      exact St.gc_mk rfl (by
        show [AO.cells _, AO.row 2 ((List.map E.t _).map (E.gc _ _ _))] = _
        rw [gc_row]
        rfl) rfl rfl
  · rintro s rfl
    rw [List.take_length]
    simp only [go_sem, Nat.reduceEqDiff, Nat.reduceAdd, Nat.reduceSub, Nat.reduceMul, Nat.reduceLT, Nat.reduceLeDiff, Nat.reduceMod, Nat.reduceDiv, Int.reduceToNat, Int.reduceLT, Int.reduceLE, Bool.not_true, Bool.not_false, reduceIte, Int.reduceEq, Int.reduceBEq, Int.reduceBNe, Int.reduceGT, Int.reduceGE, Int.reduceNeg, Int.reduceAdd, Int.reduceSub, Nat.reduceBEq, decide_true, decide_false, undef, beq_self_eq_true, bne_self_eq_false, Bool.and_true, Bool.true_and, Bool.and_false, Bool.false_and, Bool.or_true, Bool.true_or, Bool.or_false, Bool.false_or, undef]
    refine ACallL.quiet1 h19 rfl (by rw [List.map_cons, List.map_nil, gc_fs _ _ _ _ _ _ _ (by simp)]) rfl ?_
    simp only [go_sem, Nat.reduceEqDiff, Nat.reduceAdd, Nat.reduceSub, Nat.reduceMul, Nat.reduceLT, Nat.reduceLeDiff, Nat.reduceMod, Nat.reduceDiv, Int.reduceToNat, Int.reduceLT, Int.reduceLE, Bool.not_true, Bool.not_false, reduceIte, Int.reduceEq, Int.reduceBEq, Int.reduceBNe, Int.reduceGT, Int.reduceGE, Int.reduceNeg, Int.reduceAdd, Int.reduceSub, Nat.reduceBEq, decide_true, decide_false, undef, beq_self_eq_true, bne_self_eq_false, Bool.and_true, Bool.true_and, Bool.and_false, Bool.false_and, Bool.or_true, Bool.true_or, Bool.or_false, Bool.false_or, undef, hn]
    exact finL_ret [] ⟨rfl, rfl, rfl, rfl, _, rfl, res_mk rfl⟩

theorem size_drop : ∀ S : Nat, S < 256 → ∀ i, i < 8 → S.testBit i = true → ndiff S (2 ^ i) < 256 ∧ size (ndiff S (2 ^ i)) < size S := by
  intro S hS i hi
  have h : ((List.range 256).all fun S => (List.range 8).all fun i => !S.testBit i || (decide (ndiff S (2 ^ i) < 256) && decide (size (ndiff S (2 ^ i)) < size S))) = true := by decide +kernel
  have h1 := List.all_eq_true.1 h S (List.mem_range.2 hS)
  have h2 := List.all_eq_true.1 h1 i (List.mem_range.2 hi)
  intro hb
  rw [hb] at h2
  simpa using h2
theorem ndiff_bnd {a b n : Nat} (h : a < n) : ndiff a b < n := Nat.lt_of_le_of_lt (ndiff_le a b) h

set_option maxRecDepth 8000 in
set_option maxHeartbeats 4000000 in
theorem FlagWrong_ok (f : Fl) (hL : Lens f) (u : Nat) (hu : u < 256) : ACall Tryd.prog 10 [.t (.agg (fl5 f)), .t (.lit (.int .u8 u))] [] (res (.ret (.t (vb true)))) := by
  refine ACall.walk k10 ?_
  have h31 := fine_ok f hL
  have h29 := Wrong_ok f hL
  have h19 := Count_ok f hL
  unfold c10 fl5
  simp only [fl5] at h31 h29 h19
  simp only [go_sem, Nat.reduceEqDiff, Nat.reduceAdd, Nat.reduceSub, Nat.reduceMul, Nat.reduceLT, Nat.reduceLeDiff, Nat.reduceMod, Nat.reduceDiv, Int.reduceToNat, Int.reduceLT, Int.reduceLE, Bool.not_true, Bool.not_false, reduceIte, Int.reduceEq, Int.reduceBEq, Int.reduceBNe, Int.reduceGT, Int.reduceGE, Int.reduceNeg, Int.reduceAdd, Int.reduceSub, Nat.reduceBEq, decide_true, decide_false, undef, beq_self_eq_true, bne_self_eq_false, Bool.and_true, Bool.true_and, Bool.and_false, Bool.false_and, Bool.or_true, Bool.true_or, Bool.or_false, Bool.false_or]
  refine ACallL.quiet1 h31 rfl rfl rfl ?_
  cases hF : fineB f
  · simp only [go_sem, Nat.reduceEqDiff, Nat.reduceAdd, Nat.reduceSub, Nat.reduceMul, Nat.reduceLT, Nat.reduceLeDiff, Nat.reduceMod, Nat.reduceDiv, Int.reduceToNat, Int.reduceLT, Int.reduceLE, Bool.not_true, Bool.not_false, reduceIte, Int.reduceEq, Int.reduceBEq, Int.reduceBNe, Int.reduceGT, Int.reduceGE, Int.reduceNeg, Int.reduceAdd, Int.reduceSub, Nat.reduceBEq, decide_true, decide_false, undef, beq_self_eq_true, bne_self_eq_false, Bool.and_true, Bool.true_and, Bool.and_false, Bool.false_and, Bool.or_true, Bool.true_or, Bool.or_false, Bool.false_or, undef]
    refine ACallL.quiet1 awake_ok rfl rfl rfl ?_
    simp only [go_sem, Nat.reduceEqDiff, Nat.reduceAdd, Nat.reduceSub, Nat.reduceMul, Nat.reduceLT, Nat.reduceLeDiff, Nat.reduceMod, Nat.reduceDiv, Int.reduceToNat, Int.reduceLT, Int.reduceLE, Bool.not_true, Bool.not_false, reduceIte, Int.reduceEq, Int.reduceBEq, Int.reduceBNe, Int.reduceGT, Int.reduceGE, Int.reduceNeg, Int.reduceAdd, Int.reduceSub, Nat.reduceBEq, decide_true, decide_false, undef, beq_self_eq_true, bne_self_eq_false, Bool.and_true, Bool.true_and, Bool.and_false, Bool.false_and, Bool.or_true, Bool.true_or, Bool.or_false, Bool.false_or, undef]
    exact finL_ret [] ⟨rfl, rfl, rfl, rfl, _, rfl, res_mk rfl⟩
  obtain ⟨hok, hf⟩ := fine_iff hF
  have hns := hf.ns
  have hn := noT_lenB f
  have e1 : specCount f = ((((truths f).length : Nat) : Int), 0) := by simp only [specCount, hok]; rfl
  rw [e1] at h19
  simp only [oneE] at h19 h29
  simp only [go_sem, Nat.reduceEqDiff, Nat.reduceAdd, Nat.reduceSub, Nat.reduceMul, Nat.reduceLT, Nat.reduceLeDiff, Nat.reduceMod, Nat.reduceDiv, Int.reduceToNat, Int.reduceLT, Int.reduceLE, Bool.not_true, Bool.not_false, reduceIte, Int.reduceEq, Int.reduceBEq, Int.reduceBNe, Int.reduceGT, Int.reduceGE, Int.reduceNeg, Int.reduceAdd, Int.reduceSub, Nat.reduceBEq, decide_true, decide_false, undef, beq_self_eq_true, bne_self_eq_false, Bool.and_true, Bool.true_and, Bool.and_false, Bool.false_and, Bool.or_true, Bool.true_or, Bool.or_false, Bool.false_or, undef]
  cases hT : noT f
  · have e2 : specWrong f = (0, 4) := by simp only [specWrong, hok, hT]; rfl
    rw [e2] at h29
    rw [hT] at hn
    refine ACallL.quiet1 h29 rfl rfl rfl ?_
    simp only [go_sem, Nat.reduceEqDiff, Nat.reduceAdd, Nat.reduceSub, Nat.reduceMul, Nat.reduceLT, Nat.reduceLeDiff, Nat.reduceMod, Nat.reduceDiv, Int.reduceToNat, Int.reduceLT, Int.reduceLE, Bool.not_true, Bool.not_false, reduceIte, Int.reduceEq, Int.reduceBEq, Int.reduceBNe, Int.reduceGT, Int.reduceGE, Int.reduceNeg, Int.reduceAdd, Int.reduceSub, Nat.reduceBEq, decide_true, decide_false, undef, beq_self_eq_true, bne_self_eq_false, Bool.and_true, Bool.true_and, Bool.and_false, Bool.false_and, Bool.or_true, Bool.true_or, Bool.or_false, Bool.false_or, undef]
    refine ACallL.quiet1 h19 rfl rfl rfl ?_
    simp only [go_sem, Nat.reduceEqDiff, Nat.reduceAdd, Nat.reduceSub, Nat.reduceMul, Nat.reduceLT, Nat.reduceLeDiff, Nat.reduceMod, Nat.reduceDiv, Int.reduceToNat, Int.reduceLT, Int.reduceLE, Bool.not_true, Bool.not_false, reduceIte, Int.reduceEq, Int.reduceBEq, Int.reduceBNe, Int.reduceGT, Int.reduceGE, Int.reduceNeg, Int.reduceAdd, Int.reduceSub, Nat.reduceBEq, decide_true, decide_false, undef, beq_self_eq_true, bne_self_eq_false, Bool.and_true, Bool.true_and, Bool.and_false, Bool.false_and, Bool.or_true, Bool.true_or, Bool.or_false, Bool.false_or, undef, hn]
    refine ACallL.quiet1 awake_ok rfl rfl rfl ?_
    simp only [go_sem, Nat.reduceEqDiff, Nat.reduceAdd, Nat.reduceSub, Nat.reduceMul, Nat.reduceLT, Nat.reduceLeDiff, Nat.reduceMod, Nat.reduceDiv, Int.reduceToNat, Int.reduceLT, Int.reduceLE, Bool.not_true, Bool.not_false, reduceIte, Int.reduceEq, Int.reduceBEq, Int.reduceBNe, Int.reduceGT, Int.reduceGE, Int.reduceNeg, Int.reduceAdd, Int.reduceSub, Nat.reduceBEq, decide_true, decide_false, undef, beq_self_eq_true, bne_self_eq_false, Bool.and_true, Bool.true_and, Bool.and_false, Bool.false_and, Bool.or_true, Bool.true_or, Bool.or_false, Bool.false_or, undef]
    exact finL_ret [] ⟨rfl, rfl, rfl, rfl, _, rfl, res_mk rfl⟩
  rw [hT] at hn
  have e2 : specWrong f = (((bestW f (2 ^ f.ss.length) : Nat) : Int), 0) := by simp only [specWrong, hok, hT, bestW_wrong f hf]; rfl
  rw [e2] at h29
  have hp2 : 2 ^ f.ss.length ≤ 256 := Nat.pow_le_pow_right (n := 2) (by decide) hns
  have hp1 := Nat.two_pow_pos f.ss.length
  have b1 := bestW_lt f _ (Nat.le_refl _)
  have b2 := bestW_good f hf (2 ^ f.ss.length)
  obtain ⟨-, b3⟩ := bestW_least f hf _ (Nat.le_refl _)
  have hcan := fun set (h : set < 2 ^ f.ss.length) => can_ok f hL hf set (by omega)
  have hgl := fun set (h : set < 2 ^ f.ss.length) => good_leave f set h
  have g0 : good f 0 = false := by
    unfold good
    rw [Nat.sub_zero, truthsW_all, noT_nil hT]
    rfl
  generalize bestW f (2 ^ f.ss.length) = B at *
  have hB0 : B ≠ 0 := by rintro rfl; rw [g0] at b2; cases b2
  have cB := hcan B b1
  rw [hgl B b1, b2] at cB
  have sh := shl_one (i := f.ss.length) (by omega)
  have ws : IntKind.i64.wrap (((2 ^ f.ss.length : Nat) : Int) - 1) = ((2 ^ f.ss.length - 1 : Nat) : Int) := by rw [wrap_id (by omega) (by omega)]; omega
  have hl0 : ((f.ss.length : Int) < 0) = False := by simp
  have q1 : decide ((B : Int) < 1) = false := by simp; omega
  have q2 : decide ((B : Int) > ((2 ^ f.ss.length - 1 : Nat) : Int)) = false := by simp; omega
  simp only [fl5] at cB
  refine ACallL.quiet1 h29 rfl rfl rfl ?_
  simp only [go_sem, Nat.reduceEqDiff, Nat.reduceAdd, Nat.reduceSub, Nat.reduceMul, Nat.reduceLT, Nat.reduceLeDiff, Nat.reduceMod, Nat.reduceDiv, Int.reduceToNat, Int.reduceLT, Int.reduceLE, Bool.not_true, Bool.not_false, reduceIte, Int.reduceEq, Int.reduceBEq, Int.reduceBNe, Int.reduceGT, Int.reduceGE, Int.reduceNeg, Int.reduceAdd, Int.reduceSub, Nat.reduceBEq, decide_true, decide_false, undef, beq_self_eq_true, bne_self_eq_false, Bool.and_true, Bool.true_and, Bool.and_false, Bool.false_and, Bool.or_true, Bool.true_or, Bool.or_false, Bool.false_or, undef]
  refine ACallL.quiet1 h19 rfl rfl rfl ?_
  simp only [go_sem, Nat.reduceEqDiff, Nat.reduceAdd, Nat.reduceSub, Nat.reduceMul, Nat.reduceLT, Nat.reduceLeDiff, Nat.reduceMod, Nat.reduceDiv, Int.reduceToNat, Int.reduceLT, Int.reduceLE, Bool.not_true, Bool.not_false, reduceIte, Int.reduceEq, Int.reduceBEq, Int.reduceBNe, Int.reduceGT, Int.reduceGE, Int.reduceNeg, Int.reduceAdd, Int.reduceSub, Nat.reduceBEq, decide_true, decide_false, undef, beq_self_eq_true, bne_self_eq_false, Bool.and_true, Bool.true_and, Bool.and_false, Bool.false_and, Bool.or_true, Bool.true_or, Bool.or_false, Bool.false_or, undef, hn, List.length_map, sh, hl0, ws, q1, q2]
  refine ACallL.quiet1 cB rfl rfl rfl ?_
  simp only [go_sem, Nat.reduceEqDiff, Nat.reduceAdd, Nat.reduceSub, Nat.reduceMul, Nat.reduceLT, Nat.reduceLeDiff, Nat.reduceMod, Nat.reduceDiv, Int.reduceToNat, Int.reduceLT, Int.reduceLE, Bool.not_true, Bool.not_false, reduceIte, Int.reduceEq, Int.reduceBEq, Int.reduceBNe, Int.reduceGT, Int.reduceGE, Int.reduceNeg, Int.reduceAdd, Int.reduceSub, Nat.reduceBEq, decide_true, decide_false, undef, beq_self_eq_true, bne_self_eq_false, Bool.and_true, Bool.true_and, Bool.and_false, Bool.false_and, Bool.or_true, Bool.true_or, Bool.or_false, Bool.false_or, undef, List.length_map]
  refine awpL_for (i := 74) (L := 73) f.ss.length (fun j s => s = { env := [(74, .t (vi j)), (73, .t (vi f.ss.length)), (10, .t (vi (2 ^ f.ss.length - 1 : Nat))), (9, .fn (.func 41) [] [.ptr 0 0]), (5, .t (vi B)), (1, .t (.lit (.int .u8 u)))], σ := [.cells ((fl5 f).map .t)] }) ?_ ⟨_, Sub.gc [0] [74, 73, 10, 9, 5, 1] rfl rfl, rfl⟩ ?_ ?_
  · rintro k s rfl; exact ⟨rfl, rfl⟩
  · rintro j s hj rfl
    have hw : IntKind.i64.wrap ((j : Int) + 1) = ((j + 1 : Nat) : Int) := by rw [wrap_id (by omega) (by omega)]; omega
    have hbit := bit_eq (a := B) (i := j) (by omega)
    have hj0 : ((j : Int) < 0) = False := by simp
    have sj := shl_one (i := j) (by omega)
    have hpj : 2 ^ j ≤ 256 := Nat.pow_le_pow_right (n := 2) (by decide) (show j ≤ 8 by omega)
    have han := bits_andNot (a := B) (b := 2 ^ j) (by omega) (by omega)
    simp only [fl5, go_sem, Nat.reduceEqDiff, Nat.reduceAdd, Nat.reduceSub, Nat.reduceMul, Nat.reduceLT, Nat.reduceLeDiff, Nat.reduceMod, Nat.reduceDiv, Int.reduceToNat, Int.reduceLT, Int.reduceLE, Bool.not_true, Bool.not_false, reduceIte, Int.reduceEq, Int.reduceBEq, Int.reduceBNe, Int.reduceGT, Int.reduceGE, Int.reduceNeg, Int.reduceAdd, Int.reduceSub, Nat.reduceBEq, decide_true, decide_false, undef, beq_self_eq_true, bne_self_eq_false, Bool.and_true, Bool.true_and, Bool.and_false, Bool.false_and, Bool.or_true, Bool.true_or, Bool.or_false, Bool.false_or, undef, List.length_map, hbit, hj0, hw]
    cases hb : B.testBit j
    · simp only [fl5, go_sem, Nat.reduceEqDiff, Nat.reduceAdd, Nat.reduceSub, Nat.reduceMul, Nat.reduceLT, Nat.reduceLeDiff, Nat.reduceMod, Nat.reduceDiv, Int.reduceToNat, Int.reduceLT, Int.reduceLE, Bool.not_true, Bool.not_false, reduceIte, Int.reduceEq, Int.reduceBEq, Int.reduceBNe, Int.reduceGT, Int.reduceGE, Int.reduceNeg, Int.reduceAdd, Int.reduceSub, Nat.reduceBEq, decide_true, decide_false, undef, beq_self_eq_true, bne_self_eq_false, Bool.and_true, Bool.true_and, Bool.and_false, Bool.false_and, Bool.or_true, Bool.true_or, Bool.or_false, Bool.false_or, undef, List.length_map, hbit, hb, hj0, hw]
      exact ⟨_, Sub.gc [0] [74, 73, 10, 9, 5, 1] rfl rfl, rfl⟩
    · obtain ⟨d1, d2⟩ := size_drop B (by omega) j (by omega) hb
      have hlt : ndiff B (2 ^ j) < 2 ^ f.ss.length := ndiff_bnd b1
      have hgy : good f (ndiff B (2 ^ j)) = false := by
        cases hg : good f (ndiff B (2 ^ j)) with
        | false => rfl
        | true => have := b3 _ hlt hg; omega
      have cY := hcan _ hlt
      rw [hgl _ hlt, hgy] at cY
      simp only [fl5] at cY
      simp only [fl5, go_sem, Nat.reduceEqDiff, Nat.reduceAdd, Nat.reduceSub, Nat.reduceMul, Nat.reduceLT, Nat.reduceLeDiff, Nat.reduceMod, Nat.reduceDiv, Int.reduceToNat, Int.reduceLT, Int.reduceLE, Bool.not_true, Bool.not_false, reduceIte, Int.reduceEq, Int.reduceBEq, Int.reduceBNe, Int.reduceGT, Int.reduceGE, Int.reduceNeg, Int.reduceAdd, Int.reduceSub, Nat.reduceBEq, decide_true, decide_false, undef, beq_self_eq_true, bne_self_eq_false, Bool.and_true, Bool.true_and, Bool.and_false, Bool.false_and, Bool.or_true, Bool.true_or, Bool.or_false, Bool.false_or, undef, List.length_map, hbit, hb, hj0, hw, sj, han]
      refine ACallL.quiet1 cY rfl rfl rfl ?_
      simp only [fl5, go_sem, Nat.reduceEqDiff, Nat.reduceAdd, Nat.reduceSub, Nat.reduceMul, Nat.reduceLT, Nat.reduceLeDiff, Nat.reduceMod, Nat.reduceDiv, Int.reduceToNat, Int.reduceLT, Int.reduceLE, Bool.not_true, Bool.not_false, reduceIte, Int.reduceEq, Int.reduceBEq, Int.reduceBNe, Int.reduceGT, Int.reduceGE, Int.reduceNeg, Int.reduceAdd, Int.reduceSub, Nat.reduceBEq, decide_true, decide_false, undef, beq_self_eq_true, bne_self_eq_false, Bool.and_true, Bool.true_and, Bool.and_false, Bool.false_and, Bool.or_true, Bool.true_or, Bool.or_false, Bool.false_or, undef, List.length_map, hbit, hb, hj0, hw, sj, han]
      exact ⟨_, Sub.gc [0] [74, 73, 10, 9, 5, 1] rfl rfl, rfl⟩
  · rintro s rfl
    have w0 : IntKind.i64.wrap (u : Int) = u := wrap_id (by omega) (by omega)
    have ha := bits_and (a := u) (b := 2 ^ f.ss.length - 1) (by omega) (by omega)
    have hy : u &&& (2 ^ f.ss.length - 1) < 2 ^ f.ss.length := Nat.lt_of_le_of_lt Nat.and_le_right (by omega)
    have cY := hcan _ hy
    rw [hgl _ hy, Bool.not_not] at cY
    have b3y := b3 _ hy
    have s1 := rsize_ok (u &&& (2 ^ f.ss.length - 1)) (by omega)
    have s2 := rsize_ok B (by omega)
    simp only [fl5] at cY
    generalize u &&& (2 ^ f.ss.length - 1) = y at *
    simp only [fl5, go_sem, Nat.reduceEqDiff, Nat.reduceAdd, Nat.reduceSub, Nat.reduceMul, Nat.reduceLT, Nat.reduceLeDiff, Nat.reduceMod, Nat.reduceDiv, Int.reduceToNat, Int.reduceLT, Int.reduceLE, Bool.not_true, Bool.not_false, reduceIte, Int.reduceEq, Int.reduceBEq, Int.reduceBNe, Int.reduceGT, Int.reduceGE, Int.reduceNeg, Int.reduceAdd, Int.reduceSub, Nat.reduceBEq, decide_true, decide_false, undef, beq_self_eq_true, bne_self_eq_false, Bool.and_true, Bool.true_and, Bool.and_false, Bool.false_and, Bool.or_true, Bool.true_or, Bool.or_false, Bool.false_or, undef, List.length_map, w0, ha]
    refine ACallL.quiet1 cY rfl rfl rfl ?_
    cases hg : good f y
    · simp only [go_sem, Nat.reduceEqDiff, Nat.reduceAdd, Nat.reduceSub, Nat.reduceMul, Nat.reduceLT, Nat.reduceLeDiff, Nat.reduceMod, Nat.reduceDiv, Int.reduceToNat, Int.reduceLT, Int.reduceLE, Bool.not_true, Bool.not_false, reduceIte, Int.reduceEq, Int.reduceBEq, Int.reduceBNe, Int.reduceGT, Int.reduceGE, Int.reduceNeg, Int.reduceAdd, Int.reduceSub, Nat.reduceBEq, decide_true, decide_false, undef, beq_self_eq_true, bne_self_eq_false, Bool.and_true, Bool.true_and, Bool.and_false, Bool.false_and, Bool.or_true, Bool.true_or, Bool.or_false, Bool.false_or, undef, hg]
      refine ACallL.quiet1 awake_ok rfl rfl rfl ?_
      simp only [go_sem, Nat.reduceEqDiff, Nat.reduceAdd, Nat.reduceSub, Nat.reduceMul, Nat.reduceLT, Nat.reduceLeDiff, Nat.reduceMod, Nat.reduceDiv, Int.reduceToNat, Int.reduceLT, Int.reduceLE, Bool.not_true, Bool.not_false, reduceIte, Int.reduceEq, Int.reduceBEq, Int.reduceBNe, Int.reduceGT, Int.reduceGE, Int.reduceNeg, Int.reduceAdd, Int.reduceSub, Nat.reduceBEq, decide_true, decide_false, undef, beq_self_eq_true, bne_self_eq_false, Bool.and_true, Bool.true_and, Bool.and_false, Bool.false_and, Bool.or_true, Bool.true_or, Bool.or_false, Bool.false_or, undef]
      exact finL_ret [] ⟨rfl, rfl, rfl, rfl, _, rfl, res_mk rfl⟩
    · have b4 := b3y hg
      simp only [go_sem, Nat.reduceEqDiff, Nat.reduceAdd, Nat.reduceSub, Nat.reduceMul, Nat.reduceLT, Nat.reduceLeDiff, Nat.reduceMod, Nat.reduceDiv, Int.reduceToNat, Int.reduceLT, Int.reduceLE, Bool.not_true, Bool.not_false, reduceIte, Int.reduceEq, Int.reduceBEq, Int.reduceBNe, Int.reduceGT, Int.reduceGE, Int.reduceNeg, Int.reduceAdd, Int.reduceSub, Nat.reduceBEq, decide_true, decide_false, undef, beq_self_eq_true, bne_self_eq_false, Bool.and_true, Bool.true_and, Bool.and_false, Bool.false_and, Bool.or_true, Bool.true_or, Bool.or_false, Bool.false_or, undef, hg]
      refine ACallL.quiet1 s1 rfl rfl rfl ?_
      simp only [go_sem, Nat.reduceEqDiff, Nat.reduceAdd, Nat.reduceSub, Nat.reduceMul, Nat.reduceLT, Nat.reduceLeDiff, Nat.reduceMod, Nat.reduceDiv, Int.reduceToNat, Int.reduceLT, Int.reduceLE, Bool.not_true, Bool.not_false, reduceIte, Int.reduceEq, Int.reduceBEq, Int.reduceBNe, Int.reduceGT, Int.reduceGE, Int.reduceNeg, Int.reduceAdd, Int.reduceSub, Nat.reduceBEq, decide_true, decide_false, undef, beq_self_eq_true, bne_self_eq_false, Bool.and_true, Bool.true_and, Bool.and_false, Bool.false_and, Bool.or_true, Bool.true_or, Bool.or_false, Bool.false_or, undef, hg]
      refine ACallL.quiet1 s2 rfl rfl rfl ?_
      cases h1 : decide ((size y : Int) > (size B : Int))
      · have h2 : ((size y : Int) == (size B : Int)) = true := by simp at h1 ⊢; omega
        have h3 : decide ((y : Int) ≥ (B : Int)) = true := by simp at h1 ⊢; omega
        simp only [go_sem, Nat.reduceEqDiff, Nat.reduceAdd, Nat.reduceSub, Nat.reduceMul, Nat.reduceLT, Nat.reduceLeDiff, Nat.reduceMod, Nat.reduceDiv, Int.reduceToNat, Int.reduceLT, Int.reduceLE, Bool.not_true, Bool.not_false, reduceIte, Int.reduceEq, Int.reduceBEq, Int.reduceBNe, Int.reduceGT, Int.reduceGE, Int.reduceNeg, Int.reduceAdd, Int.reduceSub, Nat.reduceBEq, decide_true, decide_false, undef, beq_self_eq_true, bne_self_eq_false, Bool.and_true, Bool.true_and, Bool.and_false, Bool.false_and, Bool.or_true, Bool.true_or, Bool.or_false, Bool.false_or, undef, hg, h1]
        refine ACallL.quiet1 s1 rfl rfl rfl ?_
        simp only [go_sem, Nat.reduceEqDiff, Nat.reduceAdd, Nat.reduceSub, Nat.reduceMul, Nat.reduceLT, Nat.reduceLeDiff, Nat.reduceMod, Nat.reduceDiv, Int.reduceToNat, Int.reduceLT, Int.reduceLE, Bool.not_true, Bool.not_false, reduceIte, Int.reduceEq, Int.reduceBEq, Int.reduceBNe, Int.reduceGT, Int.reduceGE, Int.reduceNeg, Int.reduceAdd, Int.reduceSub, Nat.reduceBEq, decide_true, decide_false, undef, beq_self_eq_true, bne_self_eq_false, Bool.and_true, Bool.true_and, Bool.and_false, Bool.false_and, Bool.or_true, Bool.true_or, Bool.or_false, Bool.false_or, undef, hg, h1]
        refine ACallL.quiet1 s2 rfl rfl rfl ?_
        simp only [go_sem, Nat.reduceEqDiff, Nat.reduceAdd, Nat.reduceSub, Nat.reduceMul, Nat.reduceLT, Nat.reduceLeDiff, Nat.reduceMod, Nat.reduceDiv, Int.reduceToNat, Int.reduceLT, Int.reduceLE, Bool.not_true, Bool.not_false, reduceIte, Int.reduceEq, Int.reduceBEq, Int.reduceBNe, Int.reduceGT, Int.reduceGE, Int.reduceNeg, Int.reduceAdd, Int.reduceSub, Nat.reduceBEq, decide_true, decide_false, undef, beq_self_eq_true, bne_self_eq_false, Bool.and_true, Bool.true_and, Bool.and_false, Bool.false_and, Bool.or_true, Bool.true_or, Bool.or_false, Bool.false_or, undef, hg, h1, h2, h3]
        refine ACallL.quiet1 awake_ok rfl rfl rfl ?_
        simp only [go_sem, Nat.reduceEqDiff, Nat.reduceAdd, Nat.reduceSub, Nat.reduceMul, Nat.reduceLT, Nat.reduceLeDiff, Nat.reduceMod, Nat.reduceDiv, Int.reduceToNat, Int.reduceLT, Int.reduceLE, Bool.not_true, Bool.not_false, reduceIte, Int.reduceEq, Int.reduceBEq, Int.reduceBNe, Int.reduceGT, Int.reduceGE, Int.reduceNeg, Int.reduceAdd, Int.reduceSub, Nat.reduceBEq, decide_true, decide_false, undef, beq_self_eq_true, bne_self_eq_false, Bool.and_true, Bool.true_and, Bool.and_false, Bool.false_and, Bool.or_true, Bool.true_or, Bool.or_false, Bool.false_or, undef]
        exact finL_ret [] ⟨rfl, rfl, rfl, rfl, _, rfl, res_mk rfl⟩
      · simp only [go_sem, Nat.reduceEqDiff, Nat.reduceAdd, Nat.reduceSub, Nat.reduceMul, Nat.reduceLT, Nat.reduceLeDiff, Nat.reduceMod, Nat.reduceDiv, Int.reduceToNat, Int.reduceLT, Int.reduceLE, Bool.not_true, Bool.not_false, reduceIte, Int.reduceEq, Int.reduceBEq, Int.reduceBNe, Int.reduceGT, Int.reduceGE, Int.reduceNeg, Int.reduceAdd, Int.reduceSub, Nat.reduceBEq, decide_true, decide_false, undef, beq_self_eq_true, bne_self_eq_false, Bool.and_true, Bool.true_and, Bool.and_false, Bool.false_and, Bool.or_true, Bool.true_or, Bool.or_false, Bool.false_or, undef, hg, h1]
        refine ACallL.quiet1 awake_ok rfl rfl rfl ?_
        simp only [go_sem, Nat.reduceEqDiff, Nat.reduceAdd, Nat.reduceSub, Nat.reduceMul, Nat.reduceLT, Nat.reduceLeDiff, Nat.reduceMod, Nat.reduceDiv, Int.reduceToNat, Int.reduceLT, Int.reduceLE, Bool.not_true, Bool.not_false, reduceIte, Int.reduceEq, Int.reduceBEq, Int.reduceBNe, Int.reduceGT, Int.reduceGE, Int.reduceNeg, Int.reduceAdd, Int.reduceSub, Nat.reduceBEq, decide_true, decide_false, undef, beq_self_eq_true, bne_self_eq_false, Bool.and_true, Bool.true_and, Bool.and_false, Bool.false_and, Bool.or_true, Bool.true_or, Bool.or_false, Bool.false_or, undef]
        exact finL_ret [] ⟨rfl, rfl, rfl, rfl, _, rfl, res_mk rfl⟩
end Go.Proofs.YtkbjodmpmmnhgaaDoor
