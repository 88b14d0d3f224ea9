/- Proved here: laws that the statements need (TpC1, TsC1, TsC1s, TsC2, TfC1, TfC2, TbC1, TbC1p, TbC3, TpC2, ThC1, ThC2, TpC3). No conditions but those that each law states. -/
import Derived.Test.YtbhbbjngndmnmaaGreatDoorFL
import Derived.Test.YtbhbbjngndmnmaaGreatDoorFP
import Derived.Test.YtbhbbjngndmnmaaGreatDoorProg
set_option linter.unusedSimpArgs false
set_option linter.unusedVariables false
namespace Go.Proofs.YtbhbbjngndmnmaaGreatDoor
open Go Go.Ab
def c8 : AC :=
 .seq (.reg [ap 1 (.box (tm 0)),
 ap 2 (.mov (.lit .nilFunc))])
 (.seq (.reg [ap 3 (.alloc [(.int .i64 0)]),
 aU (.store 1 (tm 3) (zi 0))])
 (.seq (.reg [ap 4 (.mkfn (.func 26) [] [(tm 3), (tm 1)]),
 ap 2 (.mov (tm 4))])
 (.ret)))
theorem k8 : FnC Tryz.prog 8 5 [] [] [.tmp 2] c8 1 := ⟨Tryz.f8, _, Tryz.func8, rfl, by decide, rfl, by decide, by kernel_rfl, by kernel_rfl⟩
def c9 : AC :=
 .seq (.reg [ap 4 (.alloc [(.int .i64 0), (.int .i64 0)])])
 (.seq (.reg [ap 5 (.mov (tm 0)),
 ap 6 (.mov (tm 1)),
 ap 7 (.build [(.int .i64 0), (.int .i64 0)] [(0, 1, (tm 5)), (1, 1, (tm 6))]),
 aU (.store 2 (tm 4) (tm 7))])
 (.ret))
theorem k9 : FnC Tryz.prog 9 8 [4] [] [.cell 4 true 2] c9 2 := ⟨Tryz.f9, _, Tryz.func9, rfl, by decide, rfl, by decide, by kernel_rfl, by kernel_rfl⟩
def c15 : AC :=
 .seq (.reg [ap 4 (.box (tm 0)),
 ap 5 (.box (tm 1)),
 ap 8 (.mov (zi 0))])
 (.seq (.reg [ap 11 (.faddr 4 (tm 5)),
 ap 12 (.load false 1 (tm 11)),
 ap 13 (.mov (tm 2)),
 ap 14 (.iaddr 3 (tm 12) (tm 13)),
 ap 15 (.faddr 2 (tm 14)),
 ap 16 (.load false 1 (tm 15)),
 ap 9 (.mov (tm 16))])
 (.seq (.seq (.reg [ap 10 (.mov (zi 0))])
 (.block 0 (.loop (.seq (.seq (.reg [ap 17 (.mov (tm 10)),
 ap 18 (.mov (tm 3)),
 ap 19 (.bin .lss (tm 17) (tm 18))])
 (.cond (tm 19) (.skip)
 (.exit 0)))
 (.seq (.block 1 (.draw (.step (ap 22 (.load true 5 (tm 5))) (
 .step (ap 23 (.mov (tm 2))) (
 .step (ap 24 (.mov (tm 9))) (
 .step (ap 25 (.faddr 0 (tm 4))) (
 .step (ap 26 (.load false 1 (tm 25))) (
 .step (ap 27 (.mov (tm 10))) (
 .step (ap 28 (.iaddr 1 (tm 26) (tm 27))) (
 .step (ap 29 (.load false 1 (tm 28))) (
 .step (ap 30 (.faddr 1 (tm 4))) (
 .step (ap 31 (.load false 1 (tm 30))) (
 .step (ap 32 (.mov (tm 10))) (
 .step (ap 33 (.iaddr 1 (tm 31) (tm 32))) (
 .step (ap 34 (.load false 1 (tm 33))) (
 .ev (ap 35 (.call (.fn 43) [(tm 22), (tm 23), (tm 24), (tm 29), (tm 34)])) [ap 33 (.iaddr 1 (tm 31) (tm 32)), ap 31 (.load false 1 (tm 30)), ap 30 (.faddr 1 (tm 4)), ap 28 (.iaddr 1 (tm 26) (tm 27)), ap 26 (.load false 1 (tm 25)), ap 25 (.faddr 0 (tm 4))] (
 .step (ap 9 (.mov (tm 35))) (
 .done))
 (.stop)))))))))))))))))
 (.reg [ap 20 (.mov (tm 10)),
 ap 21 (.bin .add (tm 20) (zi 1)),
 ap 10 (.mov (tm 21))]))))))
 (.seq (.reg [ap 36 (.mov (tm 9)),
 ap 8 (.mov (tm 36))])
 (.ret))))
theorem k15 : FnC Tryz.prog 15 37 [] [] [.tmp 8] c15 4 := ⟨Tryz.f15, _, Tryz.func15, rfl, by decide, rfl, by decide, by kernel_rfl, by kernel_rfl⟩
def c23 : AC :=
 .seq (.reg [ap 0 (.alloc [(.int .i64 0), (.int .i64 0), (.int .i64 0), (.int .i64 0), (.slice none 0 0)])])
 (.seq (.reg [ap 1 (.call (.fn 9) [(zi 0), (zi 0)]),
 ap 2 (.call (.fn 9) [(zi 3), (zi 3)]),
 ap 3 (.build [(.int .i64 0), (.int .i64 0), (.int .i64 0), (.int .i64 0), (.int .i64 0)] [(0, 1, (zi 0)), (1, 2, (tm 1)), (3, 2, (tm 2))]),
 ap 4 (.call (.fn 9) [(zi 2), (zi 2)]),
 ap 5 (.call (.fn 9) [(zi 2), (zi 3)]),
 ap 6 (.build [(.int .i64 0), (.int .i64 0), (.int .i64 0), (.int .i64 0), (.int .i64 0)] [(0, 1, (zi 4)), (1, 2, (tm 4)), (3, 2, (tm 5))]),
 ap 7 (.bslice 5 (.agg #[(.int .i64 0), (.int .i64 0), (.int .i64 0), (.int .i64 0), (.int .i64 0)]) 2 [(0, (tm 3)), (1, (tm 6))]),
 ap 8 (.call (.fn 9) [(zi 3), (zi 4)]),
 ap 9 (.call (.fn 9) [(zi 1), (zi 1)]),
 ap 10 (.build [(.int .i64 0), (.int .i64 0), (.int .i64 0), (.int .i64 0), (.int .i64 0)] [(0, 1, (zi 2)), (1, 2, (tm 8)), (3, 2, (tm 9))]),
 ap 11 (.call (.fn 9) [(zi 5), (zi 5)]),
 ap 12 (.call (.fn 9) [(zi 0), (zi 3)]),
 ap 13 (.build [(.int .i64 0), (.int .i64 0), (.int .i64 0), (.int .i64 0), (.int .i64 0)] [(0, 1, (zi 5)), (1, 2, (tm 11)), (3, 2, (tm 12))]),
 ap 14 (.bslice 5 (.agg #[(.int .i64 0), (.int .i64 0), (.int .i64 0), (.int .i64 0), (.int .i64 0)]) 2 [(0, (tm 10)), (1, (tm 13))]),
 ap 15 (.bslice 1 (.slice none 0 0) 2 [(0, (tm 7)), (1, (tm 14))]),
 ap 16 (.build [(.int .i64 0), (.int .i64 0), (.int .i64 0), (.int .i64 0), (.slice none 0 0)] [(0, 1, (zi 6)), (1, 1, (zi 4)), (2, 1, (zi 1)), (3, 1, (zi 6)), (4, 1, (tm 15))]),
 aU (.store 5 (tm 0) (tm 16))])
 (.ret))
theorem k23 : FnC Tryz.prog 23 17 [0] [] [.cell 0 true 5] c23 0 := ⟨Tryz.f23, _, Tryz.func23, rfl, by decide, rfl, by decide, by kernel_rfl, by kernel_rfl⟩
def c24 : AC :=
 .seq (.reg [ap 0 (.alloc [(.int .i64 0), (.int .i64 0), (.int .i64 0), (.slice none 0 0), (.slice none 0 0)])])
 (.seq (.reg [ap 1 (.call (.fn 9) [(zi 2), (zi 3)]),
 ap 2 (.build [(.int .i64 0), (.int .i64 0), (.int .i64 0)] [(0, 2, (tm 1))]),
 ap 3 (.call (.fn 9) [(zi 7), (zi 8)]),
 ap 4 (.build [(.int .i64 0), (.int .i64 0), (.int .i64 0)] [(0, 2, (tm 3))]),
 ap 5 (.call (.fn 9) [(zi 3), (zi 3)]),
 ap 6 (.build [(.int .i64 0), (.int .i64 0), (.int .i64 0)] [(0, 2, (tm 5)), (2, 1, (zi 1))]),
 ap 7 (.call (.fn 9) [(zi 2), (zi 4)]),
 ap 8 (.build [(.int .i64 0), (.int .i64 0), (.int .i64 0)] [(0, 2, (tm 7))]),
 ap 9 (.call (.fn 9) [(zi 1), (zi 1)]),
 ap 10 (.build [(.int .i64 0), (.int .i64 0), (.int .i64 0)] [(0, 2, (tm 9))]),
 ap 11 (.call (.fn 9) [(zi 5), (zi 5)]),
 ap 12 (.build [(.int .i64 0), (.int .i64 0), (.int .i64 0)] [(0, 2, (tm 11))]),
 ap 13 (.bslice 3 (.agg #[(.int .i64 0), (.int .i64 0), (.int .i64 0)]) 6 [(0, (tm 2)), (1, (tm 4)), (2, (tm 6)), (3, (tm 8)), (4, (tm 10)), (5, (tm 12))]),
 ap 14 (.build [(.int .i64 0), (.bool false)] [(0, 1, (zi 3)), (1, 1, (.lit (.bool true)))]),
 ap 15 (.bslice 2 (.agg #[(.int .i64 0), (.bool false)]) 1 [(0, (tm 14))]),
 ap 16 (.build [(.int .i64 0), (.int .i64 0), (.int .i64 0), (.slice none 0 0), (.slice none 0 0)] [(0, 1, (zi 4)), (1, 1, (zi 8)), (2, 1, (zi 2)), (3, 1, (tm 13)), (4, 1, (tm 15))]),
 aU (.store 5 (tm 0) (tm 16))])
 (.ret))
theorem k24 : FnC Tryz.prog 24 17 [0] [] [.cell 0 true 5] c24 0 := ⟨Tryz.f24, _, Tryz.func24, rfl, by decide, rfl, by decide, by kernel_rfl, by kernel_rfl⟩
def c26 : AC :=
 .seq (.reg [ap 3 (.box (tm 0)),
 ap 4 (.mov (zi 0))])
 (.seq (.reg [ap 5 (.load false 1 (tm 1)),
 ap 6 (.bin .add (tm 5) (zi 1)),
 aU (.store 1 (tm 1) (tm 6))])
 (.seq (.seq (.reg [ap 7 (.load false 1 (tm 2)),
 ap 8 (.len (tm 7)),
 ap 9 (.bin .eql (tm 8) (zi 0))])
 (.cond (tm 9) (.seq (.reg [ap 10 (.faddr 0 (tm 3)),
 ap 11 (.load false 1 (tm 10)),
 ap 4 (.mov (tm 11))])
 (.ret))
 (.skip)))
 (.seq (.draw (.step (ap 12 (.faddr 0 (tm 3))) (
 .step (ap 13 (.load false 1 (tm 12))) (
 .step (ap 14 (.load false 1 (tm 2))) (
 .step (ap 15 (.load false 1 (tm 1))) (
 .step (ap 16 (.load false 1 (tm 2))) (
 .step (ap 17 (.len (tm 16))) (
 .step (ap 18 (.bin .rem (tm 15) (tm 17))) (
 .step (ap 19 (.iaddr 1 (tm 14) (tm 18))) (
 .step (ap 20 (.load false 1 (tm 19))) (
 .step (ap 21 (.conv .i64 (tm 20))) (
 .step (ap 22 (.load false 1 (tm 1))) (
 .step (ap 23 (.bin .mul (zi 47) (tm 22))) (
 .step (ap 24 (.bin .add (tm 21) (tm 23))) (
 .step (ap 25 (.faddr 1 (tm 3))) (
 .step (ap 26 (.load false 1 (tm 25))) (
 .step (ap 27 (.faddr 0 (tm 3))) (
 .step (ap 28 (.load false 1 (tm 27))) (
 .step (ap 29 (.bin .sub (tm 26) (tm 28))) (
 .step (ap 30 (.bin .add (tm 29) (zi 1))) (
 .step (ap 31 (.bin .rem (tm 24) (tm 30))) (
 .step (ap 32 (.bin .add (tm 13) (tm 31))) (
 .step (ap 4 (.mov (tm 32))) (
 .done))))))))))))))))))))))))
 (.ret))))
theorem k26 : FnC Tryz.prog 26 33 [] [] [.tmp 4] c26 3 := ⟨Tryz.f26, _, Tryz.func26, rfl, by decide, rfl, by decide, by kernel_rfl, by kernel_rfl⟩
def c46 : AC :=
 .seq (.reg [ap 0 (.alloc [(.int .i64 0), (.int .i64 0), (.slice none 0 0), (.slice none 0 0), (.slice none 0 0)])])
 (.seq (.reg [ap 1 (.call (.fn 9) [(zi 3), (zi 4)]),
 ap 2 (.call (.fn 9) [(zi 5), (zi 5)]),
 ap 3 (.call (.fn 9) [(zi 6), (zi 7)]),
 ap 4 (.call (.fn 9) [(zi 4), (zi 4)]),
 ap 5 (.bslice 2 (.agg #[(.int .i64 0), (.int .i64 0)]) 4 [(0, (tm 1)), (1, (tm 2)), (2, (tm 3)), (3, (tm 4))]),
 ap 6 (.call (.fn 9) [(zi 1), (zi 1)]),
 ap 7 (.call (.fn 9) [(zi 1), (zi 2)]),
 ap 8 (.call (.fn 9) [(zi 2), (zi 3)]),
 ap 9 (.call (.fn 9) [(zi 0), (zi 1)]),
 ap 10 (.bslice 2 (.agg #[(.int .i64 0), (.int .i64 0)]) 4 [(0, (tm 6)), (1, (tm 7)), (2, (tm 8)), (3, (tm 9))]),
 ap 11 (.build [(.int .i64 0), (.int .i64 0), (.int .i64 0)] [(0, 1, (zi 6)), (1, 1, (zi 2))]),
 ap 12 (.build [(.int .i64 0), (.int .i64 0), (.int .i64 0)] [(0, 1, (zi 4)), (1, 1, (zi 1)), (2, 1, (zi 1))]),
 ap 13 (.build [(.int .i64 0), (.int .i64 0), (.int .i64 0)] [(0, 1, (zi 9)), (2, 1, (zi 2))]),
 ap 14 (.bslice 3 (.agg #[(.int .i64 0), (.int .i64 0), (.int .i64 0)]) 3 [(0, (tm 11)), (1, (tm 12)), (2, (tm 13))]),
 ap 15 (.build [(.int .i64 0), (.int .i64 0), (.slice none 0 0), (.slice none 0 0), (.slice none 0 0)] [(0, 1, (zi 3)), (1, 1, (zi 2)), (2, 1, (tm 5)), (3, 1, (tm 10)), (4, 1, (tm 14))]),
 aU (.store 5 (tm 0) (tm 15))])
 (.ret))
theorem k46 : FnC Tryz.prog 46 16 [0] [] [.cell 0 true 5] c46 0 := ⟨Tryz.f46, _, Tryz.func46, rfl, by decide, rfl, by decide, by kernel_rfl, by kernel_rfl⟩
def c49 : AC :=
 .seq (.reg [ap 4 (.mov (.lit (.bool false)))])
 (.seq (.seq (.reg [ap 6 (.mov (tm 0)),
 ap 7 (.len (tm 6)),
 ap 8 (.mov (tm 1)),
 ap 9 (.len (tm 8)),
 ap 10 (.bin .neq (tm 7) (tm 9))])
 (.cond (tm 10) (.seq (.reg [ap 4 (.mov (.lit (.bool false)))])
 (.ret))
 (.skip)))
 (.seq (.seq (.reg [ap 5 (.mov (zi 0))])
 (.block 0 (.loop (.seq (.seq (.reg [ap 11 (.mov (tm 5)),
 ap 12 (.mov (tm 0)),
 ap 13 (.len (tm 12)),
 ap 14 (.bin .lss (tm 11) (tm 13))])
 (.cond (tm 14) (.skip)
 (.exit 0)))
 (.seq (.block 1 (.seq (.draw (.step (ap 17 (.mov (tm 0))) (
 .step (ap 18 (.mov (tm 5))) (
 .step (ap 19 (.iaddr 1 (tm 17) (tm 18))) (
 .step (ap 20 (.load false 1 (tm 19))) (
 .step (ap 21 (.mov (tm 1))) (
 .step (ap 22 (.mov (tm 5))) (
 .step (ap 23 (.iaddr 1 (tm 21) (tm 22))) (
 .step (ap 24 (.load false 1 (tm 23))) (
 .step (ap 25 (.bin .neq (tm 20) (tm 24))) (
 .done)))))))))))
 (.cond (tm 25) (.seq (.reg [ap 4 (.mov (.lit (.bool false)))])
 (.ret))
 (.skip))))
 (.reg [ap 15 (.mov (tm 5)),
 ap 16 (.bin .add (tm 15) (zi 1)),
 ap 5 (.mov (tm 16))]))))))
 (.seq (.reg [ap 4 (.mov (.lit (.bool true)))])
 (.ret))))
theorem k49 : FnC Tryz.prog 49 26 [] [] [.tmp 4] c49 2 := ⟨Tryz.f49, _, Tryz.func49, rfl, by decide, rfl, by decide, by kernel_rfl, by kernel_rfl⟩
end Go.Proofs.YtbhbbjngndmnmaaGreatDoor
namespace Go.Proofs.YtbhbbjngndmnmaaGreatDoor.S
open Go Go.Ab
def c13 : AC :=
 .seq (.reg [ap 2 (.box (tm 0)),
 ap 4 (.mov (zi 0)),
 ap 5 (.mov (zi 0)),
 ap 6 (.alloc [(.int .i64 0)])])
 (.seq (.reg [aU (.defer 38 [(tm 6)])])
 (.seq (.reg [ap 7 (.mov (zi 0)),
 ap 8 (.mov (zi 0))])
 (.seq (.seq (.draw (.step (ap 11 (.load true 5 (tm 2))) (
 .step (ap 12 (.load true 5 (tm 2))) (
 .step (ap 13 (.mov (tm 1))) (
 .step (ap 16 (.faddr 4 (tm 2))) (
 .step (ap 17 (.load false 1 (tm 16))) (
 .step (ap 18 (.mov (tm 1))) (
 .step (ap 19 (.iaddr 3 (tm 17) (tm 18))) (
 .step (ap 20 (.load true 3 (tm 19))) (
 .step (ap 23 (.mov (zi 0))) (
 .ev (ap 14 (.call (.fn 40) [(tm 12), (tm 13)])) [ap 20 (.load true 3 (tm 19)), ap 19 (.iaddr 3 (tm 17) (tm 18)), ap 17 (.load false 1 (tm 16)), ap 16 (.faddr 4 (tm 2)), ap 11 (.load true 5 (tm 2))] (
 .ev (ap 15 (.call (.fn 39) [(tm 11), (tm 14)])) [ap 20 (.load true 3 (tm 19)), ap 19 (.iaddr 3 (tm 17) (tm 18)), ap 17 (.load false 1 (tm 16)), ap 16 (.faddr 4 (tm 2)), ap 12 (.load true 5 (tm 2))] (
 .ev (ap 21 (.call (.fn 41) [(tm 15), (tm 20)])) [ap 19 (.iaddr 3 (tm 17) (tm 18)), ap 17 (.load false 1 (tm 16)), ap 16 (.faddr 4 (tm 2)), ap 12 (.load true 5 (tm 2)), ap 11 (.load true 5 (tm 2))] (
 .step (ap 22 (.len (tm 21))) (
 .done))
 (.stop))
 (.stop))
 (.stop))))))))))))
 (.block 0 (.loop (.seq (.reg [ap 24 (.bin .lss (tm 23) (tm 22))])
 (.seq (.cond (tm 24) (.skip)
 (.exit 0))
 (.seq (.block 1 (.seq (.reg [ap 25 (.mov (tm 23)),
 ap 26 (.iaddr 2 (tm 21) (tm 23)),
 ap 27 (.load true 2 (tm 26)),
 ap 10 (.alloc [(.bool false), (.bool false)]),
 ap 9 (.mov (tm 25)),
 aU (.store 2 (tm 10) (tm 27))])
 (.seq (.seq (.reg [ap 28 (.faddr 0 (tm 10)),
 ap 29 (.load false 1 (tm 28))])
 (.cond (tm 29) (.reg [ap 30 (.mov (tm 8)),
 ap 31 (.mov (tm 9)),
 ap 32 (.bin .shl (zi 1) (tm 31)),
 ap 33 (.bin .or (tm 30) (tm 32)),
 ap 8 (.mov (tm 33))])
 (.skip)))
 (.seq (.reg [ap 34 (.faddr 1 (tm 10)),
 ap 35 (.load false 1 (tm 34)),
 ap 36 (.un .not (tm 35))])
 (.cond (tm 36) (.reg [ap 37 (.mov (tm 7)),
 ap 38 (.mov (tm 9)),
 ap 39 (.bin .shl (zi 1) (tm 38)),
 ap 40 (.bin .or (tm 37) (tm 39)),
 ap 7 (.mov (tm 40))])
 (.skip))))))
 (.reg [ap 41 (.bin .add (tm 23) (zi 1)),
 ap 23 (.mov (tm 41))])))))))
 (.seq (.reg [ap 42 (.mov (tm 7)),
 ap 43 (.mov (tm 8)),
 ap 4 (.mov (tm 42)),
 ap 5 (.mov (tm 43)),
 aU (.store 1 (tm 6) (zi 0))])
 (.ret)))))
theorem k13 : FnC Tryz.prog 13 44 [4, 5, 6] [] [.tmp 4, .tmp 5, .cell 6 false 1] c13 2 := ⟨Tryz.f13, _, Tryz.func13, rfl, by decide, rfl, by decide, by kernel_rfl, by kernel_rfl⟩
def c38 : AC :=
 .seq (.reg [ap 6 (.mov (tm 2)),
 ap 7 (.nilcmp true (tm 6))])
 (.cond (tm 7) (.seq (.reg [ap 9 (.mov (tm 2)),
 ap 10 (.tass 138 true (tm 9)),
 ap 8 (.mov (tm 10)),
 ap 11 (.ext (tm 8) 0),
 ap 12 (.ext (tm 8) 1),
 ap 3 (.mov (tm 11)),
 ap 4 (.mov (tm 12))])
 (.seq (.seq (.reg [ap 13 (.mov (tm 4)),
 ap 14 (.un .not (tm 13))])
 (.cond (tm 14) (.reg [ap 15 (.mov (tm 2)),
 aU (.pan (tm 15))])
 (.skip)))
 (.reg [ap 16 (.mov (tm 0)),
 ap 17 (.mov (tm 3)),
 ap 18 (.nilck (tm 16)),
 aU (.store 1 (tm 18) (tm 17))])))
 (.skip))
theorem a38 : FnA Tryz.prog 38 19 5 2 c38 1 := ⟨Tryz.f38, _, _, _, _, _, Tryz.func38, rfl, by decide, rfl, by decide, rfl, rfl, rfl, rfl, rfl, rfl, rfl, by decide, by decide, by kernel_rfl⟩
def c39 : AC :=
 .seq (.reg [ap 2 (.box (tm 0)),
 ap 4 (.mov (.lit (.pointer none)))])
 (.seq (.reg [ap 10 (.faddr 0 (tm 2)),
 ap 11 (.load false 1 (tm 10)),
 ap 12 (.call (.fn 64) [(tm 11), (zi 1), (zi 6)]),
 ap 13 (.mov (tm 12)),
 aT 14 13 (.faddr 1 (tm 2)),
 aT 15 13 (.load false 1 (tm 14)),
 aT 16 13 (.call (.fn 64) [(tm 15), (zi 0), (zi 4)]),
 ap 17 (.pick (tm 13) (tm 16) (.lit (.bool false))),
 ap 18 (.mov (tm 17)),
 aT 19 18 (.faddr 2 (tm 2)),
 aT 20 18 (.load false 1 (tm 19)),
 aT 21 18 (.len (tm 20)),
 aT 22 18 (.bin .leq (tm 21) (zi 8)),
 ap 23 (.pick (tm 18) (tm 22) (.lit (.bool false))),
 ap 24 (.mov (tm 23)),
 aT 25 24 (.faddr 3 (tm 2)),
 aT 26 24 (.load false 1 (tm 25)),
 aT 27 24 (.len (tm 26)),
 aT 28 24 (.faddr 2 (tm 2)),
 aT 29 24 (.load false 1 (tm 28)),
 aT 30 24 (.len (tm 29)),
 aT 31 24 (.bin .eql (tm 27) (tm 30)),
 ap 32 (.pick (tm 24) (tm 31) (.lit (.bool false))),
 ap 33 (.mov (tm 32)),
 aT 34 33 (.faddr 4 (tm 2)),
 aT 35 33 (.load false 1 (tm 34)),
 aT 36 33 (.len (tm 35)),
 aT 37 33 (.bin .leq (tm 36) (zi 5)),
 ap 38 (.pick (tm 33) (tm 37) (.lit (.bool false))),
 ap 39 (.call (.fn 63) [(tm 38), (zi 1)])])
 (.seq (.reg [ap 5 (.mov (.fn 65))])
 (.seq (.seq (.reg [ap 40 (.faddr 2 (tm 2)),
 ap 41 (.load false 1 (tm 40)),
 ap 42 (.len (tm 41)),
 ap 43 (.mov (zi 0))])
 (.block 0 (.loop (.seq (.reg [ap 44 (.bin .lss (tm 43) (tm 42))])
 (.seq (.cond (tm 44) (.skip)
 (.exit 0))
 (.seq (.block 1 (.seq (.reg [ap 45 (.mov (tm 43)),
 ap 46 (.iaddr 2 (tm 41) (tm 43)),
 ap 47 (.load true 2 (tm 46)),
 ap 7 (.alloc [(.int .i64 0), (.int .i64 0)]),
 ap 6 (.mov (tm 45)),
 aU (.store 2 (tm 7) (tm 47))])
 (.reg [ap 48 (.mov (tm 5)),
 ap 49 (.load true 2 (tm 7)),
 ap 50 (.call (tm 48) [(tm 49), (zi 30)]),
 ap 51 (.mov (tm 50)),
 aT 52 51 (.mov (tm 5)),
 aT 53 51 (.faddr 3 (tm 2)),
 aT 54 51 (.load false 1 (tm 53)),
 aT 55 51 (.mov (tm 6)),
 aT 56 51 (.iaddr 2 (tm 54) (tm 55)),
 aT 57 51 (.load true 2 (tm 56)),
 aT 58 51 (.call (tm 52) [(tm 57), (zi 10)]),
 ap 59 (.pick (tm 51) (tm 58) (.lit (.bool false))),
 ap 60 (.call (.fn 63) [(tm 59), (zi 1)])])))
 (.reg [ap 61 (.bin .add (tm 43) (zi 1)),
 ap 43 (.mov (tm 61))])))))))
 (.seq (.seq (.reg [ap 62 (.faddr 4 (tm 2)),
 ap 63 (.load false 1 (tm 62)),
 ap 64 (.len (tm 63)),
 ap 65 (.mov (zi 0))])
 (.block 2 (.loop (.seq (.reg [ap 66 (.bin .lss (tm 65) (tm 64))])
 (.seq (.cond (tm 66) (.skip)
 (.exit 2))
 (.seq (.block 3 (.seq (.reg [ap 67 (.iaddr 3 (tm 63) (tm 65)),
 ap 68 (.load true 3 (tm 67)),
 ap 9 (.alloc [(.int .i64 0), (.int .i64 0), (.int .i64 0)]),
 aU (.store 3 (tm 9) (tm 68))])
 (.reg [ap 69 (.faddr 0 (tm 9)),
 ap 70 (.load false 1 (tm 69)),
 ap 71 (.call (.fn 64) [(tm 70), (zi 0), (zi 40)]),
 ap 72 (.mov (tm 71)),
 aT 73 72 (.faddr 1 (tm 9)),
 aT 74 72 (.load false 1 (tm 73)),
 aT 75 72 (.call (.fn 64) [(tm 74), (zi 0), (zi 10)]),
 ap 76 (.pick (tm 72) (tm 75) (.lit (.bool false))),
 ap 77 (.mov (tm 76)),
 aT 78 77 (.faddr 2 (tm 9)),
 aT 79 77 (.load false 1 (tm 78)),
 aT 80 77 (.faddr 0 (tm 2)),
 aT 81 77 (.load false 1 (tm 80)),
 aT 82 77 (.bin .sub (tm 81) (zi 1)),
 aT 83 77 (.call (.fn 64) [(tm 79), (zi 0), (tm 82)]),
 ap 84 (.pick (tm 77) (tm 83) (.lit (.bool false))),
 ap 85 (.call (.fn 63) [(tm 84), (zi 1)])])))
 (.reg [ap 86 (.bin .add (tm 65) (zi 1)),
 ap 65 (.mov (tm 86))])))))))
 (.seq (.reg [ap 87 (.mov (tm 1)),
 ap 88 (.call (.fn 63) [(tm 87), (zi 2)])])
 (.seq (.reg [ap 89 (.load true 5 (tm 2)),
 ap 90 (.mkmap (some [(some .i64), (some .i64), (some .i64), (some .i64), (some .i64), (some .u64)], none)),
 ap 91 (.build [(.int .i64 0), (.int .i64 0), (.slice none 0 0), (.slice none 0 0), (.slice none 0 0), (.map none)] [(0, 5, (tm 89)), (5, 1, (tm 90))]),
 ap 92 (.box (tm 91)),
 ap 4 (.mov (tm 92))])
 (.ret)))))))
theorem k39 : FnC Tryz.prog 39 93 [] [] [.tmp 4] c39 2 := ⟨Tryz.f39, _, Tryz.func39, rfl, by decide, rfl, by decide, by kernel_rfl, by kernel_rfl⟩
def c64 : AC :=
 .seq (.reg [ap 6 (.mov (.lit (.bool false)))])
 (.seq (.reg [ap 7 (.mov (tm 1)),
 ap 8 (.mov (tm 0)),
 ap 9 (.bin .leq (tm 7) (tm 8)),
 ap 10 (.mov (tm 9)),
 aT 11 10 (.mov (tm 0)),
 aT 12 10 (.mov (tm 2)),
 aT 13 10 (.bin .leq (tm 11) (tm 12)),
 ap 14 (.pick (tm 10) (tm 13) (.lit (.bool false))),
 ap 6 (.mov (tm 14))])
 (.ret))
theorem k64 : FnC Tryz.prog 64 15 [] [] [.tmp 6] c64 3 := ⟨Tryz.f64, _, Tryz.func64, rfl, by decide, rfl, by decide, by kernel_rfl, by kernel_rfl⟩
def c114 : AC :=
 .seq (.reg [ap 6 (.mov (zi 0))])
 (.seq (.reg [ap 7 (.mov (tm 1)),
 ap 8 (.mov (tm 0)),
 ap 9 (.nilck (tm 8)),
 ap 10 (.faddr 0 (tm 9)),
 ap 11 (.faddr 1 (tm 10)),
 ap 12 (.load false 1 (tm 11)),
 ap 13 (.mov (tm 2)),
 ap 14 (.bin .mul (tm 12) (tm 13)),
 ap 15 (.bin .sub (tm 7) (tm 14)),
 ap 16 (.mxmn true (zi 0) [(tm 15)]),
 ap 6 (.mov (tm 16))])
 (.ret))
theorem k114 : FnC Tryz.prog 114 17 [] [] [.tmp 6] c114 3 := ⟨Tryz.f114, _, Tryz.func114, rfl, by decide, rfl, by decide, by kernel_rfl, by kernel_rfl⟩
def c40 : AC :=
 .seq (.reg [ap 2 (.box (tm 0)),
 ap 4 (.mov (.lit (.bool false)))])
 (.seq (.reg [ap 5 (.mov (tm 1)),
 ap 6 (.faddr 4 (tm 2)),
 ap 7 (.load false 1 (tm 6)),
 ap 8 (.len (tm 7)),
 ap 9 (.bin .sub (tm 8) (zi 1)),
 ap 10 (.call (.fn 64) [(tm 5), (zi 0), (tm 9)]),
 ap 4 (.mov (tm 10))])
 (.ret))
theorem k40 : FnC Tryz.prog 40 11 [] [] [.tmp 4] c40 2 := ⟨Tryz.f40, _, Tryz.func40, rfl, by decide, rfl, by decide, by kernel_rfl, by kernel_rfl⟩
def c66 : AC :=
 .seq (.reg [ap 3 (.box (tm 1)),
 ap 4 (.alloc [(.int .u64 0), (.int .u64 0), (.int .u64 0), (.int .u64 0), (.int .u64 0), (.int .u64 0), (.int .u64 0), (.int .u64 0), (.int .u64 0)])])
 (.seq (.reg [ap 7 (.faddr 2 (tm 3)),
 ap 8 (.load false 1 (tm 7)),
 ap 9 (.call (.fn 94) [(tm 8)]),
 ap 10 (.iaddrA 9 1 (tm 4) (zi 0)),
 aU (.store 1 (tm 10) (tm 9))])
 (.seq (.seq (.reg [ap 11 (.mov (tm 0)),
 ap 12 (.nilck (tm 11)),
 ap 13 (.faddr 0 (tm 12)),
 ap 14 (.faddr 2 (tm 13)),
 ap 15 (.load false 1 (tm 14)),
 ap 16 (.len (tm 15)),
 ap 17 (.mov (zi 0))])
 (.block 0 (.loop (.seq (.reg [ap 18 (.bin .lss (tm 17) (tm 16))])
 (.seq (.cond (tm 18) (.skip)
 (.exit 0))
 (.seq (.block 1 (.seq (.reg [ap 19 (.mov (tm 17)),
 ap 5 (.mov (tm 19))])
 (.seq (.reg [ap 6 (.alloc [(.int .u64 0)])])
 (.seq (.draw (.step (ap 20 (.mov (tm 0))) (
 .step (ap 21 (.load true 3 (tm 3))) (
 .step (ap 22 (.mov (tm 5))) (
 .step (ap 23 (.iaddrA 9 1 (tm 4) (tm 22))) (
 .step (ap 24 (.load false 1 (tm 23))) (
 .step (ap 25 (.mov (tm 5))) (
 .step (ap 26 (.mkif 212 (tm 6))) (
 .ev (ap 27 (.call (.fn 67) [(tm 20), (tm 21), (tm 24), (tm 25), (tm 26)])) [ap 23 (.iaddrA 9 1 (tm 4) (tm 22))] (
 .done)
 (.stop))))))))))
 (.reg [ap 28 (.mov (tm 5)),
 ap 29 (.bin .add (tm 28) (zi 1)),
 ap 30 (.faddr 0 (tm 6)),
 ap 31 (.load false 1 (tm 30)),
 ap 32 (.iaddrA 9 1 (tm 4) (tm 29)),
 aU (.store 1 (tm 32) (tm 31))])))))
 (.reg [ap 33 (.bin .add (tm 17) (zi 1)),
 ap 17 (.mov (tm 33))])))))))
 (.seq (.reg [ap 34 (.load true 9 (tm 4)),
 aU (.store 9 (tm 4) (tm 34))])
 (.ret))))
theorem k66 : FnC Tryz.prog 66 35 [4] [] [.cell 4 true 9] c66 2 := ⟨Tryz.f66, _, Tryz.func66, rfl, by decide, rfl, by decide, by kernel_rfl, by kernel_rfl⟩
def c113 : AC :=
 .seq (.reg [ap 2 (.mov (.lit (.bool false)))])
 (.seq (.reg [ap 3 (.mov (tm 0)),
 ap 4 (.bin .and (tm 3) (.lit (.int .u64 1))),
 ap 5 (.bin .eql (tm 4) (.lit (.int .u64 1))),
 ap 2 (.mov (tm 5))])
 (.ret))
theorem k113 : FnC Tryz.prog 113 6 [] [] [.tmp 2] c113 1 := ⟨Tryz.f113, _, Tryz.func113, rfl, by decide, rfl, by decide, by kernel_rfl, by kernel_rfl⟩
def c41 : AC :=
 .seq (.reg [ap 3 (.box (tm 1)),
 ap 4 (.mov (.lit (.slice none 0 0)))])
 (.seq (.reg [ap 8 (.mov (tm 0)),
 ap 9 (.load true 3 (tm 3)),
 ap 10 (.call (.fn 66) [(tm 8), (tm 9)]),
 ap 5 (.alloc [(.int .u64 0), (.int .u64 0), (.int .u64 0), (.int .u64 0), (.int .u64 0), (.int .u64 0), (.int .u64 0), (.int .u64 0), (.int .u64 0)]),
 aU (.store 9 (tm 5) (tm 10))])
 (.seq (.reg [ap 11 (.mov (tm 0)),
 ap 12 (.nilck (tm 11)),
 ap 13 (.faddr 0 (tm 12)),
 ap 14 (.faddr 2 (tm 13)),
 ap 15 (.load false 1 (tm 14)),
 ap 16 (.len (tm 15)),
 ap 17 (.mks 2 2 (.agg #[(.bool false), (.bool false)]) (tm 16) (tm 16)),
 ap 6 (.mov (tm 17))])
 (.seq (.seq (.reg [ap 18 (.mov (tm 6)),
 ap 19 (.len (tm 18)),
 ap 20 (.mov (zi 0))])
 (.block 0 (.loop (.seq (.reg [ap 21 (.bin .lss (tm 20) (tm 19))])
 (.seq (.cond (tm 21) (.skip)
 (.exit 0))
 (.seq (.block 1 (.seq (.reg [ap 22 (.mov (tm 20)),
 ap 7 (.mov (tm 22))])
 (.draw (.step (ap 23 (.mov (tm 0))) (
 .step (ap 24 (.load true 3 (tm 3))) (
 .step (ap 25 (.mov (tm 7))) (
 .step (ap 26 (.iaddrA 9 1 (tm 5) (tm 25))) (
 .step (ap 27 (.load false 1 (tm 26))) (
 .step (ap 28 (.mov (tm 7))) (
 .step (ap 29 (.mov (tm 6))) (
 .step (ap 30 (.mov (tm 7))) (
 .step (ap 31 (.iaddr 2 (tm 29) (tm 30))) (
 .step (ap 32 (.mkif 149 (tm 31))) (
 .ev (ap 33 (.call (.fn 67) [(tm 23), (tm 24), (tm 27), (tm 28), (tm 32)])) [ap 31 (.iaddr 2 (tm 29) (tm 30)), ap 26 (.iaddrA 9 1 (tm 5) (tm 25))] (
 .done)
 (.stop)))))))))))))))
 (.reg [ap 34 (.bin .add (tm 20) (zi 1)),
 ap 20 (.mov (tm 34))])))))))
 (.seq (.reg [ap 35 (.mov (tm 6)),
 ap 4 (.mov (tm 35))])
 (.ret)))))
theorem k41 : FnC Tryz.prog 41 36 [] [] [.tmp 4] c41 2 := ⟨Tryz.f41, _, Tryz.func41, rfl, by decide, rfl, by decide, by kernel_rfl, by kernel_rfl⟩
def c72 : AC :=
 .seq (.reg [ap 3 (.box (tm 1)),
 ap 4 (.mov (zi 0))])
 (.seq (.reg [ap 5 (.mov (tm 0)),
 ap 6 (.load true 3 (tm 3)),
 ap 7 (.call (.fn 41) [(tm 5), (tm 6)]),
 ap 8 (.call (.fn 97) [(tm 7), (.fn 98)]),
 ap 4 (.mov (tm 8))])
 (.ret))
theorem k72 : FnC Tryz.prog 72 9 [] [] [.tmp 4] c72 2 := ⟨Tryz.f72, _, Tryz.func72, rfl, by decide, rfl, by decide, by kernel_rfl, by kernel_rfl⟩
def c63 : AC :=
 .seq (.reg [ap 4 (.mov (tm 0)),
 ap 5 (.un .not (tm 4))])
 (.cond (tm 5) (.reg [ap 6 (.mov (tm 1)),
 ap 7 (.mkif 138 (tm 6)),
 aU (.pan (tm 7))])
 (.skip))
theorem k63 : FnC Tryz.prog 63 8 [] [] [] c63 2 := ⟨Tryz.f63, _, Tryz.func63, rfl, by decide, rfl, by decide, by kernel_rfl, by kernel_rfl⟩
def c65 : AC :=
 .seq (.reg [ap 2 (.box (tm 0)),
 ap 4 (.mov (.lit (.bool false)))])
 (.seq (.reg [ap 5 (.faddr 0 (tm 2)),
 ap 6 (.load false 1 (tm 5)),
 ap 7 (.bin .leq (zi 0) (tm 6)),
 ap 8 (.mov (tm 7)),
 aT 9 8 (.faddr 0 (tm 2)),
 aT 10 8 (.load false 1 (tm 9)),
 aT 11 8 (.faddr 1 (tm 2)),
 aT 12 8 (.load false 1 (tm 11)),
 aT 13 8 (.bin .leq (tm 10) (tm 12)),
 ap 14 (.pick (tm 8) (tm 13) (.lit (.bool false))),
 ap 15 (.mov (tm 14)),
 aT 16 15 (.faddr 1 (tm 2)),
 aT 17 15 (.load false 1 (tm 16)),
 aT 18 15 (.mov (tm 1)),
 aT 19 15 (.bin .leq (tm 17) (tm 18)),
 ap 20 (.pick (tm 15) (tm 19) (.lit (.bool false))),
 ap 21 (.mov (tm 20)),
 aT 22 21 (.faddr 1 (tm 2)),
 aT 23 21 (.load false 1 (tm 22)),
 aT 24 21 (.faddr 0 (tm 2)),
 aT 25 21 (.load false 1 (tm 24)),
 aT 26 21 (.bin .sub (tm 23) (tm 25)),
 aT 27 21 (.bin .leq (tm 26) (zi 3)),
 ap 28 (.pick (tm 21) (tm 27) (.lit (.bool false))),
 ap 4 (.mov (tm 28))])
 (.ret))
theorem k65 : FnC Tryz.prog 65 29 [] [] [.tmp 4] c65 2 := ⟨Tryz.f65, _, Tryz.func65, rfl, by decide, rfl, by decide, by kernel_rfl, by kernel_rfl⟩
def c94 : AC :=
 .seq (.reg [ap 2 (.mov (.lit (.int .u64 0)))])
 (.seq (.reg [ap 3 (.mov (tm 0)),
 ap 4 (.bin .shl (.lit (.int .u64 2)) (tm 3)),
 ap 2 (.mov (tm 4))])
 (.ret))
theorem k94 : FnC Tryz.prog 94 5 [] [] [.tmp 2] c94 1 := ⟨Tryz.f94, _, Tryz.func94, rfl, by decide, rfl, by decide, by kernel_rfl, by kernel_rfl⟩
def c67 : AC :=
 .seq (.reg [ap 5 (.box (tm 0)),
 ap 6 (.box (tm 1)),
 ap 9 (.box (tm 4))])
 (.seq (.reg [ap 10 (.alloc [(.int .u64 0)]),
 aU (.store 1 (tm 10) (.lit (.int .u64 1)))])
 (.block 0 (.loop (.seq (.seq (.reg [ap 13 (.load false 1 (tm 10)),
 ap 14 (.mov (tm 2)),
 ap 15 (.bin .leq (tm 13) (tm 14))])
 (.cond (tm 15) (.skip)
 (.exit 0)))
 (.seq (.block 1 (.seq (.seq (.reg [ap 18 (.load false 1 (tm 10)),
 ap 19 (.mov (tm 2)),
 ap 20 (.bin .and (tm 18) (tm 19)),
 ap 21 (.bin .eql (tm 20) (.lit (.int .u64 0)))])
 (.cond (tm 21) (.exit 1)
 (.skip)))
 (.seq (.reg [ap 22 (.load false 1 (tm 5)),
 ap 23 (.mov (tm 3)),
 ap 24 (.call (.fn 95) [(tm 22), (tm 23)])])
 (.block 2 (.seq (.gcp)
 (.rangeF (tm 24) 25 (.reg [ap 11 (.alloc [(.int .i64 0), (.int .i64 0)]),
 aU (.store 2 (tm 11) (tm 25))])
 (.block 3 (.seq (.reg [ap 26 (.load true 3 (tm 6)),
 ap 27 (.load true 2 (tm 11)),
 ap 28 (.load false 1 (tm 10)),
 ap 29 (.build [(.int .i64 0), (.int .i64 0), (.int .i64 0), (.int .i64 0), (.int .i64 0), (.int .u64 0)] [(0, 3, (tm 26)), (3, 2, (tm 27)), (5, 1, (tm 28))]),
 ap 12 (.alloc [(.int .i64 0), (.int .i64 0), (.int .i64 0), (.int .i64 0), (.int .i64 0), (.int .u64 0)]),
 aU (.store 6 (tm 12) (tm 29))])
 (.draw (.step (ap 30 (.load false 1 (tm 9))) (
 .step (ap 31 (.load true 6 (tm 12))) (
 .step (ap 32 (.load false 1 (tm 5))) (
 .step (ap 33 (.load true 6 (tm 12))) (
 .step (ap 35 (.mkfn (.method "dipworks/surf.see") [(tm 30)] [])) (
 .step (ap 36 (.nilckM [(149, 138), (212, 140)] "dipworks/surf.see" (tm 35))) (
 .step (ap 37 (.mov (tm 30))) (
 .ev (ap 34 (.call (.fn 96) [(tm 32), (tm 33)])) [ap 36 (.nilckM [(149, 138), (212, 140)] "dipworks/surf.see" (tm 35)), ap 31 (.load true 6 (tm 12)), ap 30 (.load false 1 (tm 9))] (
 .ev (ap 38 (.inv [(149, 138), (212, 140)] (tm 37) [(tm 31), (tm 34)])) [ap 36 (.nilckM [(149, 138), (212, 140)] "dipworks/surf.see" (tm 35)), ap 33 (.load true 6 (tm 12)), ap 32 (.load false 1 (tm 5)), ap 30 (.load false 1 (tm 9))] (
 .done)
 (.stop))
 (.stop))))))))))))))))))
 (.seq (.seq (.reg [ap 39 (.load false 1 (tm 10))])
 (.reg [ap 10 (.alloc [(.int .u64 0)]),
 aU (.store 1 (tm 10) (tm 39))]))
 (.reg [ap 16 (.load false 1 (tm 10)),
 ap 17 (.bin .shl (tm 16) (.lit (.int .u64 1))),
 aU (.store 1 (tm 10) (tm 17))])))))))
theorem k67 : FnC Tryz.prog 67 40 [] [1000000] [] c67 5 := ⟨Tryz.f67, _, Tryz.func67, rfl, by decide, rfl, by decide, by kernel_rfl, by kernel_rfl⟩
def c97 : AC :=
 .seq (.reg [ap 4 (.mov (zi 0))])
 (.seq (.seq (.reg [ap 6 (.mov (tm 0)),
 ap 7 (.len (tm 6)),
 ap 8 (.mov (zi 0))])
 (.block 0 (.loop (.seq (.reg [ap 9 (.bin .lss (tm 8) (tm 7))])
 (.seq (.cond (tm 9) (.skip)
 (.exit 0))
 (.seq (.block 1 (.seq (.reg [ap 10 (.mov (tm 8)),
 ap 5 (.mov (tm 10))])
 (.seq (.reg [ap 11 (.mov (tm 1)),
 ap 12 (.mov (tm 0)),
 ap 13 (.mov (tm 5)),
 ap 14 (.iaddr 2 (tm 12) (tm 13)),
 ap 15 (.load true 2 (tm 14)),
 ap 16 (.call (tm 11) [(tm 15)])])
 (.cond (tm 16) (.seq (.reg [ap 17 (.mov (tm 5)),
 ap 4 (.mov (tm 17))])
 (.ret))
 (.skip)))))
 (.reg [ap 18 (.bin .add (tm 8) (zi 1)),
 ap 8 (.mov (tm 18))])))))))
 (.seq (.reg [ap 4 (.mov (.lit (.int .i64 (-1))))])
 (.ret)))
theorem k97 : FnC Tryz.prog 97 19 [] [] [.tmp 4] c97 2 := ⟨Tryz.f97, _, Tryz.func97, rfl, by decide, rfl, by decide, by kernel_rfl, by kernel_rfl⟩
def c98 : AC :=
 .seq (.reg [ap 1 (.box (tm 0)),
 ap 2 (.mov (.lit (.bool false)))])
 (.seq (.reg [ap 3 (.faddr 0 (tm 1)),
 ap 4 (.load false 1 (tm 3)),
 ap 2 (.mov (tm 4))])
 (.ret))
theorem k98 : FnC Tryz.prog 98 5 [] [] [.tmp 2] c98 1 := ⟨Tryz.f98, _, Tryz.func98, rfl, by decide, rfl, by decide, by kernel_rfl, by kernel_rfl⟩
def c95 : AC :=
 .seq (.reg [ap 2 (.box (tm 0)),
 ap 3 (.box (tm 1)),
 ap 4 (.mov (.lit .nilFunc))])
 (.seq (.reg [ap 5 (.mkfn (.func 112) [] [(tm 2), (tm 3)]),
 ap 4 (.mov (tm 5))])
 (.ret))
theorem k95 : FnC Tryz.prog 95 6 [] [] [.tmp 4] c95 2 := ⟨Tryz.f95, _, Tryz.func95, rfl, by decide, rfl, by decide, by kernel_rfl, by kernel_rfl⟩
def c96 : AC :=
 .seq (.reg [ap 3 (.box (tm 1)),
 ap 4 (.mov (.lit (.bool false)))])
 (.seq (.draw (.step (ap 9 (.mov (tm 0))) (
 .step (ap 10 (.nilck (tm 9))) (
 .step (ap 11 (.faddr 5 (tm 10))) (
 .step (ap 12 (.load false 1 (tm 11))) (
 .step (ap 13 (.load true 6 (tm 3))) (
 .step (ap 14 (.look (some [(some .i64), (some .i64), (some .i64), (some .i64), (some .i64), (some .u64)], none) (.bool false) true (tm 12) (tm 13))) (
 .step (ap 8 (.mov (tm 14))) (
 .step (ap 15 (.ext (tm 8) 0)) (
 .step (ap 16 (.ext (tm 8) 1)) (
 .step (ap 5 (.mov (tm 15))) (
 .step (ap 6 (.mov (tm 16))) (
 .done)))))))))))))
 (.seq (.seq (.reg [ap 17 (.mov (tm 6)),
 ap 18 (.un .not (tm 17))])
 (.cond (tm 18) (.seq (.seq (.reg [ap 19 (.faddr 5 (tm 3)),
 ap 20 (.load false 1 (tm 19)),
 ap 21 (.call (.fn 113) [(tm 20)]),
 ap 22 (.un .not (tm 21))])
 (.cond (tm 22) (.seq (.draw (.step (ap 23 (.mov (tm 0))) (
 .step (ap 24 (.faddr 3 (tm 3))) (
 .step (ap 25 (.faddr 0 (tm 24))) (
 .step (ap 26 (.load false 1 (tm 25))) (
 .step (ap 27 (.faddr 5 (tm 3))) (
 .step (ap 28 (.load false 1 (tm 27))) (
 .ev (ap 29 (.call (.fn 115) [(tm 28)])) [ap 27 (.faddr 5 (tm 3)), ap 26 (.load false 1 (tm 25)), ap 25 (.faddr 0 (tm 24)), ap 24 (.faddr 3 (tm 3))] (
 .step (ap 30 (.bin .sub (tm 29) (zi 1))) (
 .ev (ap 31 (.call (.fn 114) [(tm 23), (tm 26), (tm 30)])) [ap 28 (.load false 1 (tm 27)), ap 27 (.faddr 5 (tm 3)), ap 25 (.faddr 0 (tm 24)), ap 24 (.faddr 3 (tm 3))] (
 .step (ap 7 (.mov (tm 31))) (
 .done))
 (.stop)))
 (.stop)))))))))
 (.reg [ap 32 (.mov (tm 7)),
 ap 33 (.bin .gtr (tm 32) (zi 0)),
 ap 34 (.mov (tm 33)),
 aT 35 34 (.mov (tm 7)),
 aT 36 34 (.faddr 3 (tm 3)),
 aT 37 34 (.faddr 1 (tm 36)),
 aT 38 34 (.load false 1 (tm 37)),
 aT 39 34 (.bin .add (tm 35) (tm 38)),
 aT 40 34 (.faddr 0 (tm 3)),
 aT 41 34 (.faddr 0 (tm 40)),
 aT 42 34 (.load false 1 (tm 41)),
 aT 43 34 (.bin .gtr (tm 39) (tm 42)),
 ap 44 (.pick (tm 34) (tm 43) (.lit (.bool false))),
 ap 5 (.mov (tm 44))]))
 (.skip)))
 (.draw (.step (ap 45 (.mov (tm 0))) (
 .step (ap 46 (.nilck (tm 45))) (
 .step (ap 47 (.faddr 5 (tm 46))) (
 .step (ap 48 (.load false 1 (tm 47))) (
 .step (ap 49 (.load true 6 (tm 3))) (
 .step (ap 50 (.mov (tm 5))) (
 .ev (aU (.mput (some [(some .i64), (some .i64), (some .i64), (some .i64), (some .i64), (some .u64)], none) (tm 48) (tm 49) (tm 50))) [] (
 .done)
 (.stop))))))))))
 (.skip)))
 (.seq (.reg [ap 51 (.mov (tm 5)),
 ap 4 (.mov (tm 51))])
 (.ret))))
theorem k96 : FnC Tryz.prog 96 52 [] [] [.tmp 4] c96 2 := ⟨Tryz.f96, _, Tryz.func96, rfl, by decide, rfl, by decide, by kernel_rfl, by kernel_rfl⟩
def c112 : AC :=
 .scope (.seq (.skip)
 (.seq (.draw (.step (ap 6 (.load false 1 (tm 1))) (
 .step (ap 7 (.nilck (tm 6))) (
 .step (ap 8 (.faddr 0 (tm 7))) (
 .step (ap 9 (.faddr 2 (tm 8))) (
 .step (ap 10 (.load false 1 (tm 9))) (
 .step (ap 11 (.load false 1 (tm 2))) (
 .step (ap 12 (.iaddr 2 (tm 10) (tm 11))) (
 .step (ap 13 (.faddr 0 (tm 12))) (
 .step (ap 14 (.load false 1 (tm 13))) (
 .step (ap 4 (.mov (tm 14))) (
 .done))))))))))))
 (.block 0 (.loop (.seq (.seq (.draw (.step (ap 15 (.mov (tm 4))) (
 .step (ap 16 (.load false 1 (tm 1))) (
 .step (ap 17 (.nilck (tm 16))) (
 .step (ap 18 (.faddr 0 (tm 17))) (
 .step (ap 19 (.faddr 2 (tm 18))) (
 .step (ap 20 (.load false 1 (tm 19))) (
 .step (ap 21 (.load false 1 (tm 2))) (
 .step (ap 22 (.iaddr 2 (tm 20) (tm 21))) (
 .step (ap 23 (.faddr 1 (tm 22))) (
 .step (ap 24 (.load false 1 (tm 23))) (
 .step (ap 25 (.bin .leq (tm 15) (tm 24))) (
 .done)))))))))))))
 (.cond (tm 25) (.skip)
 (.exit 0)))
 (.seq (.block 1 (.seq (.draw (.step (ap 28 (.load false 1 (tm 1))) (
 .step (ap 29 (.nilck (tm 28))) (
 .step (ap 30 (.faddr 0 (tm 29))) (
 .step (ap 31 (.faddr 3 (tm 30))) (
 .step (ap 32 (.load false 1 (tm 31))) (
 .step (ap 33 (.load false 1 (tm 2))) (
 .step (ap 34 (.iaddr 2 (tm 32) (tm 33))) (
 .step (ap 35 (.faddr 0 (tm 34))) (
 .step (ap 36 (.load false 1 (tm 35))) (
 .step (ap 5 (.mov (tm 36))) (
 .done))))))))))))
 (.block 2 (.loop (.seq (.seq (.draw (.step (ap 37 (.mov (tm 5))) (
 .step (ap 38 (.load false 1 (tm 1))) (
 .step (ap 39 (.nilck (tm 38))) (
 .step (ap 40 (.faddr 0 (tm 39))) (
 .step (ap 41 (.faddr 3 (tm 40))) (
 .step (ap 42 (.load false 1 (tm 41))) (
 .step (ap 43 (.load false 1 (tm 2))) (
 .step (ap 44 (.iaddr 2 (tm 42) (tm 43))) (
 .step (ap 45 (.faddr 1 (tm 44))) (
 .step (ap 46 (.load false 1 (tm 45))) (
 .step (ap 47 (.bin .leq (tm 37) (tm 46))) (
 .done)))))))))))))
 (.cond (tm 47) (.skip)
 (.exit 2)))
 (.seq (.block 3 (.seq (.reg [ap 50 (.mov (tm 0)),
 ap 51 (.mov (tm 4)),
 ap 52 (.mov (tm 5)),
 ap 53 (.build [(.int .i64 0), (.int .i64 0)] [(0, 1, (tm 51)), (1, 1, (tm 52))]),
 ap 54 (.call (tm 50) [(tm 53)]),
 ap 55 (.un .not (tm 54))])
 (.cond (tm 55) (.exit 0)
 (.skip))))
 (.reg [ap 48 (.mov (tm 5)),
 ap 49 (.bin .add (tm 48) (zi 1)),
 ap 5 (.mov (tm 49))])))))))
 (.reg [ap 26 (.mov (tm 4)),
 ap 27 (.bin .add (tm 26) (zi 1)),
 ap 4 (.mov (tm 27))])))))))
theorem k112 : FnC Tryz.prog 112 56 [] [] [] c112 3 := ⟨Tryz.f112, _, Tryz.func112, rfl, by decide, rfl, by decide, by kernel_rfl, by kernel_rfl⟩
def c115 : AC :=
 .seq (.reg [ap 2 (.mov (zi 0))])
 (.seq (.cond (.lit (.bool false)) (.seq (.reg [ap 3 (.mov (tm 0)),
 ap 4 (.conv .u32 (tm 3)),
 ap 5 (.call (.fn 119) [(tm 4)]),
 ap 2 (.mov (tm 5))])
 (.ret))
 (.skip))
 (.seq (.reg [ap 6 (.mov (tm 0)),
 ap 7 (.call (.fn 58) [(tm 6)]),
 ap 2 (.mov (tm 7))])
 (.ret)))
theorem k115 : FnC Tryz.prog 115 8 [] [] [.tmp 2] c115 1 := ⟨Tryz.f115, _, Tryz.func115, rfl, by decide, rfl, by decide, by kernel_rfl, by kernel_rfl⟩
def c58 : AC :=
 .seq (.reg [ap 2 (.mov (zi 0))])
 (.seq (.seq (.reg [ap 3 (.mov (tm 0)),
 ap 4 (.bin .eql (tm 3) (.lit (.int .u64 0)))])
 (.cond (tm 4) (.seq (.reg [ap 2 (.mov (zi 64))])
 (.ret))
 (.skip)))
 (.seq (.reg [ap 5 (.mov (tm 0)),
 ap 6 (.mov (tm 0)),
 ap 7 (.un .neg (tm 6)),
 ap 8 (.bin .and (tm 5) (tm 7)),
 ap 9 (.bin .mul (tm 8) (.lit (.int .u64 285870213051353865))),
 ap 10 (.bin .shr (tm 9) (.lit (.int .u64 58))),
 ap 11 (.iaddrA 64 1 (.tr (.ptr (tabT tab64) 0)) (tm 10)),
 ap 12 (.load false 1 (tm 11)),
 ap 13 (.conv .i64 (tm 12)),
 ap 2 (.mov (tm 13))])
 (.ret)))
theorem k58 : FnC Tryz.prog 58 14 [] [] [.tmp 2] c58 1 := ⟨Tryz.f58, _, Tryz.func58, rfl, by decide, rfl, by decide, by kernel_rfl, by kernel_rfl⟩
def c140 : AC :=
 .seq (.reg [ap 4 (.box (tm 1))])
 (.seq (.reg [ap 7 (.faddr 5 (tm 4)),
 ap 8 (.load false 1 (tm 7)),
 ap 6 (.mov (tm 8))])
 (.seq (.seq (.reg [ap 9 (.mov (tm 2)),
 ap 10 (.mov (tm 9)),
 aT 11 10 (.faddr 3 (tm 4)),
 aT 12 10 (.faddr 1 (tm 11)),
 aT 13 10 (.load false 1 (tm 12)),
 aT 14 10 (.faddr 0 (tm 4)),
 aT 15 10 (.faddr 1 (tm 14)),
 aT 16 10 (.load false 1 (tm 15)),
 aT 17 10 (.bin .gtr (tm 13) (tm 16)),
 ap 18 (.pick (tm 10) (tm 17) (.lit (.bool false)))])
 (.cond (tm 18) (.reg [ap 19 (.mov (tm 6)),
 ap 20 (.call (.fn 141) [(tm 19)]),
 ap 6 (.mov (tm 20))])
 (.skip)))
 (.reg [ap 21 (.mov (tm 0)),
 ap 22 (.mov (tm 0)),
 ap 23 (.nilck (tm 22)),
 ap 24 (.faddr 0 (tm 23)),
 ap 25 (.load false 1 (tm 24)),
 ap 26 (.mov (tm 6)),
 ap 27 (.bslice 1 (.int .u64 0) 2 [(0, (tm 25)), (1, (tm 26))]),
 ap 28 (.call (.fn 142) [(tm 27)]),
 ap 29 (.nilck (tm 21)),
 ap 30 (.faddr 0 (tm 29)),
 aU (.store 1 (tm 30) (tm 28))])))
theorem k140 : FnC Tryz.prog 140 31 [] [] [] c140 3 := ⟨Tryz.f140, _, Tryz.func140, rfl, by decide, rfl, by decide, by kernel_rfl, by kernel_rfl⟩
def c141 : AC :=
 .seq (.reg [ap 2 (.mov (.lit (.int .u64 0)))])
 (.seq (.reg [ap 3 (.mov (tm 0)),
 ap 4 (.bin .shr (tm 3) (.lit (.int .u64 1))),
 ap 2 (.mov (tm 4))])
 (.ret))
theorem k141 : FnC Tryz.prog 141 5 [] [] [.tmp 2] c141 1 := ⟨Tryz.f141, _, Tryz.func141, rfl, by decide, rfl, by decide, by kernel_rfl, by kernel_rfl⟩
def c142 : AC :=
 .seq (.reg [ap 2 (.mov (.lit (.int .u64 0)))])
 (.seq (.seq (.reg [ap 5 (.mov (tm 0)),
 ap 6 (.len (tm 5)),
 ap 7 (.mov (zi 0))])
 (.block 0 (.loop (.seq (.reg [ap 8 (.bin .lss (tm 7) (tm 6))])
 (.seq (.cond (tm 8) (.skip)
 (.exit 0))
 (.seq (.block 1 (.seq (.reg [ap 9 (.iaddr 1 (tm 5) (tm 7)),
 ap 10 (.load false 1 (tm 9)),
 ap 4 (.mov (tm 10))])
 (.reg [ap 11 (.mov (tm 2)),
 ap 12 (.mov (tm 4)),
 ap 13 (.bin .or (tm 11) (tm 12)),
 ap 2 (.mov (tm 13))])))
 (.reg [ap 14 (.bin .add (tm 7) (zi 1)),
 ap 7 (.mov (tm 14))])))))))
 (.seq (.reg [ap 15 (.mov (tm 2)),
 ap 2 (.mov (tm 15))])
 (.ret)))
theorem k142 : FnC Tryz.prog 142 16 [] [] [.tmp 2] c142 1 := ⟨Tryz.f142, _, Tryz.func142, rfl, by decide, rfl, by decide, by kernel_rfl, by kernel_rfl⟩
def c138 : AC :=
 .seq (.reg [ap 4 (.box (tm 1))])
 (.draw (.step (ap 6 (.mov (tm 0))) (
 .step (ap 7 (.mov (tm 0))) (
 .step (ap 8 (.mov (tm 0))) (
 .step (ap 9 (.nilck (tm 8))) (
 .step (ap 10 (.faddr 0 (tm 9))) (
 .step (ap 11 (.load false 1 (tm 10))) (
 .step (ap 12 (.mov (tm 11))) (
 .step (aF 13 12 (.mov (tm 2))) (
 .step (ap 14 (.pick (tm 12) (.lit (.bool true)) (tm 13))) (
 .step (ap 15 (.mov (tm 0))) (
 .step (ap 16 (.nilck (tm 15))) (
 .step (ap 17 (.faddr 1 (tm 16))) (
 .step (ap 18 (.load false 1 (tm 17))) (
 .step (ap 19 (.mov (tm 18))) (
 .step (aF 20 19 (.mov (tm 2))) (
 .step (aF 21 19 (.un .not (tm 20))) (
 .step (ap 22 (.pick (tm 19) (.lit (.bool true)) (tm 21))) (
 .step (ap 23 (.nilck (tm 6))) (
 .step (ap 24 (.faddr 0 (tm 23))) (
 .ev (aU (.store 1 (tm 24) (tm 14))) [ap 23 (.nilck (tm 6)), ap 17 (.faddr 1 (tm 16)), ap 16 (.nilck (tm 15))] (
 .step (ap 25 (.nilck (tm 7))) (
 .step (ap 26 (.faddr 1 (tm 25))) (
 .ev (aU (.store 1 (tm 26) (tm 22))) [ap 25 (.nilck (tm 7))] (
 .done)
 (.stop))))
 (.stop))))))))))))))))))))))
theorem k138 : FnC Tryz.prog 138 27 [] [] [] c138 3 := ⟨Tryz.f138, _, Tryz.func138, rfl, by decide, rfl, by decide, by kernel_rfl, by kernel_rfl⟩
open Go Go.Ab
def c45 : AC :=
 .seq (.reg [ap 2 (.box (tm 0)),
 ap 3 (.box (tm 1)),
 ap 4 (.mov (.lit (.slice none 0 0))),
 ap 5 (.mov (zi 0)),
 ap 6 (.alloc [(.int .i64 0)])])
 (.seq (.reg [aU (.defer 38 [(tm 6)])])
 (.seq (.draw (.step (ap 18 (.load true 5 (tm 2))) (
 .step (ap 19 (.load false 1 (tm 3))) (
 .ev (ap 20 (.call (.fn 64) [(tm 19), (zi 0), (zi 5)])) [ap 18 (.load true 5 (tm 2))] (
 .ev (ap 21 (.call (.fn 39) [(tm 18), (tm 20)])) [ap 19 (.load false 1 (tm 3))] (
 .step (ap 7 (.mov (tm 21))) (
 .done))
 (.stop))
 (.stop)))))
 (.seq (.reg [ap 8 (.alloc [(.int .i64 0), (.int .i64 0), (.int .i64 0), (.int .i64 0), (.int .i64 0)])])
 (.seq (.reg [ap 9 (.alloc [(.int .i64 0)]),
 aU (.store 1 (tm 9) (zi 0))])
 (.seq (.seq (.reg [ap 22 (.faddr 4 (tm 2)),
 ap 23 (.load false 1 (tm 22)),
 ap 24 (.len (tm 23)),
 ap 25 (.mov (zi 0))])
 (.block 0 (.loop (.seq (.reg [ap 26 (.bin .lss (tm 25) (tm 24))])
 (.seq (.cond (tm 26) (.skip)
 (.exit 0))
 (.seq (.block 1 (.seq (.reg [ap 27 (.mov (tm 25)),
 ap 28 (.iaddr 3 (tm 23) (tm 25)),
 ap 29 (.load true 3 (tm 28)),
 ap 11 (.alloc [(.int .i64 0), (.int .i64 0), (.int .i64 0)]),
 ap 10 (.mov (tm 27)),
 aU (.store 3 (tm 11) (tm 29))])
 (.seq (.reg [ap 30 (.mov (tm 10)),
 ap 31 (.mov (tm 7)),
 ap 32 (.load true 3 (tm 11)),
 ap 33 (.call (.fn 72) [(tm 31), (tm 32)]),
 ap 34 (.iaddrA 5 1 (tm 8) (tm 30)),
 aU (.store 1 (tm 34) (tm 33))])
 (.seq (.reg [ap 35 (.mov (tm 10)),
 ap 36 (.iaddrA 5 1 (tm 8) (tm 35)),
 ap 37 (.load false 1 (tm 36)),
 ap 38 (.bin .geq (tm 37) (zi 0))])
 (.cond (tm 38) (.draw (.step (ap 39 (.load false 1 (tm 9))) (
 .step (ap 40 (.mov (tm 10))) (
 .step (ap 41 (.bin .shl (zi 1) (tm 40))) (
 .step (ap 42 (.bin .or (tm 39) (tm 41))) (
 .ev (aU (.store 1 (tm 9) (tm 42))) [] (
 .done)
 (.stop)))))))
 (.skip))))))
 (.reg [ap 43 (.bin .add (tm 25) (zi 1)),
 ap 25 (.mov (tm 43))])))))))
 (.seq (.reg [ap 44 (.faddr 4 (tm 2)),
 ap 45 (.load false 1 (tm 44)),
 ap 46 (.len (tm 45)),
 ap 47 (.mks 1 8 (.int .i64 0) (tm 46) (tm 46)),
 ap 12 (.alloc [(.slice none 0 0)]),
 aU (.store 1 (tm 12) (tm 47))])
 (.seq (.reg [ap 48 (.build [(.int .i64 0), (.int .i64 0), (.int .i64 0), (.int .i64 0), (.int .i64 0), (.int .i64 0), (.int .i64 0), (.int .i64 0)] []),
 ap 13 (.alloc [(.int .i64 0), (.int .i64 0), (.int .i64 0), (.int .i64 0), (.int .i64 0), (.int .i64 0), (.int .i64 0), (.int .i64 0)]),
 aU (.store 8 (tm 13) (tm 48))])
 (.seq (.reg [ap 14 (.alloc [.nilFunc])])
 (.seq (.reg [ap 49 (.mkfn (.func 73) [] [(tm 12), (tm 9), (tm 14), (tm 8), (tm 13), (tm 3)]),
 aU (.store 1 (tm 14) (tm 49))])
 (.seq (.seq (.reg [ap 50 (.load false 1 (tm 12)),
 ap 51 (.len (tm 50)),
 ap 52 (.bin .add (tm 51) (zi 1)),
 ap 53 (.mov (zi 0))])
 (.block 2 (.loop (.seq (.reg [ap 54 (.bin .lss (tm 53) (tm 52))])
 (.seq (.cond (tm 54) (.skip)
 (.exit 2))
 (.seq (.block 3 (.seq (.reg [ap 55 (.mov (tm 53)),
 ap 15 (.mov (tm 55))])
 (.seq (.reg [ap 56 (.load false 1 (tm 12)),
 ap 57 (.len (tm 56)),
 ap 58 (.bin .shl (zi 1) (tm 57)),
 ap 59 (.mov (zi 0))])
 (.block 4 (.loop (.seq (.reg [ap 60 (.bin .lss (tm 59) (tm 58))])
 (.seq (.cond (tm 60) (.skip)
 (.exit 4))
 (.seq (.block 5 (.seq (.reg [ap 61 (.mov (tm 59)),
 ap 16 (.mov (tm 61))])
 (.seq (.seq (.reg [ap 62 (.mov (tm 16)),
 ap 63 (.conv .u64 (tm 62)),
 ap 64 (.call (.fn 74) [(tm 63)]),
 ap 65 (.mov (tm 15)),
 ap 66 (.bin .neq (tm 64) (tm 65)),
 ap 67 (.mov (tm 66)),
 aF 68 67 (.mov (tm 16)),
 aF 69 67 (.load false 1 (tm 9)),
 aF 70 67 (.bin .andNot (tm 68) (tm 69)),
 aF 71 67 (.bin .neq (tm 70) (zi 0)),
 ap 72 (.pick (tm 67) (.lit (.bool true)) (tm 71)),
 ap 73 (.mov (tm 72)),
 aF 74 73 (.load false 1 (tm 14)),
 aF 75 73 (.mov (tm 16)),
 aF 76 73 (.call (tm 74) [(zi 0), (tm 75)]),
 aF 77 73 (.un .not (tm 76)),
 ap 78 (.pick (tm 73) (.lit (.bool true)) (tm 77))])
 (.cond (tm 78) (.exit 5)
 (.skip)))
 (.seq (.reg [ap 79 (.load false 1 (tm 12)),
 ap 80 (.len (tm 79)),
 ap 81 (.mks 1 8 (.int .i64 0) (tm 80) (tm 80)),
 ap 17 (.mov (tm 81))])
 (.seq (.reg [ap 82 (.mov (tm 17)),
 ap 83 (.load false 1 (tm 12)),
 ap 84 (.cpy 1 (tm 82) (tm 83))])
 (.seq (.reg [ap 85 (.mov (tm 17)),
 ap 86 (.mov (tm 16)),
 ap 4 (.mov (tm 85)),
 ap 5 (.mov (tm 86)),
 aU (.store 1 (tm 6) (zi 0))])
 (.ret)))))))
 (.reg [ap 87 (.bin .add (tm 59) (zi 1)),
 ap 59 (.mov (tm 87))])))))))))
 (.reg [ap 88 (.bin .add (tm 53) (zi 1)),
 ap 53 (.mov (tm 88))])))))))
 (.seq (.reg [ap 4 (.mov (.lit (.slice none 0 0))),
 ap 5 (.mov (zi 0)),
 aU (.store 1 (tm 6) (zi 0))])
 (.ret))))))))))))
theorem k45 : FnC Tryz.prog 45 89 [4, 5, 6] [] [.tmp 4, .tmp 5, .cell 6 false 1] c45 2 := ⟨Tryz.f45, _, Tryz.func45, rfl, by decide, rfl, by decide, by kernel_rfl, by kernel_rfl⟩
def c73 : AC :=
 .seq (.reg [ap 10 (.mov (.lit (.bool false)))])
 (.seq (.seq (.reg [ap 12 (.mov (tm 0)),
 ap 13 (.load false 1 (tm 2)),
 ap 14 (.len (tm 13)),
 ap 15 (.bin .eql (tm 12) (tm 14))])
 (.cond (tm 15) (.seq (.reg [ap 10 (.mov (.lit (.bool true)))])
 (.ret))
 (.skip)))
 (.seq (.seq (.reg [ap 16 (.load false 1 (tm 2)),
 ap 17 (.mov (tm 0)),
 ap 18 (.iaddr 1 (tm 16) (tm 17)),
 aU (.store 1 (tm 18) (.lit (.int .i64 (-1))))])
 (.seq (.reg [ap 19 (.load false 1 (tm 3)),
 ap 20 (.mov (tm 1)),
 ap 21 (.bin .andNot (tm 19) (tm 20)),
 ap 22 (.mov (tm 0)),
 ap 23 (.bin .shr (tm 21) (tm 22)),
 ap 24 (.bin .and (tm 23) (zi 1)),
 ap 25 (.bin .eql (tm 24) (zi 0))])
 (.cond (tm 25) (.seq (.reg [ap 26 (.load false 1 (tm 4)),
 ap 27 (.mov (tm 0)),
 ap 28 (.bin .add (tm 27) (zi 1)),
 ap 29 (.mov (tm 1)),
 ap 30 (.call (tm 26) [(tm 28), (tm 29)]),
 ap 10 (.mov (tm 30))])
 (.ret))
 (.skip))))
 (.seq (.seq (.reg [ap 31 (.mov (tm 0)),
 ap 32 (.iaddrA 5 1 (tm 5) (tm 31)),
 ap 33 (.load false 1 (tm 32)),
 ap 34 (.mov (zi 0))])
 (.block 0 (.loop (.seq (.reg [ap 35 (.bin .lss (tm 34) (tm 33))])
 (.seq (.cond (tm 35) (.skip)
 (.exit 0))
 (.seq (.block 1 (.seq (.reg [ap 36 (.mov (tm 34)),
 ap 11 (.mov (tm 36))])
 (.seq (.seq (.draw (.step (ap 37 (.mov (tm 11))) (
 .step (ap 38 (.iaddrA 8 1 (tm 6) (tm 37))) (
 .step (ap 39 (.load false 1 (tm 38))) (
 .step (ap 40 (.load false 1 (tm 7))) (
 .step (ap 41 (.bin .eql (tm 39) (tm 40))) (
 .done)))))))
 (.cond (tm 41) (.exit 1)
 (.skip)))
 (.seq (.reg [ap 42 (.mov (tm 11)),
 ap 43 (.iaddrA 8 1 (tm 6) (tm 42)),
 ap 44 (.load false 1 (tm 43)),
 ap 45 (.bin .add (tm 44) (zi 1)),
 ap 46 (.iaddrA 8 1 (tm 6) (tm 42)),
 aU (.store 1 (tm 46) (tm 45))])
 (.seq (.reg [ap 47 (.load false 1 (tm 2)),
 ap 48 (.mov (tm 0)),
 ap 49 (.mov (tm 11)),
 ap 50 (.iaddr 1 (tm 47) (tm 48)),
 aU (.store 1 (tm 50) (tm 49))])
 (.seq (.seq (.reg [ap 51 (.load false 1 (tm 4)),
 ap 52 (.mov (tm 0)),
 ap 53 (.bin .add (tm 52) (zi 1)),
 ap 54 (.mov (tm 1)),
 ap 55 (.call (tm 51) [(tm 53), (tm 54)])])
 (.cond (tm 55) (.seq (.reg [ap 10 (.mov (.lit (.bool true)))])
 (.ret))
 (.skip)))
 (.reg [ap 56 (.mov (tm 11)),
 ap 57 (.iaddrA 8 1 (tm 6) (tm 56)),
 ap 58 (.load false 1 (tm 57)),
 ap 59 (.bin .sub (tm 58) (zi 1)),
 ap 60 (.iaddrA 8 1 (tm 6) (tm 56)),
 aU (.store 1 (tm 60) (tm 59))])))))))
 (.reg [ap 61 (.bin .add (tm 34) (zi 1)),
 ap 34 (.mov (tm 61))])))))))
 (.seq (.reg [ap 10 (.mov (.lit (.bool false)))])
 (.ret)))))
theorem k73 : FnC Tryz.prog 73 62 [] [] [.tmp 10] c73 8 := ⟨Tryz.f73, _, Tryz.func73, rfl, by decide, rfl, by decide, by kernel_rfl, by kernel_rfl⟩
def c74 : AC :=
 .seq (.reg [ap 2 (.mov (zi 0))])
 (.seq (.cond (.lit (.bool false)) (.seq (.reg [ap 3 (.mov (tm 0)),
 ap 4 (.conv .u32 (tm 3)),
 ap 5 (.call (.fn 99) [(tm 4)]),
 ap 2 (.mov (tm 5))])
 (.ret))
 (.skip))
 (.seq (.reg [ap 6 (.mov (tm 0)),
 ap 7 (.call (.fn 100) [(tm 6)]),
 ap 2 (.mov (tm 7))])
 (.ret)))
theorem k74 : FnC Tryz.prog 74 8 [] [] [.tmp 2] c74 1 := ⟨Tryz.f74, _, Tryz.func74, rfl, by decide, rfl, by decide, by kernel_rfl, by kernel_rfl⟩
def c100 : AC :=
 .seq (.reg [ap 2 (.mov (zi 0))])
 (.seq (.reg [ap 3 (.mov (tm 0)),
 ap 4 (.bin .shr (tm 3) (.lit (.int .u64 1))),
 ap 5 (.bin .and (tm 4) (.lit (.int .u64 6148914691236517205))),
 ap 6 (.mov (tm 0)),
 ap 7 (.bin .and (tm 6) (.lit (.int .u64 6148914691236517205))),
 ap 8 (.bin .add (tm 5) (tm 7)),
 ap 0 (.mov (tm 8))])
 (.seq (.reg [ap 9 (.mov (tm 0)),
 ap 10 (.bin .shr (tm 9) (.lit (.int .u64 2))),
 ap 11 (.bin .and (tm 10) (.lit (.int .u64 3689348814741910323))),
 ap 12 (.mov (tm 0)),
 ap 13 (.bin .and (tm 12) (.lit (.int .u64 3689348814741910323))),
 ap 14 (.bin .add (tm 11) (tm 13)),
 ap 0 (.mov (tm 14))])
 (.seq (.reg [ap 15 (.mov (tm 0)),
 ap 16 (.bin .shr (tm 15) (.lit (.int .u64 4))),
 ap 17 (.mov (tm 0)),
 ap 18 (.bin .add (tm 16) (tm 17)),
 ap 19 (.bin .and (tm 18) (.lit (.int .u64 1085102592571150095))),
 ap 0 (.mov (tm 19))])
 (.seq (.reg [ap 20 (.mov (tm 0)),
 ap 21 (.mov (tm 0)),
 ap 22 (.bin .shr (tm 21) (.lit (.int .u64 8))),
 ap 23 (.bin .add (tm 20) (tm 22)),
 ap 0 (.mov (tm 23))])
 (.seq (.reg [ap 24 (.mov (tm 0)),
 ap 25 (.mov (tm 0)),
 ap 26 (.bin .shr (tm 25) (.lit (.int .u64 16))),
 ap 27 (.bin .add (tm 24) (tm 26)),
 ap 0 (.mov (tm 27))])
 (.seq (.reg [ap 28 (.mov (tm 0)),
 ap 29 (.mov (tm 0)),
 ap 30 (.bin .shr (tm 29) (.lit (.int .u64 32))),
 ap 31 (.bin .add (tm 28) (tm 30)),
 ap 0 (.mov (tm 31))])
 (.seq (.reg [ap 32 (.mov (tm 0)),
 ap 33 (.conv .i64 (tm 32)),
 ap 34 (.bin .and (tm 33) (zi 127)),
 ap 2 (.mov (tm 34))])
 (.ret))))))))
theorem k100 : FnC Tryz.prog 100 35 [] [] [.tmp 2] c100 1 := ⟨Tryz.f100, _, Tryz.func100, rfl, by decide, rfl, by decide, by kernel_rfl, by kernel_rfl⟩
open Go Go.Ab
def c4 : AC :=
 .seq (.reg [ap 1 (.box (tm 0)),
 ap 2 (.mov (.lit (.bool false)))])
 (.seq (.seq (.reg [ap 6 (.faddr 0 (tm 1)),
 ap 7 (.load false 1 (tm 6)),
 ap 8 (.call (.fn 16) [(tm 7), (zi 1), (zi 6)]),
 ap 9 (.un .not (tm 8)),
 ap 10 (.mov (tm 9)),
 aF 11 10 (.faddr 1 (tm 1)),
 aF 12 10 (.load false 1 (tm 11)),
 aF 13 10 (.call (.fn 16) [(tm 12), (zi 0), (zi 4)]),
 aF 14 10 (.un .not (tm 13)),
 ap 15 (.pick (tm 10) (.lit (.bool true)) (tm 14)),
 ap 16 (.mov (tm 15)),
 aF 17 16 (.faddr 2 (tm 1)),
 aF 18 16 (.load false 1 (tm 17)),
 aF 19 16 (.len (tm 18)),
 aF 20 16 (.bin .gtr (tm 19) (zi 8)),
 ap 21 (.pick (tm 16) (.lit (.bool true)) (tm 20)),
 ap 22 (.mov (tm 21)),
 aF 23 22 (.faddr 3 (tm 1)),
 aF 24 22 (.load false 1 (tm 23)),
 aF 25 22 (.len (tm 24)),
 aF 26 22 (.faddr 2 (tm 1)),
 aF 27 22 (.load false 1 (tm 26)),
 aF 28 22 (.len (tm 27)),
 aF 29 22 (.bin .neq (tm 25) (tm 28)),
 ap 30 (.pick (tm 22) (.lit (.bool true)) (tm 29)),
 ap 31 (.mov (tm 30)),
 aF 32 31 (.faddr 4 (tm 1)),
 aF 33 31 (.load false 1 (tm 32)),
 aF 34 31 (.len (tm 33)),
 aF 35 31 (.bin .gtr (tm 34) (zi 5)),
 ap 36 (.pick (tm 31) (.lit (.bool true)) (tm 35))])
 (.cond (tm 36) (.seq (.reg [ap 2 (.mov (.lit (.bool false)))])
 (.ret))
 (.skip)))
 (.seq (.seq (.reg [ap 3 (.mov (zi 0))])
 (.block 0 (.loop (.seq (.seq (.reg [ap 37 (.mov (tm 3)),
 ap 38 (.faddr 2 (tm 1)),
 ap 39 (.load false 1 (tm 38)),
 ap 40 (.len (tm 39)),
 ap 41 (.bin .lss (tm 37) (tm 40))])
 (.cond (tm 41) (.skip)
 (.exit 0)))
 (.seq (.block 1 (.seq (.reg [ap 44 (.faddr 2 (tm 1)),
 ap 45 (.load false 1 (tm 44)),
 ap 46 (.mov (tm 3)),
 ap 47 (.iaddr 2 (tm 45) (tm 46)),
 ap 48 (.load true 2 (tm 47)),
 ap 49 (.call (.fn 17) [(tm 48), (zi 30)]),
 ap 50 (.un .not (tm 49)),
 ap 51 (.mov (tm 50)),
 aF 52 51 (.faddr 3 (tm 1)),
 aF 53 51 (.load false 1 (tm 52)),
 aF 54 51 (.mov (tm 3)),
 aF 55 51 (.iaddr 2 (tm 53) (tm 54)),
 aF 56 51 (.load true 2 (tm 55)),
 aF 57 51 (.call (.fn 17) [(tm 56), (zi 10)]),
 aF 58 51 (.un .not (tm 57)),
 ap 59 (.pick (tm 51) (.lit (.bool true)) (tm 58))])
 (.cond (tm 59) (.seq (.reg [ap 2 (.mov (.lit (.bool false)))])
 (.ret))
 (.skip))))
 (.reg [ap 42 (.mov (tm 3)),
 ap 43 (.bin .add (tm 42) (zi 1)),
 ap 3 (.mov (tm 43))]))))))
 (.seq (.seq (.reg [ap 4 (.mov (zi 0))])
 (.block 2 (.loop (.seq (.seq (.reg [ap 60 (.mov (tm 4)),
 ap 61 (.faddr 4 (tm 1)),
 ap 62 (.load false 1 (tm 61)),
 ap 63 (.len (tm 62)),
 ap 64 (.bin .lss (tm 60) (tm 63))])
 (.cond (tm 64) (.skip)
 (.exit 2)))
 (.seq (.block 3 (.seq (.reg [ap 67 (.faddr 4 (tm 1)),
 ap 68 (.load false 1 (tm 67)),
 ap 69 (.mov (tm 4)),
 ap 70 (.iaddr 3 (tm 68) (tm 69)),
 ap 71 (.load true 3 (tm 70)),
 ap 5 (.alloc [(.int .i64 0), (.int .i64 0), (.int .i64 0)]),
 aU (.store 3 (tm 5) (tm 71))])
 (.seq (.reg [ap 72 (.faddr 0 (tm 5)),
 ap 73 (.load false 1 (tm 72)),
 ap 74 (.call (.fn 16) [(tm 73), (zi 0), (zi 40)]),
 ap 75 (.un .not (tm 74)),
 ap 76 (.mov (tm 75)),
 aF 77 76 (.faddr 1 (tm 5)),
 aF 78 76 (.load false 1 (tm 77)),
 aF 79 76 (.call (.fn 16) [(tm 78), (zi 0), (zi 10)]),
 aF 80 76 (.un .not (tm 79)),
 ap 81 (.pick (tm 76) (.lit (.bool true)) (tm 80)),
 ap 82 (.mov (tm 81)),
 aF 83 82 (.faddr 2 (tm 5)),
 aF 84 82 (.load false 1 (tm 83)),
 aF 85 82 (.faddr 0 (tm 1)),
 aF 86 82 (.load false 1 (tm 85)),
 aF 87 82 (.bin .sub (tm 86) (zi 1)),
 aF 88 82 (.call (.fn 16) [(tm 84), (zi 0), (tm 87)]),
 aF 89 82 (.un .not (tm 88)),
 ap 90 (.pick (tm 82) (.lit (.bool true)) (tm 89))])
 (.cond (tm 90) (.seq (.reg [ap 2 (.mov (.lit (.bool false)))])
 (.ret))
 (.skip)))))
 (.reg [ap 65 (.mov (tm 4)),
 ap 66 (.bin .add (tm 65) (zi 1)),
 ap 4 (.mov (tm 66))]))))))
 (.seq (.reg [ap 2 (.mov (.lit (.bool true)))])
 (.ret)))))
theorem k4 : FnC Tryz.prog 4 91 [] [] [.tmp 2] c4 1 := ⟨Tryz.f4, _, Tryz.func4, rfl, by decide, rfl, by decide, by kernel_rfl, by kernel_rfl⟩
def c49 : AC :=
 .seq (.reg [ap 4 (.mov (.lit (.bool false)))])
 (.seq (.seq (.reg [ap 6 (.mov (tm 0)),
 ap 7 (.len (tm 6)),
 ap 8 (.mov (tm 1)),
 ap 9 (.len (tm 8)),
 ap 10 (.bin .neq (tm 7) (tm 9))])
 (.cond (tm 10) (.seq (.reg [ap 4 (.mov (.lit (.bool false)))])
 (.ret))
 (.skip)))
 (.seq (.seq (.reg [ap 5 (.mov (zi 0))])
 (.block 0 (.loop (.seq (.seq (.reg [ap 11 (.mov (tm 5)),
 ap 12 (.mov (tm 0)),
 ap 13 (.len (tm 12)),
 ap 14 (.bin .lss (tm 11) (tm 13))])
 (.cond (tm 14) (.skip)
 (.exit 0)))
 (.seq (.block 1 (.seq (.draw (.step (ap 17 (.mov (tm 0))) (
 .step (ap 18 (.mov (tm 5))) (
 .step (ap 19 (.iaddr 1 (tm 17) (tm 18))) (
 .step (ap 20 (.load false 1 (tm 19))) (
 .step (ap 21 (.mov (tm 1))) (
 .step (ap 22 (.mov (tm 5))) (
 .step (ap 23 (.iaddr 1 (tm 21) (tm 22))) (
 .step (ap 24 (.load false 1 (tm 23))) (
 .step (ap 25 (.bin .neq (tm 20) (tm 24))) (
 .done)))))))))))
 (.cond (tm 25) (.seq (.reg [ap 4 (.mov (.lit (.bool false)))])
 (.ret))
 (.skip))))
 (.reg [ap 15 (.mov (tm 5)),
 ap 16 (.bin .add (tm 15) (zi 1)),
 ap 5 (.mov (tm 16))]))))))
 (.seq (.reg [ap 4 (.mov (.lit (.bool true)))])
 (.ret))))
theorem k49 : FnC Tryz.prog 49 26 [] [] [.tmp 4] c49 2 := ⟨Tryz.f49, _, Tryz.func49, rfl, by decide, rfl, by decide, by kernel_rfl, by kernel_rfl⟩
def c42 : AC :=
 .seq (.reg [ap 3 (.box (tm 0)),
 ap 6 (.mov (zi 0))])
 (.seq (.reg [ap 7 (.mov (tm 1)),
 ap 8 (.faddr 1 (tm 3)),
 ap 9 (.load false 1 (tm 8)),
 ap 10 (.mov (tm 2)),
 ap 11 (.bin .mul (tm 9) (tm 10)),
 ap 12 (.bin .sub (tm 7) (tm 11)),
 ap 13 (.mxmn true (zi 0) [(tm 12)]),
 ap 6 (.mov (tm 13))])
 (.ret))
theorem k42 : FnC Tryz.prog 42 14 [] [] [.tmp 6] c42 3 := ⟨Tryz.f42, _, Tryz.func42, rfl, by decide, rfl, by decide, by kernel_rfl, by kernel_rfl⟩
def c16 : AC :=
 .seq (.reg [ap 6 (.mov (.lit (.bool false)))])
 (.seq (.reg [ap 7 (.mov (tm 1)),
 ap 8 (.mov (tm 0)),
 ap 9 (.bin .leq (tm 7) (tm 8)),
 ap 10 (.mov (tm 9)),
 aT 11 10 (.mov (tm 0)),
 aT 12 10 (.mov (tm 2)),
 aT 13 10 (.bin .leq (tm 11) (tm 12)),
 ap 14 (.pick (tm 10) (tm 13) (.lit (.bool false))),
 ap 6 (.mov (tm 14))])
 (.ret))
theorem k16 : FnC Tryz.prog 16 15 [] [] [.tmp 6] c16 3 := ⟨Tryz.f16, _, Tryz.func16, rfl, by decide, rfl, by decide, by kernel_rfl, by kernel_rfl⟩
def c17 : AC :=
 .seq (.reg [ap 2 (.box (tm 0)),
 ap 4 (.mov (.lit (.bool false)))])
 (.seq (.reg [ap 5 (.faddr 0 (tm 2)),
 ap 6 (.load false 1 (tm 5)),
 ap 7 (.bin .leq (zi 0) (tm 6)),
 ap 8 (.mov (tm 7)),
 aT 9 8 (.faddr 0 (tm 2)),
 aT 10 8 (.load false 1 (tm 9)),
 aT 11 8 (.faddr 1 (tm 2)),
 aT 12 8 (.load false 1 (tm 11)),
 aT 13 8 (.bin .leq (tm 10) (tm 12)),
 ap 14 (.pick (tm 8) (tm 13) (.lit (.bool false))),
 ap 15 (.mov (tm 14)),
 aT 16 15 (.faddr 1 (tm 2)),
 aT 17 15 (.load false 1 (tm 16)),
 aT 18 15 (.mov (tm 1)),
 aT 19 15 (.bin .leq (tm 17) (tm 18)),
 ap 20 (.pick (tm 15) (tm 19) (.lit (.bool false))),
 ap 21 (.mov (tm 20)),
 aT 22 21 (.faddr 1 (tm 2)),
 aT 23 21 (.load false 1 (tm 22)),
 aT 24 21 (.faddr 0 (tm 2)),
 aT 25 21 (.load false 1 (tm 24)),
 aT 26 21 (.bin .sub (tm 23) (tm 25)),
 aT 27 21 (.bin .leq (tm 26) (zi 3)),
 ap 28 (.pick (tm 21) (tm 27) (.lit (.bool false))),
 ap 4 (.mov (tm 28))])
 (.ret))
theorem k17 : FnC Tryz.prog 17 29 [] [] [.tmp 4] c17 2 := ⟨Tryz.f17, _, Tryz.func17, rfl, by decide, rfl, by decide, by kernel_rfl, by kernel_rfl⟩
def c43 : AC :=
 .seq (.reg [ap 5 (.box (tm 0)),
 ap 10 (.mov (zi 0))])
 (.seq (.seq (.reg [ap 11 (.load true 5 (tm 5)),
 ap 12 (.mov (tm 1)),
 ap 13 (.mov (tm 2)),
 ap 14 (.mov (tm 3)),
 ap 15 (.mov (tm 4)),
 ap 16 (.call (.fn 14) [(tm 11), (tm 12), (tm 13), (tm 14), (tm 15)]),
 ap 17 (.mov (tm 16)),
 aT 18 17 (.mov (tm 4)),
 aT 19 17 (.faddr 4 (tm 5)),
 aT 20 17 (.load false 1 (tm 19)),
 aT 21 17 (.mov (tm 1)),
 aT 22 17 (.iaddr 3 (tm 20) (tm 21)),
 aT 23 17 (.faddr 1 (tm 22)),
 aT 24 17 (.load false 1 (tm 23)),
 aT 25 17 (.bin .gtr (tm 18) (tm 24)),
 ap 26 (.pick (tm 17) (tm 25) (.lit (.bool false)))])
 (.cond (tm 26) (.seq (.reg [ap 27 (.mov (tm 2)),
 ap 28 (.bin .sub (tm 27) (zi 1)),
 ap 10 (.mov (tm 28))])
 (.ret))
 (.skip)))
 (.seq (.reg [ap 29 (.mov (tm 2)),
 ap 10 (.mov (tm 29))])
 (.ret)))
theorem k43 : FnC Tryz.prog 43 30 [] [] [.tmp 10] c43 5 := ⟨Tryz.f43, _, Tryz.func43, rfl, by decide, rfl, by decide, by kernel_rfl, by kernel_rfl⟩
def c14 : AC :=
 .seq (.reg [ap 5 (.box (tm 0)),
 ap 10 (.mov (.lit (.bool false)))])
 (.seq (.seq (.reg [ap 12 (.mov (tm 2)),
 ap 13 (.bin .lss (tm 12) (zi 0))])
 (.cond (tm 13) (.seq (.reg [ap 10 (.mov (.lit (.bool false)))])
 (.ret))
 (.skip)))
 (.seq (.reg [ap 14 (.load true 5 (tm 5)),
 ap 15 (.mov (tm 3)),
 ap 16 (.mov (tm 2)),
 ap 17 (.call (.fn 42) [(tm 14), (tm 15), (tm 16)]),
 ap 11 (.mov (tm 17))])
 (.seq (.reg [ap 18 (.mov (tm 11)),
 ap 19 (.bin .gtr (tm 18) (zi 0)),
 ap 20 (.mov (tm 19)),
 aT 21 20 (.mov (tm 11)),
 aT 22 20 (.mov (tm 4)),
 aT 23 20 (.bin .add (tm 21) (tm 22)),
 aT 24 20 (.faddr 4 (tm 5)),
 aT 25 20 (.load false 1 (tm 24)),
 aT 26 20 (.mov (tm 1)),
 aT 27 20 (.iaddr 3 (tm 25) (tm 26)),
 aT 28 20 (.faddr 0 (tm 27)),
 aT 29 20 (.load false 1 (tm 28)),
 aT 30 20 (.bin .gtr (tm 23) (tm 29)),
 ap 31 (.pick (tm 20) (tm 30) (.lit (.bool false))),
 ap 10 (.mov (tm 31))])
 (.ret))))
theorem k14 : FnC Tryz.prog 14 32 [] [] [.tmp 10] c14 5 := ⟨Tryz.f14, _, Tryz.func14, rfl, by decide, rfl, by decide, by kernel_rfl, by kernel_rfl⟩
end Go.Proofs.YtbhbbjngndmnmaaGreatDoor.S
namespace Go.Proofs.YtbhbbjngndmnmaaGreatDoor.F
open Go Go.Ab
def c11 : AC :=
 .seq (.reg [ap 1 (.box (tm 0)),
 ap 2 (.mov (zi 0)),
 ap 3 (.mov (zi 0)),
 ap 4 (.alloc [(.int .i64 0)])])
 (.seq (.reg [aU (.defer 27 [(tm 4)])])
 (.seq (.reg [ap 8 (.load true 5 (tm 1)),
 ap 9 (.call (.fn 28) [(tm 8), (.lit (.bool true))]),
 ap 5 (.mov (tm 9))])
 (.seq (.reg [ap 10 (.mov (tm 5)),
 ap 11 (.call (.fn 30) [(tm 10)]),
 ap 12 (.bin .gtr (tm 11) (zi 0)),
 ap 13 (.call (.fn 29) [(tm 12), (zi 10)])])
 (.seq (.reg [ap 15 (.mov (tm 5)),
 ap 16 (.call (.fn 31) [(tm 15)]),
 ap 14 (.mov (tm 16)),
 ap 17 (.ext (tm 14) 0),
 ap 18 (.ext (tm 14) 1),
 ap 6 (.mov (tm 17)),
 ap 7 (.mov (tm 18))])
 (.seq (.reg [ap 19 (.mov (tm 6)),
 ap 20 (.mov (tm 7)),
 ap 2 (.mov (tm 19)),
 ap 3 (.mov (tm 20)),
 aU (.store 1 (tm 4) (zi 0))])
 (.ret))))))
theorem k11 : FnC Tryz.prog 11 21 [2, 3, 4] [] [.tmp 2, .tmp 3, .cell 4 false 1] c11 1 := ⟨Tryz.f11, _, Tryz.func11, rfl, by decide, rfl, by decide, by kernel_rfl, by kernel_rfl⟩
def c27 : AC :=
 .seq (.reg [ap 6 (.mov (tm 2)),
 ap 7 (.nilcmp true (tm 6))])
 (.cond (tm 7) (.seq (.reg [ap 9 (.mov (tm 2)),
 ap 10 (.tass 110 true (tm 9)),
 ap 8 (.mov (tm 10)),
 ap 11 (.ext (tm 8) 0),
 ap 12 (.ext (tm 8) 1),
 ap 3 (.mov (tm 11)),
 ap 4 (.mov (tm 12))])
 (.seq (.seq (.reg [ap 13 (.mov (tm 4)),
 ap 14 (.un .not (tm 13))])
 (.cond (tm 14) (.reg [ap 15 (.mov (tm 2)),
 aU (.pan (tm 15))])
 (.skip)))
 (.reg [ap 16 (.mov (tm 0)),
 ap 17 (.mov (tm 3)),
 ap 18 (.nilck (tm 16)),
 aU (.store 1 (tm 18) (tm 17))])))
 (.skip))
theorem a27 : FnA Tryz.prog 27 19 5 2 c27 1 := ⟨Tryz.f27, _, _, _, _, _, Tryz.func27, rfl, by decide, rfl, by decide, rfl, rfl, rfl, rfl, rfl, rfl, rfl, by decide, by decide, by kernel_rfl⟩
def c28 : AC :=
 .seq (.reg [ap 2 (.box (tm 0)),
 ap 4 (.mov (.lit (.pointer none)))])
 (.seq (.reg [ap 12 (.faddr 0 (tm 2)),
 ap 13 (.load false 1 (tm 12)),
 ap 14 (.bin .leq (zi 1) (tm 13)),
 ap 15 (.mov (tm 14)),
 aT 16 15 (.faddr 0 (tm 2)),
 aT 17 15 (.load false 1 (tm 16)),
 aT 18 15 (.faddr 1 (tm 2)),
 aT 19 15 (.load false 1 (tm 18)),
 aT 20 15 (.bin .leq (tm 17) (tm 19)),
 ap 21 (.pick (tm 15) (tm 20) (.lit (.bool false))),
 ap 22 (.mov (tm 21)),
 aT 23 22 (.faddr 1 (tm 2)),
 aT 24 22 (.load false 1 (tm 23)),
 aT 25 22 (.bin .leq (tm 24) (zi 12)),
 ap 26 (.pick (tm 22) (tm 25) (.lit (.bool false))),
 ap 27 (.mov (tm 26)),
 aT 28 27 (.faddr 2 (tm 2)),
 aT 29 27 (.load false 1 (tm 28)),
 aT 30 27 (.call (.fn 50) [(tm 29), (zi 1), (zi 4)]),
 ap 31 (.pick (tm 27) (tm 30) (.lit (.bool false))),
 ap 32 (.mov (tm 31)),
 aT 33 32 (.faddr 3 (tm 2)),
 aT 34 32 (.load false 1 (tm 33)),
 aT 35 32 (.len (tm 34)),
 aT 36 32 (.bin .leq (tm 35) (zi 9)),
 ap 37 (.pick (tm 32) (tm 36) (.lit (.bool false))),
 ap 38 (.mov (tm 37)),
 aT 39 38 (.faddr 4 (tm 2)),
 aT 40 38 (.load false 1 (tm 39)),
 aT 41 38 (.len (tm 40)),
 aT 42 38 (.bin .leq (tm 41) (zi 8)),
 ap 43 (.pick (tm 38) (tm 42) (.lit (.bool false))),
 ap 44 (.call (.fn 29) [(tm 43), (zi 1)])])
 (.seq (.seq (.reg [ap 45 (.faddr 3 (tm 2)),
 ap 46 (.load false 1 (tm 45)),
 ap 47 (.len (tm 46)),
 ap 48 (.mov (zi 0))])
 (.block 0 (.loop (.seq (.reg [ap 49 (.bin .lss (tm 48) (tm 47))])
 (.seq (.cond (tm 49) (.skip)
 (.exit 0))
 (.seq (.block 1 (.seq (.reg [ap 50 (.iaddr 3 (tm 46) (tm 48)),
 ap 51 (.load true 3 (tm 50)),
 ap 6 (.alloc [(.int .i64 0), (.int .i64 0), (.int .i64 0)]),
 aU (.store 3 (tm 6) (tm 51))])
 (.reg [ap 52 (.faddr 0 (tm 6)),
 ap 53 (.faddr 0 (tm 52)),
 ap 54 (.load false 1 (tm 53)),
 ap 55 (.bin .leq (zi 0) (tm 54)),
 ap 56 (.mov (tm 55)),
 aT 57 56 (.faddr 0 (tm 6)),
 aT 58 56 (.faddr 0 (tm 57)),
 aT 59 56 (.load false 1 (tm 58)),
 aT 60 56 (.faddr 0 (tm 6)),
 aT 61 56 (.faddr 1 (tm 60)),
 aT 62 56 (.load false 1 (tm 61)),
 aT 63 56 (.bin .leq (tm 59) (tm 62)),
 ap 64 (.pick (tm 56) (tm 63) (.lit (.bool false))),
 ap 65 (.mov (tm 64)),
 aT 66 65 (.faddr 0 (tm 6)),
 aT 67 65 (.faddr 1 (tm 66)),
 aT 68 65 (.load false 1 (tm 67)),
 aT 69 65 (.bin .leq (tm 68) (zi 12)),
 ap 70 (.pick (tm 65) (tm 69) (.lit (.bool false))),
 ap 71 (.mov (tm 70)),
 aT 72 71 (.faddr 2 (tm 6)),
 aT 73 71 (.load false 1 (tm 72)),
 aT 74 71 (.call (.fn 50) [(tm 73), (zi 0), (zi 2)]),
 ap 75 (.pick (tm 71) (tm 74) (.lit (.bool false))),
 ap 76 (.call (.fn 29) [(tm 75), (zi 1)])])))
 (.reg [ap 77 (.bin .add (tm 48) (zi 1)),
 ap 48 (.mov (tm 77))])))))))
 (.seq (.seq (.reg [ap 78 (.faddr 4 (tm 2)),
 ap 79 (.load false 1 (tm 78)),
 ap 80 (.len (tm 79)),
 ap 81 (.mov (zi 0))])
 (.block 2 (.loop (.seq (.reg [ap 82 (.bin .lss (tm 81) (tm 80))])
 (.seq (.cond (tm 82) (.skip)
 (.exit 2))
 (.seq (.block 3 (.seq (.reg [ap 83 (.iaddr 2 (tm 79) (tm 81)),
 ap 84 (.load true 2 (tm 83)),
 ap 8 (.alloc [(.int .i64 0), (.bool false)]),
 aU (.store 2 (tm 8) (tm 84))])
 (.reg [ap 85 (.faddr 0 (tm 8)),
 ap 86 (.load false 1 (tm 85)),
 ap 87 (.faddr 3 (tm 2)),
 ap 88 (.load false 1 (tm 87)),
 ap 89 (.len (tm 88)),
 ap 90 (.bin .sub (tm 89) (zi 1)),
 ap 91 (.call (.fn 50) [(tm 86), (zi 0), (tm 90)]),
 ap 92 (.call (.fn 29) [(tm 91), (zi 1)])])))
 (.reg [ap 93 (.bin .add (tm 81) (zi 1)),
 ap 81 (.mov (tm 93))])))))))
 (.seq (.reg [ap 94 (.mov (tm 1)),
 ap 95 (.call (.fn 29) [(tm 94), (zi 2)])])
 (.seq (.reg [ap 96 (.load true 5 (tm 2)),
 ap 97 (.build [(.int .i64 0), (.int .i64 0), (.int .i64 0), (.slice none 0 0), (.slice none 0 0), (.int .i64 0), (.int .i64 0), (.int .i64 0), (.int .i64 0), (.int .i64 0), (.int .i64 0), (.int .i64 0), (.int .i64 0), (.int .i64 0), (.bool false), (.bool false), (.bool false), (.bool false), (.bool false), (.bool false), (.bool false), (.bool false), (.bool false), (.bool false), (.bool false), (.bool false), (.bool false), (.bool false), (.bool false), (.bool false), (.bool false), (.bool false)] [(0, 5, (tm 96))]),
 ap 98 (.box (tm 97)),
 ap 9 (.mov (tm 98))])
 (.seq (.seq (.reg [ap 99 (.faddr 3 (tm 2)),
 ap 100 (.load false 1 (tm 99)),
 ap 101 (.len (tm 100)),
 ap 102 (.mov (zi 0))])
 (.block 4 (.loop (.seq (.reg [ap 103 (.bin .lss (tm 102) (tm 101))])
 (.seq (.cond (tm 103) (.skip)
 (.exit 4))
 (.seq (.block 5 (.seq (.reg [ap 104 (.mov (tm 102)),
 ap 105 (.iaddr 3 (tm 100) (tm 102)),
 ap 106 (.load true 3 (tm 105)),
 ap 11 (.alloc [(.int .i64 0), (.int .i64 0), (.int .i64 0)]),
 ap 10 (.mov (tm 104)),
 aU (.store 3 (tm 11) (tm 106))])
 (.draw (.step (ap 107 (.mov (tm 9))) (
 .step (ap 108 (.mov (tm 10))) (
 .step (ap 109 (.mov (tm 9))) (
 .step (ap 110 (.mov (tm 10))) (
 .step (ap 111 (.mov (tm 9))) (
 .step (ap 112 (.mov (tm 10))) (
 .step (ap 113 (.load true 5 (tm 2))) (
 .step (ap 114 (.load true 3 (tm 11))) (
 .step (ap 116 (.nilck (tm 107))) (
 .step (ap 117 (.faddr 5 (tm 116))) (
 .step (ap 118 (.faddr 0 (tm 117))) (
 .step (ap 120 (.nilck (tm 109))) (
 .step (ap 121 (.faddr 5 (tm 120))) (
 .step (ap 122 (.faddr 9 (tm 121))) (
 .step (ap 124 (.nilck (tm 111))) (
 .step (ap 125 (.faddr 5 (tm 124))) (
 .step (ap 126 (.faddr 18 (tm 125))) (
 .ev (ap 115 (.call (.fn 51) [(tm 113), (tm 114)])) [ap 126 (.faddr 18 (tm 125)), ap 125 (.faddr 5 (tm 124)), ap 124 (.nilck (tm 111)), ap 122 (.faddr 9 (tm 121)), ap 121 (.faddr 5 (tm 120)), ap 120 (.nilck (tm 109)), ap 118 (.faddr 0 (tm 117)), ap 117 (.faddr 5 (tm 116)), ap 116 (.nilck (tm 107))] (
 .step (ap 119 (.iaddrA 9 1 (tm 118) (tm 108))) (
 .ev (aU (.store 1 (tm 119) (tm 115))) [ap 126 (.faddr 18 (tm 125)), ap 125 (.faddr 5 (tm 124)), ap 124 (.nilck (tm 111)), ap 122 (.faddr 9 (tm 121)), ap 121 (.faddr 5 (tm 120)), ap 120 (.nilck (tm 109)), ap 118 (.faddr 0 (tm 117)), ap 117 (.faddr 5 (tm 116)), ap 116 (.nilck (tm 107))] (
 .step (ap 123 (.iaddrA 9 1 (tm 122) (tm 110))) (
 .ev (aU (.store 1 (tm 123) (.lit (.bool true)))) [ap 126 (.faddr 18 (tm 125)), ap 125 (.faddr 5 (tm 124)), ap 124 (.nilck (tm 111)), ap 122 (.faddr 9 (tm 121)), ap 121 (.faddr 5 (tm 120)), ap 120 (.nilck (tm 109))] (
 .step (ap 127 (.iaddrA 9 1 (tm 126) (tm 112))) (
 .ev (aU (.store 1 (tm 127) (.lit (.bool true)))) [ap 126 (.faddr 18 (tm 125)), ap 125 (.faddr 5 (tm 124)), ap 124 (.nilck (tm 111))] (
 .done)
 (.stop)))
 (.stop)))
 (.stop)))
 (.stop))))))))))))))))))))))
 (.reg [ap 128 (.bin .add (tm 102) (zi 1)),
 ap 102 (.mov (tm 128))])))))))
 (.seq (.reg [ap 129 (.mov (tm 9)),
 ap 130 (.faddr 4 (tm 2)),
 ap 131 (.load false 1 (tm 130)),
 ap 132 (.call (.fn 52) [(tm 129), (tm 131)])])
 (.seq (.reg [ap 133 (.mov (tm 9)),
 ap 4 (.mov (tm 133))])
 (.ret)))))))))
theorem k28 : FnC Tryz.prog 28 134 [] [] [.tmp 4] c28 2 := ⟨Tryz.f28, _, Tryz.func28, rfl, by decide, rfl, by decide, by kernel_rfl, by kernel_rfl⟩
def c50 : AC :=
 .seq (.reg [ap 6 (.mov (.lit (.bool false)))])
 (.seq (.reg [ap 7 (.mov (tm 1)),
 ap 8 (.mov (tm 0)),
 ap 9 (.bin .leq (tm 7) (tm 8)),
 ap 10 (.mov (tm 9)),
 aT 11 10 (.mov (tm 0)),
 aT 12 10 (.mov (tm 2)),
 aT 13 10 (.bin .leq (tm 11) (tm 12)),
 ap 14 (.pick (tm 10) (tm 13) (.lit (.bool false))),
 ap 6 (.mov (tm 14))])
 (.ret))
theorem k50 : FnC Tryz.prog 50 15 [] [] [.tmp 6] c50 3 := ⟨Tryz.f50, _, Tryz.func50, rfl, by decide, rfl, by decide, by kernel_rfl, by kernel_rfl⟩
def c29 : AC :=
 .seq (.reg [ap 4 (.mov (tm 0)),
 ap 5 (.un .not (tm 4))])
 (.cond (tm 5) (.reg [ap 6 (.mov (tm 1)),
 ap 7 (.mkif 110 (tm 6)),
 aU (.pan (tm 7))])
 (.skip))
theorem k29 : FnC Tryz.prog 29 8 [] [] [] c29 2 := ⟨Tryz.f29, _, Tryz.func29, rfl, by decide, rfl, by decide, by kernel_rfl, by kernel_rfl⟩
def c30 : AC :=
 .seq (.reg [ap 2 (.mov (zi 0))])
 (.seq (.reg [ap 3 (.mov (tm 0)),
 ap 4 (.build [(.int .i64 0), (.int .i64 0)] [(0, 1, (.lit (.int .i64 (-1)))), (1, 1, (zi 0))]),
 ap 5 (.mkif 123 (tm 4)),
 ap 6 (.call (.fn 53) [(tm 3), (tm 5)]),
 ap 2 (.mov (tm 6))])
 (.ret))
theorem k30 : FnC Tryz.prog 30 7 [] [] [.tmp 2] c30 1 := ⟨Tryz.f30, _, Tryz.func30, rfl, by decide, rfl, by decide, by kernel_rfl, by kernel_rfl⟩
def c31 : AC :=
 .seq (.reg [ap 2 (.mov (zi 0)),
 ap 3 (.mov (zi 0))])
 (.seq (.seq (.reg [ap 6 (.mov (tm 0)),
 ap 7 (.nilck (tm 6)),
 ap 8 (.faddr 0 (tm 7)),
 ap 9 (.faddr 3 (tm 8)),
 ap 10 (.load false 1 (tm 9)),
 ap 11 (.len (tm 10)),
 ap 12 (.mov (zi 0))])
 (.block 0 (.loop (.seq (.reg [ap 13 (.bin .lss (tm 12) (tm 11))])
 (.seq (.cond (tm 13) (.skip)
 (.exit 0))
 (.seq (.block 1 (.seq (.reg [ap 14 (.mov (tm 12)),
 ap 4 (.mov (tm 14))])
 (.seq (.reg [ap 15 (.mov (tm 0)),
 ap 16 (.mov (tm 4)),
 ap 17 (.mov (tm 4)),
 ap 18 (.bin .add (tm 17) (zi 1)),
 ap 19 (.build [(.int .i64 0), (.int .i64 0)] [(0, 1, (tm 16)), (1, 1, (tm 18))]),
 ap 20 (.mkif 126 (tm 19)),
 ap 21 (.call (.fn 54) [(tm 15), (tm 20)]),
 ap 5 (.alloc [(.int .i64 0), (.int .i64 0)]),
 aU (.store 2 (tm 5) (tm 21))])
 (.seq (.reg [ap 22 (.mov (tm 2)),
 ap 23 (.faddr 0 (tm 5)),
 ap 24 (.load false 1 (tm 23)),
 ap 25 (.mov (tm 4)),
 ap 26 (.bin .shl (tm 24) (tm 25)),
 ap 27 (.bin .or (tm 22) (tm 26)),
 ap 2 (.mov (tm 27))])
 (.reg [ap 28 (.mov (tm 3)),
 ap 29 (.faddr 1 (tm 5)),
 ap 30 (.load false 1 (tm 29)),
 ap 31 (.mov (tm 4)),
 ap 32 (.bin .shl (tm 30) (tm 31)),
 ap 33 (.bin .or (tm 28) (tm 32)),
 ap 3 (.mov (tm 33))])))))
 (.reg [ap 34 (.bin .add (tm 12) (zi 1)),
 ap 12 (.mov (tm 34))])))))))
 (.seq (.reg [ap 35 (.mov (tm 2)),
 ap 36 (.mov (tm 3)),
 ap 2 (.mov (tm 35)),
 ap 3 (.mov (tm 36))])
 (.ret)))
theorem k31 : FnC Tryz.prog 31 37 [] [] [.tmp 2, .tmp 3] c31 1 := ⟨Tryz.f31, _, Tryz.func31, rfl, by decide, rfl, by decide, by kernel_rfl, by kernel_rfl⟩
def c54 : AC :=
 .seq (.reg [ap 3 (.box (tm 1)),
 ap 4 (.alloc [(.int .i64 0), (.int .i64 0)])])
 (.seq (.reg [ap 8 (.mov (tm 0)),
 ap 9 (.build [(.int .i64 0), (.int .i64 0)] []),
 ap 10 (.mkfn (.func 88) [] [(tm 3)]),
 ap 11 (.build [(.int .i64 0), (.int .i64 0), .nilFunc, .nilFunc] [(0, 2, (tm 9)), (2, 1, (tm 10)), (3, 1, (.fn 89))]),
 ap 12 (.call (.fn 87) [(tm 8), (tm 11)]),
 ap 7 (.mov (tm 12)),
 ap 13 (.ext (tm 7) 0),
 ap 14 (.ext (tm 7) 1),
 ap 5 (.alloc [(.int .i64 0), (.int .i64 0)]),
 aU (.store 2 (tm 5) (tm 13)),
 ap 6 (.mov (tm 14))])
 (.seq (.reg [ap 15 (.mov (tm 6)),
 ap 16 (.call (.fn 29) [(tm 15), (zi 10)])])
 (.seq (.reg [ap 17 (.load true 2 (tm 5)),
 aU (.store 2 (tm 4) (tm 17))])
 (.ret))))
theorem k54 : FnC Tryz.prog 54 18 [4] [] [.cell 4 true 2] c54 2 := ⟨Tryz.f54, _, Tryz.func54, rfl, by decide, rfl, by decide, by kernel_rfl, by kernel_rfl⟩
def c90 : AC :=
 .seq (.reg [ap 2 (.mov (zi 0))])
 (.seq (.seq (.reg [ap 5 (.mov (tm 0)),
 ap 6 (.len (tm 5)),
 ap 7 (.mov (zi 0))])
 (.block 0 (.loop (.seq (.reg [ap 8 (.bin .lss (tm 7) (tm 6))])
 (.seq (.cond (tm 8) (.skip)
 (.exit 0))
 (.seq (.block 1 (.seq (.reg [ap 9 (.mov (tm 7)),
 ap 10 (.iaddr 1 (tm 5) (tm 7)),
 ap 11 (.load false 1 (tm 10)),
 ap 3 (.mov (tm 9)),
 ap 4 (.mov (tm 11))])
 (.seq (.reg [ap 12 (.mov (tm 3)),
 ap 13 (.bin .eql (tm 12) (zi 0)),
 ap 14 (.mov (tm 13)),
 aF 15 14 (.mov (tm 4)),
 aF 16 14 (.mov (tm 2)),
 aF 17 14 (.bin .gtr (tm 15) (tm 16)),
 ap 18 (.pick (tm 14) (.lit (.bool true)) (tm 17))])
 (.cond (tm 18) (.reg [ap 19 (.mov (tm 4)),
 ap 2 (.mov (tm 19))])
 (.skip)))))
 (.reg [ap 20 (.bin .add (tm 7) (zi 1)),
 ap 7 (.mov (tm 20))])))))))
 (.seq (.reg [ap 21 (.mov (tm 2)),
 ap 2 (.mov (tm 21))])
 (.ret)))
theorem k90 : FnC Tryz.prog 90 22 [] [] [.tmp 2] c90 1 := ⟨Tryz.f90, _, Tryz.func90, rfl, by decide, rfl, by decide, by kernel_rfl, by kernel_rfl⟩
def c53 : AC :=
 .seq (.reg [ap 3 (.box (tm 1)),
 ap 4 (.mov (zi 0))])
 (.seq (.reg [ap 8 (.mov (tm 0)),
 ap 9 (.mkfn (.func 85) [] [(tm 3)]),
 ap 10 (.build [(.int .i64 0), .nilFunc, .nilFunc] [(0, 1, (zi 1)), (1, 1, (tm 9)), (2, 1, (.fn 86))]),
 ap 11 (.call (.fn 84) [(tm 8), (tm 10)]),
 ap 7 (.mov (tm 11)),
 ap 12 (.ext (tm 7) 0),
 ap 13 (.ext (tm 7) 1),
 ap 5 (.mov (tm 12)),
 ap 6 (.mov (tm 13))])
 (.seq (.reg [ap 14 (.mov (tm 5)),
 ap 4 (.mov (tm 14))])
 (.ret)))
theorem k53 : FnC Tryz.prog 53 15 [] [] [.tmp 4] c53 2 := ⟨Tryz.f53, _, Tryz.func53, rfl, by decide, rfl, by decide, by kernel_rfl, by kernel_rfl⟩
def c51 : AC :=
 .seq (.reg [ap 2 (.box (tm 0)),
 ap 3 (.box (tm 1)),
 ap 4 (.mov (zi 0))])
 (.seq (.seq (.reg [ap 6 (.faddr 0 (tm 3)),
 ap 7 (.faddr 0 (tm 6)),
 ap 8 (.load false 1 (tm 7)),
 ap 5 (.mov (tm 8))])
 (.block 0 (.loop (.seq (.seq (.reg [ap 9 (.mov (tm 5)),
 ap 10 (.faddr 0 (tm 3)),
 ap 11 (.faddr 1 (tm 10)),
 ap 12 (.load false 1 (tm 11)),
 ap 13 (.bin .leq (tm 9) (tm 12)),
 ap 14 (.mov (tm 13)),
 aT 15 14 (.faddr 2 (tm 3)),
 aT 16 14 (.load false 1 (tm 15)),
 aT 17 14 (.bin .neq (tm 16) (zi 2)),
 ap 18 (.pick (tm 14) (tm 17) (.lit (.bool false)))])
 (.cond (tm 18) (.skip)
 (.exit 0)))
 (.seq (.block 1 (.block 2 (.seq (.reg [ap 24 (.mov (tm 5)),
 ap 25 (.faddr 1 (tm 2)),
 ap 26 (.load false 1 (tm 25)),
 ap 27 (.bin .geq (tm 24) (tm 26)),
 ap 23 (.mov (tm 27))])
 (.cond (tm 23) (.reg [ap 28 (.mov (tm 4)),
 ap 29 (.bin .or (tm 28) (zi 4)),
 ap 4 (.mov (tm 29))])
 (.seq (.reg [ap 31 (.mov (tm 5)),
 ap 32 (.faddr 0 (tm 2)),
 ap 33 (.load false 1 (tm 32)),
 ap 34 (.bin .lss (tm 31) (tm 33)),
 ap 30 (.mov (tm 34))])
 (.cond (tm 30) (.reg [ap 35 (.mov (tm 4)),
 ap 36 (.bin .or (tm 35) (zi 1)),
 ap 4 (.mov (tm 36))])
 (.reg [ap 21 (.mov (tm 4)),
 ap 22 (.bin .or (tm 21) (zi 2)),
 ap 4 (.mov (tm 22))])))))))
 (.reg [ap 19 (.mov (tm 5)),
 ap 20 (.bin .add (tm 19) (zi 1)),
 ap 5 (.mov (tm 20))]))))))
 (.seq (.seq (.reg [ap 37 (.faddr 2 (tm 3)),
 ap 38 (.load false 1 (tm 37)),
 ap 39 (.bin .neq (tm 38) (zi 0))])
 (.cond (tm 39) (.reg [ap 40 (.mov (tm 4)),
 ap 41 (.bin .or (tm 40) (zi 4)),
 ap 4 (.mov (tm 41))])
 (.skip)))
 (.seq (.reg [ap 42 (.mov (tm 4)),
 ap 4 (.mov (tm 42))])
 (.ret))))
theorem k51 : FnC Tryz.prog 51 43 [] [] [.tmp 4] c51 2 := ⟨Tryz.f51, _, Tryz.func51, rfl, by decide, rfl, by decide, by kernel_rfl, by kernel_rfl⟩
def c52 : AC :=
 .seq (.reg [ap 6 (.mov (tm 1)),
 ap 7 (.len (tm 6)),
 ap 8 (.mov (zi 0))])
 (.block 0 (.loop (.seq (.reg [ap 9 (.bin .lss (tm 8) (tm 7))])
 (.seq (.cond (tm 9) (.skip)
 (.exit 0))
 (.seq (.block 1 (.seq (.reg [ap 10 (.iaddr 2 (tm 6) (tm 8)),
 ap 11 (.load true 2 (tm 10)),
 ap 5 (.alloc [(.int .i64 0), (.bool false)]),
 aU (.store 2 (tm 5) (tm 11))])
 (.seq (.reg [ap 12 (.faddr 1 (tm 5)),
 ap 13 (.load false 1 (tm 12))])
 (.cond (tm 13) (.draw (.step (ap 14 (.mov (tm 0))) (
 .step (ap 15 (.faddr 0 (tm 5))) (
 .step (ap 16 (.load false 1 (tm 15))) (
 .step (ap 17 (.nilck (tm 14))) (
 .step (ap 18 (.faddr 5 (tm 17))) (
 .step (ap 19 (.faddr 18 (tm 18))) (
 .step (ap 20 (.iaddrA 9 1 (tm 19) (tm 16))) (
 .ev (aU (.store 1 (tm 20) (.lit (.bool false)))) [ap 19 (.faddr 18 (tm 18)), ap 18 (.faddr 5 (tm 17)), ap 17 (.nilck (tm 14))] (
 .done)
 (.stop))))))))))
 (.draw (.step (ap 21 (.mov (tm 0))) (
 .step (ap 22 (.faddr 0 (tm 5))) (
 .step (ap 23 (.load false 1 (tm 22))) (
 .step (ap 24 (.nilck (tm 21))) (
 .step (ap 25 (.faddr 5 (tm 24))) (
 .step (ap 26 (.faddr 9 (tm 25))) (
 .step (ap 27 (.iaddrA 9 1 (tm 26) (tm 23))) (
 .ev (aU (.store 1 (tm 27) (.lit (.bool false)))) [ap 26 (.faddr 9 (tm 25)), ap 25 (.faddr 5 (tm 24)), ap 24 (.nilck (tm 21))] (
 .done)
 (.stop))))))))))))))
 (.reg [ap 28 (.bin .add (tm 8) (zi 1)),
 ap 8 (.mov (tm 28))]))))))
theorem k52 : FnC Tryz.prog 52 29 [] [] [] c52 2 := ⟨Tryz.f52, _, Tryz.func52, rfl, by decide, rfl, by decide, by kernel_rfl, by kernel_rfl⟩
def c87 : AC :=
 .seq (.reg [ap 2 (.box (tm 0)),
 ap 3 (.box (tm 1)),
 ap 4 (.alloc [(.int .i64 0), (.int .i64 0)]),
 ap 5 (.mov (.lit (.bool false)))])
 (.seq (.reg [ap 9 (.mkmap (some [none, (some .i64), (some .i64)], none)),
 ap 6 (.alloc [(.map none)]),
 aU (.store 1 (tm 6) (tm 9))])
 (.seq (.reg [ap 7 (.alloc [.nilFunc])])
 (.seq (.reg [ap 10 (.mkfn (.func 110) [] [(tm 2), (tm 3), (tm 6), (tm 7)]),
 aU (.store 1 (tm 7) (tm 10))])
 (.seq (.reg [ap 11 (.load false 1 (tm 7)),
 ap 12 (.build [(.bool false), (.int .i64 0), (.int .i64 0)] []),
 ap 13 (.call (tm 11) [(tm 12)]),
 ap 8 (.alloc [(.int .i64 0), (.int .i64 0), (.bool false)]),
 aU (.store 3 (tm 8) (tm 13))])
 (.seq (.draw (.step (ap 14 (.faddr 0 (tm 8))) (
 .step (ap 15 (.load true 2 (tm 14))) (
 .step (ap 16 (.faddr 2 (tm 8))) (
 .step (ap 17 (.load false 1 (tm 16))) (
 .ev (aU (.store 2 (tm 4) (tm 15))) [ap 17 (.load false 1 (tm 16)), ap 16 (.faddr 2 (tm 8))] (
 .step (ap 5 (.mov (tm 17))) (
 .done))
 (.stop)))))))
 (.ret))))))
theorem k87 : FnC Tryz.prog 87 18 [4] [] [.cell 4 true 2, .tmp 5] c87 2 := ⟨Tryz.f87, _, Tryz.func87, rfl, by decide, rfl, by decide, by kernel_rfl, by kernel_rfl⟩
def c88 : AC :=
 .seq (.reg [ap 4 (.box (tm 0)),
 ap 6 (.box (tm 2)),
 ap 7 (.alloc [(.int .i64 0), (.int .i64 0)])])
 (.seq (.reg [ap 9 (.load false 1 (tm 3)),
 ap 10 (.load true 4 (tm 4)),
 ap 11 (.mov (tm 1)),
 ap 12 (.inv [(123, 136), (126, 137)] (tm 9) [(tm 10), (tm 11)]),
 ap 8 (.mov (tm 12))])
 (.seq (.reg [ap 13 (.faddr 0 (tm 6)),
 ap 14 (.load false 1 (tm 13)),
 ap 15 (.mov (tm 8)),
 ap 16 (.bin .add (tm 14) (tm 15)),
 ap 17 (.faddr 1 (tm 6)),
 ap 18 (.load false 1 (tm 17)),
 ap 19 (.mov (tm 8)),
 ap 20 (.bin .add (tm 18) (tm 19)),
 ap 21 (.build [(.int .i64 0), (.int .i64 0)] [(0, 1, (tm 16)), (1, 1, (tm 20))]),
 aU (.store 2 (tm 7) (tm 21))])
 (.ret)))
theorem k88 : FnC Tryz.prog 88 22 [7] [] [.cell 7 true 2] c88 4 := ⟨Tryz.f88, _, Tryz.func88, rfl, by decide, rfl, by decide, by kernel_rfl, by kernel_rfl⟩
def c89 : AC :=
 .seq (.reg [ap 2 (.box (tm 0)),
 ap 3 (.box (tm 1)),
 ap 4 (.alloc [(.int .i64 0), (.int .i64 0)])])
 (.seq (.draw (.step (ap 5 (.faddr 0 (tm 2))) (
 .step (ap 6 (.load false 1 (tm 5))) (
 .step (ap 7 (.faddr 0 (tm 3))) (
 .step (ap 8 (.load false 1 (tm 7))) (
 .step (ap 9 (.mxmn false (tm 6) [(tm 8)])) (
 .step (ap 10 (.faddr 1 (tm 2))) (
 .step (ap 11 (.load false 1 (tm 10))) (
 .step (ap 12 (.faddr 1 (tm 3))) (
 .step (ap 13 (.load false 1 (tm 12))) (
 .ev (ap 14 (.bslice 1 (.int .i64 0) 2 [(0, (tm 11)), (1, (tm 13))])) [ap 12 (.faddr 1 (tm 3)), ap 10 (.faddr 1 (tm 2)), ap 8 (.load false 1 (tm 7)), ap 7 (.faddr 0 (tm 3)), ap 6 (.load false 1 (tm 5)), ap 5 (.faddr 0 (tm 2))] (
 .ev (ap 15 (.call (.fn 90) [(tm 14)])) [ap 13 (.load false 1 (tm 12)), ap 12 (.faddr 1 (tm 3)), ap 11 (.load false 1 (tm 10)), ap 10 (.faddr 1 (tm 2)), ap 8 (.load false 1 (tm 7)), ap 7 (.faddr 0 (tm 3)), ap 6 (.load false 1 (tm 5)), ap 5 (.faddr 0 (tm 2))] (
 .step (ap 16 (.build [(.int .i64 0), (.int .i64 0)] [(0, 1, (tm 9)), (1, 1, (tm 15))])) (
 .ev (aU (.store 2 (tm 4) (tm 16))) [] (
 .done)
 (.stop)))
 (.stop))
 (.stop))))))))))))
 (.ret))
theorem k89 : FnC Tryz.prog 89 17 [4] [] [.cell 4 true 2] c89 2 := ⟨Tryz.f89, _, Tryz.func89, rfl, by decide, rfl, by decide, by kernel_rfl, by kernel_rfl⟩
def c58 : AC :=
 .seq (.reg [ap 2 (.mov (zi 0))])
 (.seq (.seq (.reg [ap 3 (.mov (tm 0)),
 ap 4 (.bin .eql (tm 3) (.lit (.int .u64 0)))])
 (.cond (tm 4) (.seq (.reg [ap 2 (.mov (zi 64))])
 (.ret))
 (.skip)))
 (.seq (.reg [ap 5 (.mov (tm 0)),
 ap 6 (.mov (tm 0)),
 ap 7 (.un .neg (tm 6)),
 ap 8 (.bin .and (tm 5) (tm 7)),
 ap 9 (.bin .mul (tm 8) (.lit (.int .u64 285870213051353865))),
 ap 10 (.bin .shr (tm 9) (.lit (.int .u64 58))),
 ap 11 (.iaddrA 64 1 (.tr (.ptr (tabT tab64) 0)) (tm 10)),
 ap 12 (.load false 1 (tm 11)),
 ap 13 (.conv .i64 (tm 12)),
 ap 2 (.mov (tm 13))])
 (.ret)))
theorem k58 : FnC Tryz.prog 58 14 [] [] [.tmp 2] c58 1 := ⟨Tryz.f58, _, Tryz.func58, rfl, by decide, rfl, by decide, by kernel_rfl, by kernel_rfl⟩
def c84 : AC :=
 .seq (.reg [ap 2 (.box (tm 0)),
 ap 3 (.box (tm 1)),
 ap 4 (.mov (zi 0)),
 ap 5 (.mov (.lit (.bool false)))])
 (.seq (.reg [ap 9 (.mkmap (some [none, (some .i64), (some .i64)], none)),
 ap 6 (.alloc [(.map none)]),
 aU (.store 1 (tm 6) (tm 9))])
 (.seq (.reg [ap 7 (.alloc [.nilFunc])])
 (.seq (.reg [ap 10 (.mkfn (.func 108) [] [(tm 2), (tm 3), (tm 6), (tm 7)]),
 aU (.store 1 (tm 7) (tm 10))])
 (.seq (.reg [ap 11 (.load false 1 (tm 7)),
 ap 12 (.build [(.bool false), (.int .i64 0), (.int .i64 0)] []),
 ap 13 (.call (tm 11) [(tm 12)]),
 ap 8 (.alloc [(.int .i64 0), (.bool false)]),
 aU (.store 2 (tm 8) (tm 13))])
 (.seq (.draw (.step (ap 14 (.faddr 0 (tm 8))) (
 .step (ap 15 (.load false 1 (tm 14))) (
 .step (ap 16 (.faddr 1 (tm 8))) (
 .step (ap 17 (.load false 1 (tm 16))) (
 .step (ap 4 (.mov (tm 15))) (
 .step (ap 5 (.mov (tm 17))) (
 .done))))))))
 (.ret))))))
theorem k84 : FnC Tryz.prog 84 18 [] [] [.tmp 4, .tmp 5] c84 2 := ⟨Tryz.f84, _, Tryz.func84, rfl, by decide, rfl, by decide, by kernel_rfl, by kernel_rfl⟩
def c85 : AC :=
 .seq (.reg [ap 4 (.box (tm 0)),
 ap 7 (.mov (zi 0))])
 (.seq (.reg [ap 8 (.mov (tm 2)),
 ap 9 (.load false 1 (tm 3)),
 ap 10 (.load true 4 (tm 4)),
 ap 11 (.mov (tm 1)),
 ap 12 (.inv [(123, 136), (126, 137)] (tm 9) [(tm 10), (tm 11)]),
 ap 13 (.bin .mul (tm 8) (tm 12)),
 ap 7 (.mov (tm 13))])
 (.ret))
theorem k85 : FnC Tryz.prog 85 14 [] [] [.tmp 7] c85 4 := ⟨Tryz.f85, _, Tryz.func85, rfl, by decide, rfl, by decide, by kernel_rfl, by kernel_rfl⟩
def c86 : AC :=
 .seq (.reg [ap 4 (.mov (zi 0))])
 (.seq (.reg [ap 5 (.mov (tm 0)),
 ap 6 (.mov (tm 1)),
 ap 7 (.bin .add (tm 5) (tm 6)),
 ap 4 (.mov (tm 7))])
 (.ret))
theorem k86 : FnC Tryz.prog 86 8 [] [] [.tmp 4] c86 2 := ⟨Tryz.f86, _, Tryz.func86, rfl, by decide, rfl, by decide, by kernel_rfl, by kernel_rfl⟩
def c110 : AC :=
 .seq (.reg [ap 5 (.box (tm 0)),
 ap 6 (.alloc [(.int .i64 0), (.int .i64 0), (.bool false)])])
 (.seq (.seq (.draw (.step (ap 13 (.faddr 2 (tm 5))) (
 .step (ap 14 (.load false 1 (tm 13))) (
 .step (ap 15 (.load false 1 (tm 1))) (
 .step (ap 16 (.nilck (tm 15))) (
 .step (ap 17 (.faddr 0 (tm 16))) (
 .step (ap 18 (.faddr 3 (tm 17))) (
 .step (ap 19 (.load false 1 (tm 18))) (
 .step (ap 20 (.len (tm 19))) (
 .step (ap 21 (.bin .eql (tm 14) (tm 20))) (
 .done)))))))))))
 (.cond (tm 21) (.seq (.reg [ap 22 (.faddr 0 (tm 2)),
 ap 23 (.load true 2 (tm 22)),
 ap 24 (.build [(.int .i64 0), (.int .i64 0), (.bool false)] [(0, 2, (tm 23)), (2, 1, (.lit (.bool true)))]),
 aU (.store 3 (tm 6) (tm 24))])
 (.ret))
 (.skip)))
 (.seq (.seq (.reg [ap 26 (.load false 1 (tm 3)),
 ap 27 (.load true 3 (tm 5)),
 ap 28 (.look (some [none, (some .i64), (some .i64)], none) (.agg #[(.int .i64 0), (.int .i64 0), (.bool false)]) true (tm 26) (tm 27)),
 ap 25 (.mov (tm 28)),
 ap 29 (.ext (tm 25) 0),
 ap 30 (.ext (tm 25) 1),
 ap 7 (.alloc [(.int .i64 0), (.int .i64 0), (.bool false)]),
 aU (.store 3 (tm 7) (tm 29)),
 ap 8 (.mov (tm 30))])
 (.seq (.reg [ap 31 (.mov (tm 8))])
 (.cond (tm 31) (.seq (.reg [ap 32 (.load true 3 (tm 7)),
 aU (.store 3 (tm 6) (tm 32))])
 (.ret))
 (.skip))))
 (.seq (.reg [ap 9 (.alloc [(.int .i64 0), (.int .i64 0), (.bool false)])])
 (.seq (.seq (.reg [ap 33 (.load false 1 (tm 1)),
 ap 34 (.faddr 0 (tm 5)),
 ap 35 (.load true 2 (tm 34)),
 ap 36 (.faddr 2 (tm 5)),
 ap 37 (.load false 1 (tm 36)),
 ap 38 (.call (.fn 109) [(tm 33), (tm 35), (tm 37)])])
 (.block 0 (.rangeF (tm 38) 39 (.reg [ap 10 (.alloc [(.bool false), (.int .i64 0), (.bool false), (.int .i64 0)]),
 aU (.store 4 (tm 10) (tm 39))])
 (.block 1 (.seq (.reg [ap 40 (.load false 1 (tm 4)),
 ap 41 (.faddr 0 (tm 10)),
 ap 42 (.load true 2 (tm 41)),
 ap 43 (.faddr 2 (tm 5)),
 ap 44 (.load false 1 (tm 43)),
 ap 45 (.bin .add (tm 44) (zi 1)),
 ap 46 (.build [(.bool false), (.int .i64 0), (.int .i64 0)] [(0, 2, (tm 42)), (2, 1, (tm 45))]),
 ap 47 (.call (tm 40) [(tm 46)]),
 ap 11 (.alloc [(.int .i64 0), (.int .i64 0), (.bool false)]),
 aU (.store 3 (tm 11) (tm 47))])
 (.seq (.seq (.reg [ap 48 (.faddr 2 (tm 11)),
 ap 49 (.load false 1 (tm 48)),
 ap 50 (.un .not (tm 49))])
 (.cond (tm 50) (.exit 1)
 (.skip)))
 (.seq (.reg [ap 51 (.faddr 2 (tm 2)),
 ap 52 (.load false 1 (tm 51)),
 ap 53 (.load true 4 (tm 10)),
 ap 54 (.faddr 2 (tm 5)),
 ap 55 (.load false 1 (tm 54)),
 ap 56 (.faddr 0 (tm 11)),
 ap 57 (.load true 2 (tm 56)),
 ap 58 (.call (tm 52) [(tm 53), (tm 55), (tm 57)]),
 ap 12 (.alloc [(.int .i64 0), (.int .i64 0)]),
 aU (.store 2 (tm 12) (tm 58))])
 (.seq (.seq (.reg [ap 59 (.faddr 2 (tm 9)),
 ap 60 (.load false 1 (tm 59))])
 (.cond (tm 60) (.reg [ap 61 (.faddr 3 (tm 2)),
 ap 62 (.load false 1 (tm 61)),
 ap 63 (.faddr 0 (tm 9)),
 ap 64 (.load true 2 (tm 63)),
 ap 65 (.load true 2 (tm 12)),
 ap 66 (.call (tm 62) [(tm 64), (tm 65)]),
 aU (.store 2 (tm 12) (tm 66))])
 (.skip)))
 (.reg [ap 67 (.load true 2 (tm 12)),
 ap 68 (.build [(.int .i64 0), (.int .i64 0), (.bool false)] [(0, 2, (tm 67)), (2, 1, (.lit (.bool true)))]),
 aU (.store 3 (tm 9) (tm 68))])))))))))
 (.seq (.reg [ap 69 (.load false 1 (tm 3)),
 ap 70 (.load true 3 (tm 5)),
 ap 71 (.load true 3 (tm 9)),
 aU (.mput (some [none, (some .i64), (some .i64)], none) (tm 69) (tm 70) (tm 71))])
 (.seq (.reg [ap 72 (.load true 3 (tm 9)),
 aU (.store 3 (tm 6) (tm 72))])
 (.ret)))))))
theorem k110 : FnC Tryz.prog 110 73 [6] [] [.cell 6 true 3] c110 5 := ⟨Tryz.f110, _, Tryz.func110, rfl, by decide, rfl, by decide, by kernel_rfl, by kernel_rfl⟩
def c109 : AC :=
 .seq (.reg [ap 3 (.box (tm 0)),
 ap 4 (.box (tm 1)),
 ap 5 (.box (tm 2)),
 ap 6 (.mov (.lit .nilFunc))])
 (.seq (.reg [ap 7 (.mkfn (.func 116) [] [(tm 3), (tm 5), (tm 4)]),
 ap 6 (.mov (tm 7))])
 (.ret))
theorem k109 : FnC Tryz.prog 109 8 [] [] [.tmp 6] c109 3 := ⟨Tryz.f109, _, Tryz.func109, rfl, by decide, rfl, by decide, by kernel_rfl, by kernel_rfl⟩
def c108 : AC :=
 .seq (.reg [ap 5 (.box (tm 0)),
 ap 6 (.alloc [(.int .i64 0), (.bool false)])])
 (.seq (.seq (.draw (.step (ap 13 (.faddr 2 (tm 5))) (
 .step (ap 14 (.load false 1 (tm 13))) (
 .step (ap 15 (.load false 1 (tm 1))) (
 .step (ap 16 (.nilck (tm 15))) (
 .step (ap 17 (.faddr 0 (tm 16))) (
 .step (ap 18 (.faddr 3 (tm 17))) (
 .step (ap 19 (.load false 1 (tm 18))) (
 .step (ap 20 (.len (tm 19))) (
 .step (ap 21 (.bin .eql (tm 14) (tm 20))) (
 .done)))))))))))
 (.cond (tm 21) (.seq (.reg [ap 22 (.faddr 0 (tm 2)),
 ap 23 (.load false 1 (tm 22)),
 ap 24 (.build [(.int .i64 0), (.bool false)] [(0, 1, (tm 23)), (1, 1, (.lit (.bool true)))]),
 aU (.store 2 (tm 6) (tm 24))])
 (.ret))
 (.skip)))
 (.seq (.seq (.reg [ap 26 (.load false 1 (tm 3)),
 ap 27 (.load true 3 (tm 5)),
 ap 28 (.look (some [none, (some .i64), (some .i64)], none) (.agg #[(.int .i64 0), (.bool false)]) true (tm 26) (tm 27)),
 ap 25 (.mov (tm 28)),
 ap 29 (.ext (tm 25) 0),
 ap 30 (.ext (tm 25) 1),
 ap 7 (.alloc [(.int .i64 0), (.bool false)]),
 aU (.store 2 (tm 7) (tm 29)),
 ap 8 (.mov (tm 30))])
 (.seq (.reg [ap 31 (.mov (tm 8))])
 (.cond (tm 31) (.seq (.reg [ap 32 (.load true 2 (tm 7)),
 aU (.store 2 (tm 6) (tm 32))])
 (.ret))
 (.skip))))
 (.seq (.reg [ap 9 (.alloc [(.int .i64 0), (.bool false)])])
 (.seq (.seq (.reg [ap 33 (.load false 1 (tm 1)),
 ap 34 (.faddr 0 (tm 5)),
 ap 35 (.load true 2 (tm 34)),
 ap 36 (.faddr 2 (tm 5)),
 ap 37 (.load false 1 (tm 36)),
 ap 38 (.call (.fn 109) [(tm 33), (tm 35), (tm 37)])])
 (.block 0 (.rangeF (tm 38) 39 (.reg [ap 10 (.alloc [(.bool false), (.int .i64 0), (.bool false), (.int .i64 0)]),
 aU (.store 4 (tm 10) (tm 39))])
 (.block 1 (.seq (.reg [ap 40 (.load false 1 (tm 4)),
 ap 41 (.faddr 0 (tm 10)),
 ap 42 (.load true 2 (tm 41)),
 ap 43 (.faddr 2 (tm 5)),
 ap 44 (.load false 1 (tm 43)),
 ap 45 (.bin .add (tm 44) (zi 1)),
 ap 46 (.build [(.bool false), (.int .i64 0), (.int .i64 0)] [(0, 2, (tm 42)), (2, 1, (tm 45))]),
 ap 47 (.call (tm 40) [(tm 46)]),
 ap 11 (.alloc [(.int .i64 0), (.bool false)]),
 aU (.store 2 (tm 11) (tm 47))])
 (.seq (.seq (.reg [ap 48 (.faddr 1 (tm 11)),
 ap 49 (.load false 1 (tm 48)),
 ap 50 (.un .not (tm 49))])
 (.cond (tm 50) (.exit 1)
 (.skip)))
 (.seq (.reg [ap 51 (.faddr 1 (tm 2)),
 ap 52 (.load false 1 (tm 51)),
 ap 53 (.load true 4 (tm 10)),
 ap 54 (.faddr 2 (tm 5)),
 ap 55 (.load false 1 (tm 54)),
 ap 56 (.faddr 0 (tm 11)),
 ap 57 (.load false 1 (tm 56)),
 ap 58 (.call (tm 52) [(tm 53), (tm 55), (tm 57)]),
 ap 12 (.mov (tm 58))])
 (.seq (.seq (.reg [ap 59 (.faddr 1 (tm 9)),
 ap 60 (.load false 1 (tm 59))])
 (.cond (tm 60) (.reg [ap 61 (.faddr 2 (tm 2)),
 ap 62 (.load false 1 (tm 61)),
 ap 63 (.faddr 0 (tm 9)),
 ap 64 (.load false 1 (tm 63)),
 ap 65 (.mov (tm 12)),
 ap 66 (.call (tm 62) [(tm 64), (tm 65)]),
 ap 12 (.mov (tm 66))])
 (.skip)))
 (.reg [ap 67 (.mov (tm 12)),
 ap 68 (.build [(.int .i64 0), (.bool false)] [(0, 1, (tm 67)), (1, 1, (.lit (.bool true)))]),
 aU (.store 2 (tm 9) (tm 68))])))))))))
 (.seq (.reg [ap 69 (.load false 1 (tm 3)),
 ap 70 (.load true 3 (tm 5)),
 ap 71 (.load true 2 (tm 9)),
 aU (.mput (some [none, (some .i64), (some .i64)], none) (tm 69) (tm 70) (tm 71))])
 (.seq (.reg [ap 72 (.load true 2 (tm 9)),
 aU (.store 2 (tm 6) (tm 72))])
 (.ret)))))))
theorem k108 : FnC Tryz.prog 108 73 [6] [] [.cell 6 true 2] c108 5 := ⟨Tryz.f108, _, Tryz.func108, rfl, by decide, rfl, by decide, by kernel_rfl, by kernel_rfl⟩
def c116 : AC :=
 .scope (.seq (.draw (.step (ap 10 (.load false 1 (tm 1))) (
 .step (ap 11 (.load false 1 (tm 2))) (
 .step (ap 12 (.nilck (tm 10))) (
 .step (ap 13 (.faddr 5 (tm 12))) (
 .step (ap 14 (.faddr 0 (tm 13))) (
 .step (ap 15 (.iaddrA 9 1 (tm 14) (tm 11))) (
 .step (ap 16 (.load false 1 (tm 15))) (
 .step (ap 17 (.mkfn (.func 117) [(tm 16)] [])) (
 .step (ap 5 (.mov (tm 17))) (
 .done)))))))))))
 (.seq (.reg [ap 6 (.mov (.fn 118))])
 (.seq (.skip)
 (.seq (.reg [ap 18 (.mov (zi 0))])
 (.block 0 (.loop (.seq (.reg [ap 19 (.bin .lss (tm 18) (zi 3))])
 (.seq (.cond (tm 19) (.skip)
 (.exit 0))
 (.seq (.block 1 (.seq (.reg [ap 20 (.mov (tm 18)),
 ap 7 (.mov (tm 20))])
 (.seq (.seq (.reg [ap 21 (.mov (tm 5)),
 ap 22 (.mov (tm 7)),
 ap 23 (.call (tm 21) [(tm 22)]),
 ap 24 (.un .not (tm 23))])
 (.cond (tm 24) (.exit 1)
 (.skip)))
 (.seq (.draw (.step (ap 26 (.mov (tm 6))) (
 .step (ap 27 (.load true 2 (tm 3))) (
 .step (ap 28 (.mov (tm 7))) (
 .step (ap 29 (.load false 1 (tm 1))) (
 .step (ap 30 (.nilck (tm 29))) (
 .step (ap 31 (.faddr 0 (tm 30))) (
 .step (ap 32 (.faddr 2 (tm 31))) (
 .step (ap 33 (.load false 1 (tm 32))) (
 .ev (ap 34 (.call (tm 26) [(tm 27), (tm 28), (tm 33)])) [ap 32 (.faddr 2 (tm 31)), ap 31 (.faddr 0 (tm 30)), ap 30 (.nilck (tm 29)), ap 29 (.load false 1 (tm 1))] (
 .step (ap 25 (.mov (tm 34))) (
 .step (ap 35 (.ext (tm 25) 0)) (
 .step (ap 36 (.ext (tm 25) 1)) (
 .ev (ap 8 (.alloc [(.bool false), (.int .i64 0)])) [ap 33 (.load false 1 (tm 32)), ap 32 (.faddr 2 (tm 31)), ap 31 (.faddr 0 (tm 30)), ap 30 (.nilck (tm 29)), ap 29 (.load false 1 (tm 1)), ap 27 (.load true 2 (tm 3))] (
 .ev (aU (.store 2 (tm 8) (tm 35))) [] (
 .step (ap 9 (.mov (tm 36))) (
 .done))
 (.stop))
 (.stop)))))
 (.ev (ap 8 (.alloc [(.bool false), (.int .i64 0)])) [ap 33 (.load false 1 (tm 32)), ap 32 (.faddr 2 (tm 31)), ap 31 (.faddr 0 (tm 30)), ap 30 (.nilck (tm 29)), ap 29 (.load false 1 (tm 1)), ap 27 (.load true 2 (tm 3))] (
 .ev (ap 34 (.call (tm 26) [(tm 27), (tm 28), (tm 33)])) [ap 32 (.faddr 2 (tm 31)), ap 31 (.faddr 0 (tm 30)), ap 30 (.nilck (tm 29)), ap 29 (.load false 1 (tm 1))] (
 .step (ap 25 (.mov (tm 34))) (
 .step (ap 35 (.ext (tm 25) 0)) (
 .step (ap 36 (.ext (tm 25) 1)) (
 .ev (aU (.store 2 (tm 8) (tm 35))) [] (
 .step (ap 9 (.mov (tm 36))) (
 .done))
 (.stop)))))
 (.stop))
 (.stop))))))))))))
 (.seq (.seq (.draw (.step (ap 37 (.mov (tm 9))) (
 .step (ap 38 (.mov (tm 37))) (
 .step (aT 39 38 (.load false 1 (tm 1))) (
 .step (aT 40 38 (.load false 1 (tm 2))) (
 .step (aT 41 38 (.nilck (tm 39))) (
 .step (aT 42 38 (.faddr 5 (tm 41))) (
 .step (aT 43 38 (.faddr 9 (tm 42))) (
 .step (aT 44 38 (.iaddrA 9 1 (tm 43) (tm 40))) (
 .step (aT 45 38 (.load false 1 (tm 44))) (
 .step (aT 46 38 (.un .not (tm 45))) (
 .step (ap 47 (.pick (tm 38) (tm 46) (.lit (.bool false)))) (
 .step (ap 48 (.mov (tm 47))) (
 .step (aF 49 48 (.mov (tm 9))) (
 .step (aF 50 48 (.un .not (tm 49))) (
 .step (aF 51 48 (.mov (tm 50))) (
 .step (aT 52 51 (.load false 1 (tm 1))) (
 .step (aT 53 51 (.load false 1 (tm 2))) (
 .step (aT 54 51 (.nilck (tm 52))) (
 .step (aT 55 51 (.faddr 5 (tm 54))) (
 .step (aT 56 51 (.faddr 18 (tm 55))) (
 .step (aT 57 51 (.iaddrA 9 1 (tm 56) (tm 53))) (
 .step (aT 58 51 (.load false 1 (tm 57))) (
 .step (aT 59 51 (.un .not (tm 58))) (
 .step (aF 60 48 (.pick (tm 51) (tm 59) (.lit (.bool false)))) (
 .step (ap 61 (.pick (tm 48) (.lit (.bool true)) (tm 60))) (
 .done)))))))))))))))))))))))))))
 (.cond (tm 61) (.exit 1)
 (.skip)))
 (.seq (.reg [ap 62 (.mov (tm 0)),
 ap 63 (.load true 2 (tm 8)),
 ap 64 (.mov (tm 9)),
 ap 65 (.mov (tm 7)),
 ap 66 (.build [(.bool false), (.int .i64 0), (.bool false), (.int .i64 0)] [(0, 2, (tm 63)), (2, 1, (tm 64)), (3, 1, (tm 65))]),
 ap 67 (.call (tm 62) [(tm 66)]),
 ap 68 (.un .not (tm 67))])
 (.cond (tm 68) (.ret)
 (.skip))))))))
 (.reg [ap 69 (.bin .add (tm 18) (zi 1)),
 ap 18 (.mov (tm 69))]))))))))))
theorem k116 : FnC Tryz.prog 116 70 [] [] [] c116 4 := ⟨Tryz.f116, _, Tryz.func116, rfl, by decide, rfl, by decide, by kernel_rfl, by kernel_rfl⟩
def c117 : AC :=
 .seq (.reg [ap 4 (.mov (.lit (.bool false)))])
 (.seq (.reg [ap 5 (.mov (tm 0)),
 ap 6 (.mov (tm 1)),
 ap 7 (.bin .shr (tm 5) (tm 6)),
 ap 8 (.bin .and (tm 7) (zi 1)),
 ap 9 (.bin .eql (tm 8) (zi 1)),
 ap 4 (.mov (tm 9))])
 (.ret))
theorem k117 : FnC Tryz.prog 117 10 [] [] [.tmp 4] c117 2 := ⟨Tryz.f117, _, Tryz.func117, rfl, by decide, rfl, by decide, by kernel_rfl, by kernel_rfl⟩
def c118 : AC :=
 .seq (.reg [ap 3 (.box (tm 0)),
 ap 6 (.alloc [(.bool false), (.int .i64 0)]),
 ap 7 (.mov (.lit (.bool false)))])
 (.seq (.seq (.reg [ap 8 (.mov (tm 1)),
 ap 9 (.bin .eql (tm 8) (zi 2))])
 (.cond (tm 9) (.seq (.reg [ap 10 (.build [(.bool false), (.int .i64 0)] [(0, 1, (.lit (.bool true)))]),
 aU (.store 2 (tm 6) (tm 10)),
 ap 7 (.mov (.lit (.bool true)))])
 (.ret))
 (.skip)))
 (.seq (.seq (.reg [ap 11 (.faddr 0 (tm 3)),
 ap 12 (.load false 1 (tm 11)),
 ap 13 (.un .not (tm 12)),
 ap 14 (.mov (tm 13)),
 aF 15 14 (.mov (tm 1)),
 aF 16 14 (.bin .eql (tm 15) (zi 1)),
 ap 17 (.pick (tm 14) (.lit (.bool true)) (tm 16))])
 (.cond (tm 17) (.seq (.draw (.step (ap 18 (.faddr 0 (tm 3))) (
 .step (ap 19 (.load false 1 (tm 18))) (
 .step (ap 20 (.build [(.bool false), (.int .i64 0)] [(0, 1, (tm 19))])) (
 .step (ap 21 (.faddr 0 (tm 3))) (
 .step (ap 22 (.load false 1 (tm 21))) (
 .ev (aU (.store 2 (tm 6) (tm 20))) [ap 22 (.load false 1 (tm 21)), ap 21 (.faddr 0 (tm 3))] (
 .step (ap 7 (.mov (tm 22))) (
 .done))
 (.stop))))))))
 (.ret))
 (.skip)))
 (.seq (.seq (.reg [ap 23 (.faddr 1 (tm 3)),
 ap 24 (.load false 1 (tm 23)),
 ap 25 (.bin .add (tm 24) (zi 1)),
 ap 26 (.faddr 1 (tm 3)),
 aU (.store 1 (tm 26) (tm 25))])
 (.seq (.reg [ap 27 (.faddr 1 (tm 3)),
 ap 28 (.load false 1 (tm 27)),
 ap 29 (.mov (tm 2)),
 ap 30 (.bin .eql (tm 28) (tm 29))])
 (.cond (tm 30) (.seq (.reg [ap 31 (.build [(.bool false), (.int .i64 0)] []),
 aU (.store 2 (tm 6) (tm 31)),
 ap 7 (.mov (.lit (.bool true)))])
 (.ret))
 (.skip))))
 (.seq (.reg [ap 32 (.load true 2 (tm 3)),
 aU (.store 2 (tm 6) (tm 32)),
 ap 7 (.mov (.lit (.bool true)))])
 (.ret)))))
theorem k118 : FnC Tryz.prog 118 33 [6] [] [.cell 6 true 2, .tmp 7] c118 3 := ⟨Tryz.f118, _, Tryz.func118, rfl, by decide, rfl, by decide, by kernel_rfl, by kernel_rfl⟩
def c137 : AC :=
 .seq (.reg [ap 3 (.box (tm 0)),
 ap 4 (.box (tm 1)),
 ap 6 (.mov (zi 0))])
 (.seq (.seq (.reg [ap 7 (.faddr 2 (tm 4)),
 ap 8 (.load false 1 (tm 7)),
 ap 9 (.mov (tm 8)),
 aT 10 9 (.faddr 0 (tm 3)),
 aT 11 9 (.load false 1 (tm 10)),
 aT 12 9 (.mov (tm 2)),
 aT 13 9 (.bin .leq (tm 11) (tm 12)),
 ap 14 (.pick (tm 9) (tm 13) (.lit (.bool false))),
 ap 15 (.mov (tm 14)),
 aT 16 15 (.mov (tm 2)),
 aT 17 15 (.faddr 1 (tm 3)),
 aT 18 15 (.load false 1 (tm 17)),
 aT 19 15 (.bin .lss (tm 16) (tm 18)),
 ap 20 (.pick (tm 15) (tm 19) (.lit (.bool false)))])
 (.cond (tm 20) (.seq (.reg [ap 6 (.mov (zi 1))])
 (.ret))
 (.skip)))
 (.seq (.reg [ap 6 (.mov (zi 0))])
 (.ret)))
theorem k137 : FnC Tryz.prog 137 21 [] [] [.tmp 6] c137 3 := ⟨Tryz.f137, _, Tryz.func137, rfl, by decide, rfl, by decide, by kernel_rfl, by kernel_rfl⟩
def c136 : AC :=
 .seq (.reg [ap 3 (.box (tm 0)),
 ap 4 (.box (tm 1)),
 ap 6 (.mov (zi 0))])
 (.seq (.seq (.reg [ap 7 (.mov (tm 2)),
 ap 8 (.faddr 0 (tm 3)),
 ap 9 (.load false 1 (tm 8)),
 ap 10 (.bin .eql (tm 7) (tm 9)),
 ap 11 (.mov (tm 10)),
 aT 12 11 (.faddr 3 (tm 4)),
 aT 13 11 (.load false 1 (tm 12)),
 aT 14 11 (.faddr 1 (tm 3)),
 aT 15 11 (.load false 1 (tm 14)),
 aT 16 11 (.bin .neq (tm 13) (tm 15)),
 ap 17 (.pick (tm 11) (tm 16) (.lit (.bool false)))])
 (.cond (tm 17) (.seq (.reg [ap 6 (.mov (zi 0))])
 (.ret))
 (.skip)))
 (.seq (.reg [ap 6 (.mov (zi 1))])
 (.ret)))
theorem k136 : FnC Tryz.prog 136 18 [] [] [.tmp 6] c136 3 := ⟨Tryz.f136, _, Tryz.func136, rfl, by decide, rfl, by decide, by kernel_rfl, by kernel_rfl⟩
open Go Go.Ab
def c5 : AC :=
 .seq (.reg [ap 1 (.box (tm 0)),
 ap 2 (.mov (.lit (.bool false)))])
 (.seq (.seq (.reg [ap 6 (.faddr 0 (tm 1)),
 ap 7 (.load false 1 (tm 6)),
 ap 8 (.bin .lss (tm 7) (zi 1)),
 ap 9 (.mov (tm 8)),
 aF 10 9 (.faddr 0 (tm 1)),
 aF 11 9 (.load false 1 (tm 10)),
 aF 12 9 (.faddr 1 (tm 1)),
 aF 13 9 (.load false 1 (tm 12)),
 aF 14 9 (.bin .gtr (tm 11) (tm 13)),
 ap 15 (.pick (tm 9) (.lit (.bool true)) (tm 14)),
 ap 16 (.mov (tm 15)),
 aF 17 16 (.faddr 1 (tm 1)),
 aF 18 16 (.load false 1 (tm 17)),
 aF 19 16 (.bin .gtr (tm 18) (zi 12)),
 ap 20 (.pick (tm 16) (.lit (.bool true)) (tm 19)),
 ap 21 (.mov (tm 20)),
 aF 22 21 (.faddr 2 (tm 1)),
 aF 23 21 (.load false 1 (tm 22)),
 aF 24 21 (.call (.fn 18) [(tm 23), (zi 1), (zi 4)]),
 aF 25 21 (.un .not (tm 24)),
 ap 26 (.pick (tm 21) (.lit (.bool true)) (tm 25)),
 ap 27 (.mov (tm 26)),
 aF 28 27 (.faddr 3 (tm 1)),
 aF 29 27 (.load false 1 (tm 28)),
 aF 30 27 (.len (tm 29)),
 aF 31 27 (.bin .gtr (tm 30) (zi 9)),
 ap 32 (.pick (tm 27) (.lit (.bool true)) (tm 31)),
 ap 33 (.mov (tm 32)),
 aF 34 33 (.faddr 4 (tm 1)),
 aF 35 33 (.load false 1 (tm 34)),
 aF 36 33 (.len (tm 35)),
 aF 37 33 (.bin .gtr (tm 36) (zi 8)),
 ap 38 (.pick (tm 33) (.lit (.bool true)) (tm 37))])
 (.cond (tm 38) (.seq (.reg [ap 2 (.mov (.lit (.bool false)))])
 (.ret))
 (.skip)))
 (.seq (.seq (.reg [ap 3 (.mov (zi 0))])
 (.block 0 (.loop (.seq (.seq (.reg [ap 39 (.mov (tm 3)),
 ap 40 (.faddr 3 (tm 1)),
 ap 41 (.load false 1 (tm 40)),
 ap 42 (.len (tm 41)),
 ap 43 (.bin .lss (tm 39) (tm 42))])
 (.cond (tm 43) (.skip)
 (.exit 0)))
 (.seq (.block 1 (.seq (.reg [ap 46 (.faddr 3 (tm 1)),
 ap 47 (.load false 1 (tm 46)),
 ap 48 (.mov (tm 3)),
 ap 49 (.iaddr 3 (tm 47) (tm 48)),
 ap 50 (.load true 3 (tm 49)),
 ap 4 (.alloc [(.int .i64 0), (.int .i64 0), (.int .i64 0)]),
 aU (.store 3 (tm 4) (tm 50))])
 (.seq (.reg [ap 51 (.faddr 0 (tm 4)),
 ap 52 (.faddr 0 (tm 51)),
 ap 53 (.load false 1 (tm 52)),
 ap 54 (.bin .lss (tm 53) (zi 0)),
 ap 55 (.mov (tm 54)),
 aF 56 55 (.faddr 0 (tm 4)),
 aF 57 55 (.faddr 0 (tm 56)),
 aF 58 55 (.load false 1 (tm 57)),
 aF 59 55 (.faddr 0 (tm 4)),
 aF 60 55 (.faddr 1 (tm 59)),
 aF 61 55 (.load false 1 (tm 60)),
 aF 62 55 (.bin .gtr (tm 58) (tm 61)),
 ap 63 (.pick (tm 55) (.lit (.bool true)) (tm 62)),
 ap 64 (.mov (tm 63)),
 aF 65 64 (.faddr 0 (tm 4)),
 aF 66 64 (.faddr 1 (tm 65)),
 aF 67 64 (.load false 1 (tm 66)),
 aF 68 64 (.bin .gtr (tm 67) (zi 12)),
 ap 69 (.pick (tm 64) (.lit (.bool true)) (tm 68)),
 ap 70 (.mov (tm 69)),
 aF 71 70 (.faddr 2 (tm 4)),
 aF 72 70 (.load false 1 (tm 71)),
 aF 73 70 (.call (.fn 18) [(tm 72), (zi 0), (zi 2)]),
 aF 74 70 (.un .not (tm 73)),
 ap 75 (.pick (tm 70) (.lit (.bool true)) (tm 74))])
 (.cond (tm 75) (.seq (.reg [ap 2 (.mov (.lit (.bool false)))])
 (.ret))
 (.skip)))))
 (.reg [ap 44 (.mov (tm 3)),
 ap 45 (.bin .add (tm 44) (zi 1)),
 ap 3 (.mov (tm 45))]))))))
 (.seq (.seq (.reg [ap 5 (.mov (zi 0))])
 (.block 2 (.loop (.seq (.seq (.reg [ap 76 (.mov (tm 5)),
 ap 77 (.faddr 4 (tm 1)),
 ap 78 (.load false 1 (tm 77)),
 ap 79 (.len (tm 78)),
 ap 80 (.bin .lss (tm 76) (tm 79))])
 (.cond (tm 80) (.skip)
 (.exit 2)))
 (.seq (.block 3 (.seq (.draw (.step (ap 83 (.load true 5 (tm 1))) (
 .step (ap 84 (.faddr 4 (tm 1))) (
 .step (ap 85 (.load false 1 (tm 84))) (
 .step (ap 86 (.mov (tm 5))) (
 .step (ap 87 (.iaddr 2 (tm 85) (tm 86))) (
 .step (ap 88 (.faddr 0 (tm 87))) (
 .step (ap 89 (.load false 1 (tm 88))) (
 .ev (ap 90 (.call (.fn 19) [(tm 83), (tm 89)])) [ap 88 (.faddr 0 (tm 87)), ap 87 (.iaddr 2 (tm 85) (tm 86)), ap 85 (.load false 1 (tm 84)), ap 84 (.faddr 4 (tm 1))] (
 .step (ap 91 (.un .not (tm 90))) (
 .done))
 (.stop))))))))))
 (.cond (tm 91) (.seq (.reg [ap 2 (.mov (.lit (.bool false)))])
 (.ret))
 (.skip))))
 (.reg [ap 81 (.mov (tm 5)),
 ap 82 (.bin .add (tm 81) (zi 1)),
 ap 5 (.mov (tm 82))]))))))
 (.seq (.reg [ap 2 (.mov (.lit (.bool true)))])
 (.ret)))))
theorem k5 : FnC Tryz.prog 5 92 [] [] [.tmp 2] c5 1 := ⟨Tryz.f5, _, Tryz.func5, rfl, by decide, rfl, by decide, by kernel_rfl, by kernel_rfl⟩
def c19 : AC :=
 .seq (.reg [ap 2 (.box (tm 0)),
 ap 4 (.mov (.lit (.bool false)))])
 (.seq (.reg [ap 5 (.mov (tm 1)),
 ap 6 (.faddr 3 (tm 2)),
 ap 7 (.load false 1 (tm 6)),
 ap 8 (.len (tm 7)),
 ap 9 (.bin .sub (tm 8) (zi 1)),
 ap 10 (.call (.fn 18) [(tm 5), (zi 0), (tm 9)]),
 ap 4 (.mov (tm 10))])
 (.ret))
theorem k19 : FnC Tryz.prog 19 11 [] [] [.tmp 4] c19 2 := ⟨Tryz.f19, _, Tryz.func19, rfl, by decide, rfl, by decide, by kernel_rfl, by kernel_rfl⟩
def c10 : AC :=
 .seq (.reg [ap 2 (.box (tm 0)),
 ap 4 (.mov (.lit (.slice none 0 0)))])
 (.seq (.reg [ap 5 (.mov (.lit (.slice none 0 0)))])
 (.seq (.reg [ap 6 (.mov (.lit (.bool false))),
 ap 7 (.mov (zi 0))])
 (.seq (.seq (.reg [ap 8 (.mov (zi 0))])
 (.block 0 (.loop (.seq (.seq (.reg [ap 9 (.mov (tm 8)),
 ap 10 (.mov (tm 1)),
 ap 11 (.len (tm 10)),
 ap 12 (.bin .lss (tm 9) (tm 11))])
 (.cond (tm 12) (.skip)
 (.exit 0)))
 (.seq (.block 1 (.seq (.seq (.reg [ap 15 (.mov (tm 6)),
 ap 16 (.un .not (tm 15)),
 ap 17 (.mov (tm 16)),
 aT 18 17 (.mov (tm 1)),
 aT 19 17 (.mov (tm 8)),
 aT 20 17 (.iaddr 1 (tm 18) (tm 19)),
 aT 21 17 (.load false 1 (tm 20)),
 aT 22 17 (.bin .eql (tm 21) (zi 2)),
 ap 23 (.pick (tm 17) (tm 22) (.lit (.bool false)))])
 (.cond (tm 23) (.reg [ap 6 (.mov (.lit (.bool true))),
 ap 7 (.mov (zi 0))])
 (.skip)))
 (.seq (.reg [ap 24 (.mov (tm 5)),
 ap 25 (.mov (tm 6)),
 ap 26 (.bslice 1 (.bool false) 1 [(0, (tm 25))]),
 ap 27 (.app 1 1 (tm 24) (tm 26)),
 ap 5 (.mov (tm 27))])
 (.seq (.seq (.reg [ap 28 (.mov (tm 6)),
 ap 29 (.mov (tm 28)),
 aT 30 29 (.mov (tm 1)),
 aT 31 29 (.mov (tm 8)),
 aT 32 29 (.iaddr 1 (tm 30) (tm 31)),
 aT 33 29 (.load false 1 (tm 32)),
 aT 34 29 (.bin .eql (tm 33) (zi 0)),
 ap 35 (.pick (tm 29) (tm 34) (.lit (.bool false)))])
 (.cond (tm 35) (.reg [ap 36 (.mov (tm 7)),
 ap 37 (.bin .add (tm 36) (zi 1)),
 ap 7 (.mov (tm 37))])
 (.reg [ap 7 (.mov (zi 0))])))
 (.seq (.reg [ap 38 (.mov (tm 6)),
 ap 39 (.mov (tm 38)),
 aT 40 39 (.mov (tm 7)),
 aT 41 39 (.faddr 2 (tm 2)),
 aT 42 39 (.load false 1 (tm 41)),
 aT 43 39 (.bin .eql (tm 40) (tm 42)),
 ap 44 (.pick (tm 39) (tm 43) (.lit (.bool false)))])
 (.cond (tm 44) (.reg [ap 6 (.mov (.lit (.bool false))),
 ap 7 (.mov (zi 0))])
 (.skip)))))))
 (.reg [ap 13 (.mov (tm 8)),
 ap 14 (.bin .add (tm 13) (zi 1)),
 ap 8 (.mov (tm 14))]))))))
 (.seq (.reg [ap 45 (.mov (tm 5)),
 ap 4 (.mov (tm 45))])
 (.ret)))))
theorem k10 : FnC Tryz.prog 10 46 [] [] [.tmp 4] c10 2 := ⟨Tryz.f10, _, Tryz.func10, rfl, by decide, rfl, by decide, by kernel_rfl, by kernel_rfl⟩
def c18 : AC :=
 .seq (.reg [ap 6 (.mov (.lit (.bool false)))])
 (.seq (.reg [ap 7 (.mov (tm 1)),
 ap 8 (.mov (tm 0)),
 ap 9 (.bin .leq (tm 7) (tm 8)),
 ap 10 (.mov (tm 9)),
 aT 11 10 (.mov (tm 0)),
 aT 12 10 (.mov (tm 2)),
 aT 13 10 (.bin .leq (tm 11) (tm 12)),
 ap 14 (.pick (tm 10) (tm 13) (.lit (.bool false))),
 ap 6 (.mov (tm 14))])
 (.ret))
theorem k18 : FnC Tryz.prog 18 15 [] [] [.tmp 6] c18 3 := ⟨Tryz.f18, _, Tryz.func18, rfl, by decide, rfl, by decide, by kernel_rfl, by kernel_rfl⟩
end Go.Proofs.YtbhbbjngndmnmaaGreatDoor.F
namespace Go.Proofs.YtbhbbjngndmnmaaGreatDoor.B
open Go Go.Ab
def c32 : AC :=
 .seq (.reg [ap 6 (.mov (tm 2)),
 ap 7 (.nilcmp true (tm 6))])
 (.cond (tm 7) (.seq (.reg [ap 9 (.mov (tm 2)),
 ap 10 (.tass 127 true (tm 9)),
 ap 8 (.mov (tm 10)),
 ap 11 (.ext (tm 8) 0),
 ap 12 (.ext (tm 8) 1),
 ap 3 (.mov (tm 11)),
 ap 4 (.mov (tm 12))])
 (.seq (.seq (.reg [ap 13 (.mov (tm 4)),
 ap 14 (.un .not (tm 13))])
 (.cond (tm 14) (.reg [ap 15 (.mov (tm 2)),
 aU (.pan (tm 15))])
 (.skip)))
 (.reg [ap 16 (.mov (tm 0)),
 ap 17 (.mov (tm 3)),
 ap 18 (.nilck (tm 16)),
 aU (.store 1 (tm 18) (tm 17))])))
 (.skip))
theorem a32 : FnA Tryz.prog 32 19 5 2 c32 1 := ⟨Tryz.f32, _, _, _, _, _, Tryz.func32, rfl, by decide, rfl, by decide, rfl, rfl, rfl, rfl, rfl, rfl, rfl, by decide, by decide, by kernel_rfl⟩
def c33 : AC :=
 .seq (.reg [ap 2 (.box (tm 0)),
 ap 4 (.mov (.lit (.pointer none)))])
 (.seq (.reg [ap 12 (.faddr 0 (tm 2)),
 ap 13 (.load false 1 (tm 12)),
 ap 14 (.call (.fn 56) [(tm 13), (zi 1), (zi 8)]),
 ap 15 (.mov (tm 14)),
 aT 16 15 (.faddr 1 (tm 2)),
 aT 17 15 (.load false 1 (tm 16)),
 aT 18 15 (.call (.fn 56) [(tm 17), (zi 1), (zi 6)]),
 ap 19 (.pick (tm 15) (tm 18) (.lit (.bool false))),
 ap 20 (.mov (tm 19)),
 aT 21 20 (.faddr 2 (tm 2)),
 aT 22 20 (.load false 1 (tm 21)),
 aT 23 20 (.call (.fn 56) [(tm 22), (zi 0), (zi 3)]),
 ap 24 (.pick (tm 20) (tm 23) (.lit (.bool false))),
 ap 25 (.mov (tm 24)),
 aT 26 25 (.faddr 3 (tm 2)),
 aT 27 25 (.load false 1 (tm 26)),
 aT 28 25 (.call (.fn 56) [(tm 27), (zi 0), (zi 12)]),
 ap 29 (.pick (tm 25) (tm 28) (.lit (.bool false))),
 ap 30 (.mov (tm 29)),
 aT 31 30 (.faddr 4 (tm 2)),
 aT 32 30 (.load false 1 (tm 31)),
 aT 33 30 (.len (tm 32)),
 aT 34 30 (.bin .leq (tm 33) (zi 4)),
 ap 35 (.pick (tm 30) (tm 34) (.lit (.bool false))),
 ap 36 (.call (.fn 55) [(tm 35), (zi 1)])])
 (.seq (.seq (.reg [ap 37 (.faddr 4 (tm 2)),
 ap 38 (.load false 1 (tm 37)),
 ap 39 (.len (tm 38)),
 ap 40 (.mov (zi 0))])
 (.block 0 (.loop (.seq (.reg [ap 41 (.bin .lss (tm 40) (tm 39))])
 (.seq (.cond (tm 41) (.skip)
 (.exit 0))
 (.seq (.block 1 (.seq (.reg [ap 42 (.iaddr 1 (tm 38) (tm 40)),
 ap 43 (.load false 1 (tm 42)),
 ap 6 (.mov (tm 43))])
 (.seq (.reg [ap 44 (.mov (tm 6)),
 ap 45 (.len (tm 44)),
 ap 46 (.bin .leq (tm 45) (zi 5)),
 ap 47 (.call (.fn 55) [(tm 46), (zi 1)])])
 (.seq (.reg [ap 7 (.mov (zi 0))])
 (.seq (.reg [ap 48 (.mov (tm 6)),
 ap 49 (.len (tm 48)),
 ap 50 (.mov (zi 0))])
 (.block 2 (.loop (.seq (.reg [ap 51 (.bin .lss (tm 50) (tm 49))])
 (.seq (.cond (tm 51) (.skip)
 (.exit 2))
 (.seq (.block 3 (.seq (.reg [ap 52 (.iaddr 5 (tm 48) (tm 50)),
 ap 53 (.load true 5 (tm 52)),
 ap 9 (.alloc [(.int .i64 0), (.int .i64 0), (.int .i64 0), (.int .i64 0), (.int .i64 0)]),
 aU (.store 5 (tm 9) (tm 53))])
 (.seq (.reg [ap 54 (.faddr 0 (tm 9)),
 ap 55 (.load false 1 (tm 54)),
 ap 56 (.mov (tm 7)),
 ap 57 (.faddr 3 (tm 2)),
 ap 58 (.load false 1 (tm 57)),
 ap 59 (.call (.fn 56) [(tm 55), (tm 56), (tm 58)]),
 ap 60 (.mov (tm 59)),
 aT 61 60 (.faddr 1 (tm 9)),
 aT 62 60 (.load true 2 (tm 61)),
 aT 63 60 (.faddr 0 (tm 2)),
 aT 64 60 (.load false 1 (tm 63)),
 aT 65 60 (.bin .sub (tm 64) (zi 1)),
 aT 66 60 (.call (.fn 57) [(tm 62), (tm 65)]),
 ap 67 (.pick (tm 60) (tm 66) (.lit (.bool false))),
 ap 68 (.mov (tm 67)),
 aT 69 68 (.faddr 3 (tm 9)),
 aT 70 68 (.load true 2 (tm 69)),
 aT 71 68 (.faddr 1 (tm 2)),
 aT 72 68 (.load false 1 (tm 71)),
 aT 73 68 (.bin .sub (tm 72) (zi 1)),
 aT 74 68 (.call (.fn 57) [(tm 70), (tm 73)]),
 ap 75 (.pick (tm 68) (tm 74) (.lit (.bool false))),
 ap 76 (.call (.fn 55) [(tm 75), (zi 1)])])
 (.reg [ap 77 (.faddr 0 (tm 9)),
 ap 78 (.load false 1 (tm 77)),
 ap 7 (.mov (tm 78))]))))
 (.reg [ap 79 (.bin .add (tm 50) (zi 1)),
 ap 50 (.mov (tm 79))])))))))))))
 (.reg [ap 80 (.bin .add (tm 40) (zi 1)),
 ap 40 (.mov (tm 80))])))))))
 (.seq (.reg [ap 81 (.mov (tm 1)),
 ap 82 (.call (.fn 55) [(tm 81), (zi 2)])])
 (.seq (.reg [ap 83 (.load true 5 (tm 2)),
 ap 84 (.mkmap (some [(some .i64), (some .i64), (some .i64), (some .i64)], none)),
 ap 85 (.build [(.int .i64 0), (.int .i64 0), (.int .i64 0), (.int .i64 0), (.slice none 0 0), (.int .u64 0), (.int .u64 0), (.int .u64 0), (.map none)] [(0, 5, (tm 83)), (8, 1, (tm 84))]),
 ap 86 (.box (tm 85)),
 ap 10 (.mov (tm 86))])
 (.seq (.seq (.reg [ap 87 (.faddr 0 (tm 2)),
 ap 88 (.load false 1 (tm 87)),
 ap 89 (.faddr 1 (tm 2)),
 ap 90 (.load false 1 (tm 89)),
 ap 91 (.bin .mul (tm 88) (tm 90)),
 ap 92 (.mov (zi 0))])
 (.block 4 (.loop (.seq (.reg [ap 93 (.bin .lss (tm 92) (tm 91))])
 (.seq (.cond (tm 93) (.skip)
 (.exit 4))
 (.seq (.block 5 (.seq (.reg [ap 94 (.mov (tm 92)),
 ap 11 (.mov (tm 94))])
 (.seq (.draw (.step (ap 95 (.mov (tm 10))) (
 .step (ap 96 (.nilck (tm 95))) (
 .step (ap 97 (.faddr 5 (tm 96))) (
 .step (ap 98 (.load false 1 (tm 97))) (
 .step (ap 99 (.mov (tm 11))) (
 .step (ap 100 (.bin .shl (.lit (.int .u64 1)) (tm 99))) (
 .step (ap 101 (.bin .or (tm 98) (tm 100))) (
 .step (ap 102 (.nilck (tm 95))) (
 .step (ap 103 (.faddr 5 (tm 102))) (
 .ev (aU (.store 1 (tm 103) (tm 101))) [ap 102 (.nilck (tm 95))] (
 .done)
 (.stop))))))))))))
 (.seq (.block 6 (.seq (.reg [ap 105 (.mov (tm 11)),
 ap 106 (.faddr 0 (tm 2)),
 ap 107 (.load false 1 (tm 106)),
 ap 108 (.bin .rem (tm 105) (tm 107)),
 ap 109 (.bin .eql (tm 108) (zi 0)),
 ap 104 (.mov (tm 109))])
 (.cond (tm 104) (.draw (.step (ap 110 (.mov (tm 10))) (
 .step (ap 111 (.nilck (tm 110))) (
 .step (ap 112 (.faddr 6 (tm 111))) (
 .step (ap 113 (.load false 1 (tm 112))) (
 .step (ap 114 (.mov (tm 11))) (
 .step (ap 115 (.bin .shl (.lit (.int .u64 1)) (tm 114))) (
 .step (ap 116 (.bin .or (tm 113) (tm 115))) (
 .step (ap 117 (.nilck (tm 110))) (
 .step (ap 118 (.faddr 6 (tm 117))) (
 .ev (aU (.store 1 (tm 118) (tm 116))) [ap 117 (.nilck (tm 110))] (
 .done)
 (.stop))))))))))))
 (.skip))))
 (.block 7 (.seq (.draw (.step (ap 120 (.mov (tm 11))) (
 .step (ap 121 (.faddr 0 (tm 2))) (
 .step (ap 122 (.load false 1 (tm 121))) (
 .step (ap 123 (.bin .rem (tm 120) (tm 122))) (
 .step (ap 124 (.faddr 0 (tm 2))) (
 .step (ap 125 (.load false 1 (tm 124))) (
 .step (ap 126 (.bin .sub (tm 125) (zi 1))) (
 .step (ap 127 (.bin .eql (tm 123) (tm 126))) (
 .step (ap 119 (.mov (tm 127))) (
 .done)))))))))))
 (.cond (tm 119) (.draw (.step (ap 128 (.mov (tm 10))) (
 .step (ap 129 (.nilck (tm 128))) (
 .step (ap 130 (.faddr 7 (tm 129))) (
 .step (ap 131 (.load false 1 (tm 130))) (
 .step (ap 132 (.mov (tm 11))) (
 .step (ap 133 (.bin .shl (.lit (.int .u64 1)) (tm 132))) (
 .step (ap 134 (.bin .or (tm 131) (tm 133))) (
 .step (ap 135 (.nilck (tm 128))) (
 .step (ap 136 (.faddr 7 (tm 135))) (
 .ev (aU (.store 1 (tm 136) (tm 134))) [ap 135 (.nilck (tm 128))] (
 .done)
 (.stop))))))))))))
 (.skip))))))))
 (.reg [ap 137 (.bin .add (tm 92) (zi 1)),
 ap 92 (.mov (tm 137))])))))))
 (.seq (.reg [ap 138 (.mov (tm 10)),
 ap 4 (.mov (tm 138))])
 (.ret)))))))
theorem k33 : FnC Tryz.prog 33 139 [] [] [.tmp 4] c33 2 := ⟨Tryz.f33, _, Tryz.func33, rfl, by decide, rfl, by decide, by kernel_rfl, by kernel_rfl⟩
def c34 : AC :=
 .seq (.reg [ap 2 (.box (tm 0)),
 ap 4 (.mov (.lit (.bool false)))])
 (.seq (.reg [ap 5 (.mov (tm 1)),
 ap 6 (.faddr 4 (tm 2)),
 ap 7 (.load false 1 (tm 6)),
 ap 8 (.len (tm 7)),
 ap 9 (.bin .sub (tm 8) (zi 1)),
 ap 10 (.call (.fn 56) [(tm 5), (zi 0), (tm 9)]),
 ap 4 (.mov (tm 10))])
 (.ret))
theorem k34 : FnC Tryz.prog 34 11 [] [] [.tmp 4] c34 2 := ⟨Tryz.f34, _, Tryz.func34, rfl, by decide, rfl, by decide, by kernel_rfl, by kernel_rfl⟩
def c35 : AC :=
 .seq (.reg [ap 2 (.box (tm 0)),
 ap 4 (.mov (.lit (.bool false)))])
 (.seq (.reg [ap 5 (.mov (tm 1)),
 ap 6 (.faddr 3 (tm 2)),
 ap 7 (.load false 1 (tm 6)),
 ap 8 (.call (.fn 56) [(tm 5), (zi 0), (tm 7)]),
 ap 4 (.mov (tm 8))])
 (.ret))
theorem k35 : FnC Tryz.prog 35 9 [] [] [.tmp 4] c35 2 := ⟨Tryz.f35, _, Tryz.func35, rfl, by decide, rfl, by decide, by kernel_rfl, by kernel_rfl⟩
def c37 : AC :=
 .seq (.reg [ap 4 (.alloc [(.int .u64 0), (.int .u64 0), (.int .u64 0), (.int .u64 0), (.int .u64 0), (.int .u64 0), (.int .u64 0), (.int .u64 0), (.int .u64 0), (.int .u64 0), (.int .u64 0), (.int .u64 0), (.int .u64 0)])])
 (.seq (.reg [ap 5 (.mov (tm 0)),
 ap 6 (.mov (tm 0)),
 ap 7 (.mov (tm 1)),
 ap 8 (.call (.fn 61) [(tm 6), (tm 7)]),
 ap 9 (.call (.fn 60) [(tm 5), (tm 8)]),
 ap 10 (.call (.fn 55) [(tm 9), (zi 10)])])
 (.seq (.reg [ap 11 (.mov (tm 0)),
 ap 12 (.mov (tm 0)),
 ap 13 (.mov (tm 1)),
 ap 14 (.call (.fn 61) [(tm 12), (tm 13)]),
 ap 15 (.call (.fn 62) [(tm 11), (tm 14)]),
 aU (.store 13 (tm 4) (tm 15))])
 (.ret)))
theorem k37 : FnC Tryz.prog 37 16 [4] [] [.cell 4 true 13] c37 2 := ⟨Tryz.f37, _, Tryz.func37, rfl, by decide, rfl, by decide, by kernel_rfl, by kernel_rfl⟩
def c36 : AC :=
 .seq (.reg [ap 4 (.alloc [(.int .i64 0), (.int .i64 0)])])
 (.seq (.draw (.step (ap 5 (.mov (tm 1))) (
 .step (ap 7 (.mov (tm 0))) (
 .step (ap 8 (.nilck (tm 7))) (
 .step (ap 9 (.faddr 0 (tm 8))) (
 .step (ap 10 (.faddr 0 (tm 9))) (
 .step (ap 11 (.load false 1 (tm 10))) (
 .step (ap 13 (.mov (tm 1))) (
 .step (ap 16 (.mov (tm 0))) (
 .step (ap 17 (.nilck (tm 16))) (
 .step (ap 18 (.faddr 0 (tm 17))) (
 .step (ap 19 (.faddr 0 (tm 18))) (
 .step (ap 20 (.load false 1 (tm 19))) (
 .ev (ap 6 (.call (.fn 58) [(tm 5)])) [ap 20 (.load false 1 (tm 19)), ap 19 (.faddr 0 (tm 18)), ap 18 (.faddr 0 (tm 17)), ap 17 (.nilck (tm 16)), ap 11 (.load false 1 (tm 10)), ap 10 (.faddr 0 (tm 9)), ap 9 (.faddr 0 (tm 8)), ap 8 (.nilck (tm 7))] (
 .step (ap 12 (.bin .quo (tm 6) (tm 11))) (
 .ev (ap 14 (.call (.fn 59) [(tm 13)])) [ap 20 (.load false 1 (tm 19)), ap 19 (.faddr 0 (tm 18)), ap 18 (.faddr 0 (tm 17)), ap 17 (.nilck (tm 16)), ap 11 (.load false 1 (tm 10)), ap 10 (.faddr 0 (tm 9)), ap 9 (.faddr 0 (tm 8)), ap 8 (.nilck (tm 7))] (
 .step (ap 15 (.bin .sub (tm 14) (zi 1))) (
 .step (ap 21 (.bin .quo (tm 15) (tm 20))) (
 .step (ap 22 (.build [(.int .i64 0), (.int .i64 0)] [(0, 1, (tm 12)), (1, 1, (tm 21))])) (
 .ev (aU (.store 2 (tm 4) (tm 22))) [] (
 .done)
 (.stop)))))
 (.stop)))
 (.stop)))))))))))))))
 (.ret))
theorem k36 : FnC Tryz.prog 36 23 [4] [] [.cell 4 true 2] c36 2 := ⟨Tryz.f36, _, Tryz.func36, rfl, by decide, rfl, by decide, by kernel_rfl, by kernel_rfl⟩
def c44 : AC :=
 .seq (.reg [ap 2 (.box (tm 0)),
 ap 3 (.box (tm 1)),
 ap 4 (.alloc [(.int .i64 0), (.int .i64 0)])])
 (.seq (.reg [ap 9 (.load false 1 (tm 2)),
 ap 10 (.load false 1 (tm 3)),
 ap 11 (.call (.fn 37) [(tm 9), (tm 10)]),
 ap 5 (.alloc [(.int .u64 0), (.int .u64 0), (.int .u64 0), (.int .u64 0), (.int .u64 0), (.int .u64 0), (.int .u64 0), (.int .u64 0), (.int .u64 0), (.int .u64 0), (.int .u64 0), (.int .u64 0), (.int .u64 0)]),
 aU (.store 13 (tm 5) (tm 11))])
 (.seq (.seq (.gcp)
 (.reg [ap 12 (.load false 1 (tm 2)),
 ap 13 (.nilck (tm 12)),
 ap 14 (.faddr 0 (tm 13)),
 ap 15 (.faddr 3 (tm 14)),
 ap 16 (.load false 1 (tm 15)),
 ap 17 (.bin .add (tm 16) (zi 1)),
 ap 18 (.slc (some 13) 1 (tm 5) none (some (tm 17))),
 ap 19 (.call (.fn 68) [(tm 18)]),
 ap 6 (.mov (tm 19))]))
 (.seq (.reg [ap 21 (.load false 1 (tm 2)),
 ap 22 (.nilck (tm 21)),
 ap 23 (.faddr 0 (tm 22)),
 ap 24 (.faddr 1 (tm 23)),
 ap 25 (.load false 1 (tm 24)),
 ap 26 (.call (.fn 70) [(tm 25)]),
 ap 27 (.mkfn (.func 71) [] [(tm 2), (tm 3)]),
 ap 28 (.build [.nilFunc] [(0, 1, (tm 27))]),
 ap 29 (.call (.fn 69) [(tm 26), (tm 28)]),
 ap 20 (.mov (tm 29)),
 ap 30 (.ext (tm 20) 0),
 ap 31 (.ext (tm 20) 1),
 ap 7 (.mov (tm 30)),
 ap 8 (.mov (tm 31))])
 (.seq (.reg [ap 32 (.load false 1 (tm 2)),
 ap 33 (.mov (tm 6)),
 ap 34 (.call (.fn 36) [(tm 32), (tm 33)]),
 ap 35 (.field 0 false 1 (tm 34)),
 ap 36 (.mov (tm 7)),
 ap 37 (.build [(.int .i64 0), (.int .i64 0)] [(0, 1, (tm 35)), (1, 1, (tm 36))]),
 aU (.store 2 (tm 4) (tm 37))])
 (.ret)))))
theorem k44 : FnC Tryz.prog 44 38 [4] [2] [.cell 4 true 2] c44 2 := ⟨Tryz.f44, _, Tryz.func44, rfl, by decide, rfl, by decide, by kernel_rfl, by kernel_rfl⟩
def c56 : AC :=
 .seq (.reg [ap 6 (.mov (.lit (.bool false)))])
 (.seq (.reg [ap 7 (.mov (tm 1)),
 ap 8 (.mov (tm 0)),
 ap 9 (.bin .leq (tm 7) (tm 8)),
 ap 10 (.mov (tm 9)),
 aT 11 10 (.mov (tm 0)),
 aT 12 10 (.mov (tm 2)),
 aT 13 10 (.bin .leq (tm 11) (tm 12)),
 ap 14 (.pick (tm 10) (tm 13) (.lit (.bool false))),
 ap 6 (.mov (tm 14))])
 (.ret))
theorem k56 : FnC Tryz.prog 56 15 [] [] [.tmp 6] c56 3 := ⟨Tryz.f56, _, Tryz.func56, rfl, by decide, rfl, by decide, by kernel_rfl, by kernel_rfl⟩
def c93 : AC :=
 .seq (.reg [ap 2 (.box (tm 0)),
 ap 3 (.box (tm 1)),
 ap 4 (.mov (.lit .nilFunc))])
 (.seq (.reg [ap 5 (.mkfn (.func 111) [] [(tm 2), (tm 3)]),
 ap 4 (.mov (tm 5))])
 (.ret))
theorem k93 : FnC Tryz.prog 93 6 [] [] [.tmp 4] c93 2 := ⟨Tryz.f93, _, Tryz.func93, rfl, by decide, rfl, by decide, by kernel_rfl, by kernel_rfl⟩
def c69 : AC :=
 .seq (.reg [ap 3 (.box (tm 1)),
 ap 4 (.mov (zi 0)),
 ap 5 (.mov (.lit (.bool false)))])
 (.seq (.seq (.reg [ap 8 (.mov (tm 0)),
 ap 9 (.len (tm 8)),
 ap 10 (.mov (zi 0))])
 (.block 0 (.loop (.seq (.reg [ap 11 (.bin .lss (tm 10) (tm 9))])
 (.seq (.cond (tm 11) (.skip)
 (.exit 0))
 (.seq (.block 1 (.seq (.reg [ap 12 (.iaddr 1 (tm 8) (tm 10)),
 ap 13 (.load false 1 (tm 12)),
 ap 7 (.mov (tm 13))])
 (.seq (.reg [ap 14 (.faddr 0 (tm 3)),
 ap 15 (.load false 1 (tm 14)),
 ap 16 (.mov (tm 7)),
 ap 17 (.call (tm 15) [(tm 16)])])
 (.cond (tm 17) (.seq (.reg [ap 18 (.mov (tm 7)),
 ap 4 (.mov (tm 18)),
 ap 5 (.mov (.lit (.bool true)))])
 (.ret))
 (.skip)))))
 (.reg [ap 19 (.bin .add (tm 10) (zi 1)),
 ap 10 (.mov (tm 19))])))))))
 (.seq (.reg [ap 20 (.mov (tm 4)),
 ap 4 (.mov (tm 20)),
 ap 5 (.mov (.lit (.bool false)))])
 (.ret)))
theorem k69 : FnC Tryz.prog 69 21 [] [] [.tmp 4, .tmp 5] c69 2 := ⟨Tryz.f69, _, Tryz.func69, rfl, by decide, rfl, by decide, by kernel_rfl, by kernel_rfl⟩
def c70 : AC :=
 .seq (.reg [ap 2 (.mov (.lit (.slice none 0 0)))])
 (.seq (.seq (.reg [ap 4 (.mov (tm 0)),
 ap 5 (.bin .add (tm 4) (zi 1)),
 ap 6 (.mov (zi 0))])
 (.block 0 (.loop (.seq (.reg [ap 7 (.bin .lss (tm 6) (tm 5))])
 (.seq (.cond (tm 7) (.skip)
 (.exit 0))
 (.seq (.block 1 (.seq (.reg [ap 8 (.mov (tm 6)),
 ap 3 (.mov (tm 8))])
 (.reg [ap 9 (.mov (tm 2)),
 ap 10 (.mov (tm 3)),
 ap 11 (.bslice 1 (.int .i64 0) 1 [(0, (tm 10))]),
 ap 12 (.app 1 8 (tm 9) (tm 11)),
 ap 2 (.mov (tm 12))])))
 (.reg [ap 13 (.bin .add (tm 6) (zi 1)),
 ap 6 (.mov (tm 13))])))))))
 (.seq (.reg [ap 14 (.mov (tm 2)),
 ap 2 (.mov (tm 14))])
 (.ret)))
theorem k70 : FnC Tryz.prog 70 15 [] [] [.tmp 2] c70 1 := ⟨Tryz.f70, _, Tryz.func70, rfl, by decide, rfl, by decide, by kernel_rfl, by kernel_rfl⟩
def c60 : AC :=
 .seq (.reg [ap 3 (.box (tm 1)),
 ap 4 (.mov (.lit (.bool false)))])
 (.seq (.reg [ap 5 (.mov (tm 0)),
 ap 6 (.load true 4 (tm 3)),
 ap 7 (.call (.fn 62) [(tm 5), (tm 6)]),
 ap 8 (.aidx 13 false 1 (tm 7) (zi 0)),
 ap 9 (.bin .neq (tm 8) (.lit (.int .u64 0))),
 ap 4 (.mov (tm 9))])
 (.ret))
theorem k60 : FnC Tryz.prog 60 10 [] [] [.tmp 4] c60 2 := ⟨Tryz.f60, _, Tryz.func60, rfl, by decide, rfl, by decide, by kernel_rfl, by kernel_rfl⟩
def c55 : AC :=
 .seq (.reg [ap 4 (.mov (tm 0)),
 ap 5 (.un .not (tm 4))])
 (.cond (tm 5) (.reg [ap 6 (.mov (tm 1)),
 ap 7 (.mkif 127 (tm 6)),
 aU (.pan (tm 7))])
 (.skip))
theorem k55 : FnC Tryz.prog 55 8 [] [] [] c55 2 := ⟨Tryz.f55, _, Tryz.func55, rfl, by decide, rfl, by decide, by kernel_rfl, by kernel_rfl⟩
def c74 : AC :=
 .seq (.reg [ap 2 (.mov (zi 0))])
 (.seq (.cond (.lit (.bool false)) (.seq (.reg [ap 3 (.mov (tm 0)),
 ap 4 (.conv .u32 (tm 3)),
 ap 5 (.call (.fn 99) [(tm 4)]),
 ap 2 (.mov (tm 5))])
 (.ret))
 (.skip))
 (.seq (.reg [ap 6 (.mov (tm 0)),
 ap 7 (.call (.fn 100) [(tm 6)]),
 ap 2 (.mov (tm 7))])
 (.ret)))
theorem k74 : FnC Tryz.prog 74 8 [] [] [.tmp 2] c74 1 := ⟨Tryz.f74, _, Tryz.func74, rfl, by decide, rfl, by decide, by kernel_rfl, by kernel_rfl⟩
def c61 : AC :=
 .seq (.reg [ap 4 (.alloc [(.int .i64 0), (.int .i64 0), (.int .i64 0), (.int .i64 0)])])
 (.seq (.reg [ap 5 (.mov (tm 1)),
 ap 6 (.mov (tm 0)),
 ap 7 (.nilck (tm 6)),
 ap 8 (.faddr 0 (tm 7)),
 ap 9 (.faddr 2 (tm 8)),
 ap 10 (.load false 1 (tm 9)),
 ap 11 (.build [(.int .i64 0), (.int .i64 0), (.int .i64 0), (.int .i64 0)] [(0, 1, (tm 5)), (3, 1, (tm 10))]),
 aU (.store 4 (tm 4) (tm 11))])
 (.ret))
theorem k61 : FnC Tryz.prog 61 12 [4] [] [.cell 4 true 4] c61 2 := ⟨Tryz.f61, _, Tryz.func61, rfl, by decide, rfl, by decide, by kernel_rfl, by kernel_rfl⟩
def c57 : AC :=
 .seq (.reg [ap 2 (.box (tm 0)),
 ap 4 (.mov (.lit (.bool false)))])
 (.seq (.reg [ap 5 (.faddr 0 (tm 2)),
 ap 6 (.load false 1 (tm 5)),
 ap 7 (.bin .leq (zi 0) (tm 6)),
 ap 8 (.mov (tm 7)),
 aT 9 8 (.faddr 0 (tm 2)),
 aT 10 8 (.load false 1 (tm 9)),
 aT 11 8 (.faddr 1 (tm 2)),
 aT 12 8 (.load false 1 (tm 11)),
 aT 13 8 (.bin .leq (tm 10) (tm 12)),
 ap 14 (.pick (tm 8) (tm 13) (.lit (.bool false))),
 ap 15 (.mov (tm 14)),
 aT 16 15 (.faddr 1 (tm 2)),
 aT 17 15 (.load false 1 (tm 16)),
 aT 18 15 (.mov (tm 1)),
 aT 19 15 (.bin .leq (tm 17) (tm 18)),
 ap 20 (.pick (tm 15) (tm 19) (.lit (.bool false))),
 ap 4 (.mov (tm 20))])
 (.ret))
theorem k57 : FnC Tryz.prog 57 21 [] [] [.tmp 4] c57 2 := ⟨Tryz.f57, _, Tryz.func57, rfl, by decide, rfl, by decide, by kernel_rfl, by kernel_rfl⟩
def c62 : AC :=
 .seq (.reg [ap 2 (.box (tm 0)),
 ap 3 (.box (tm 1)),
 ap 4 (.alloc [(.int .u64 0), (.int .u64 0), (.int .u64 0), (.int .u64 0), (.int .u64 0), (.int .u64 0), (.int .u64 0), (.int .u64 0), (.int .u64 0), (.int .u64 0), (.int .u64 0), (.int .u64 0), (.int .u64 0)])])
 (.seq (.seq (.draw (.step (ap 18 (.load false 1 (tm 2))) (
 .step (ap 19 (.nilck (tm 18))) (
 .step (ap 20 (.faddr 8 (tm 19))) (
 .step (ap 21 (.load false 1 (tm 20))) (
 .step (ap 22 (.load true 4 (tm 3))) (
 .step (ap 23 (.look (some [(some .i64), (some .i64), (some .i64), (some .i64)], none) (.agg #[(.int .u64 0), (.int .u64 0), (.int .u64 0), (.int .u64 0), (.int .u64 0), (.int .u64 0), (.int .u64 0), (.int .u64 0), (.int .u64 0), (.int .u64 0), (.int .u64 0), (.int .u64 0), (.int .u64 0)]) true (tm 21) (tm 22))) (
 .step (ap 17 (.mov (tm 23))) (
 .step (ap 24 (.ext (tm 17) 0)) (
 .step (ap 25 (.ext (tm 17) 1)) (
 .ev (ap 5 (.alloc [(.int .u64 0), (.int .u64 0), (.int .u64 0), (.int .u64 0), (.int .u64 0), (.int .u64 0), (.int .u64 0), (.int .u64 0), (.int .u64 0), (.int .u64 0), (.int .u64 0), (.int .u64 0), (.int .u64 0)])) [ap 23 (.look (some [(some .i64), (some .i64), (some .i64), (some .i64)], none) (.agg #[(.int .u64 0), (.int .u64 0), (.int .u64 0), (.int .u64 0), (.int .u64 0), (.int .u64 0), (.int .u64 0), (.int .u64 0), (.int .u64 0), (.int .u64 0), (.int .u64 0), (.int .u64 0), (.int .u64 0)]) true (tm 21) (tm 22)), ap 22 (.load true 4 (tm 3)), ap 21 (.load false 1 (tm 20)), ap 20 (.faddr 8 (tm 19)), ap 19 (.nilck (tm 18)), ap 18 (.load false 1 (tm 2))] (
 .ev (aU (.store 13 (tm 5) (tm 24))) [] (
 .step (ap 6 (.mov (tm 25))) (
 .done))
 (.stop))
 (.stop))))))))))))
 (.seq (.reg [ap 26 (.mov (tm 6))])
 (.cond (tm 26) (.seq (.reg [ap 27 (.load true 13 (tm 5)),
 aU (.store 13 (tm 4) (tm 27))])
 (.ret))
 (.skip))))
 (.seq (.reg [ap 28 (.load false 1 (tm 2)),
 ap 29 (.load true 4 (tm 3)),
 ap 30 (.call (.fn 91) [(tm 28), (tm 29)]),
 ap 7 (.alloc [(.slice none 0 0)]),
 aU (.store 1 (tm 7) (tm 30))])
 (.seq (.reg [ap 8 (.alloc [(.int .u64 0), (.int .u64 0), (.int .u64 0), (.int .u64 0), (.int .u64 0), (.int .u64 0), (.int .u64 0), (.int .u64 0), (.int .u64 0), (.int .u64 0), (.int .u64 0), (.int .u64 0), (.int .u64 0)])])
 (.seq (.seq (.reg [ap 31 (.mov (zi 0))])
 (.block 0 (.loop (.seq (.reg [ap 32 (.bin .lss (tm 31) (zi 13))])
 (.seq (.cond (tm 32) (.skip)
 (.exit 0))
 (.seq (.block 1 (.seq (.reg [ap 33 (.mov (tm 31)),
 ap 9 (.mov (tm 33))])
 (.reg [ap 34 (.mov (tm 9)),
 ap 35 (.load false 1 (tm 2)),
 ap 36 (.nilck (tm 35)),
 ap 37 (.faddr 5 (tm 36)),
 ap 38 (.load false 1 (tm 37)),
 ap 39 (.iaddrA 13 1 (tm 8) (tm 34)),
 aU (.store 1 (tm 39) (tm 38))])))
 (.reg [ap 40 (.bin .add (tm 31) (zi 1)),
 ap 31 (.mov (tm 40))])))))))
 (.seq (.reg [ap 41 (.load false 1 (tm 2)),
 ap 42 (.mkfn (.func 92) [(tm 41)] []),
 ap 10 (.alloc [.nilFunc]),
 aU (.store 1 (tm 10) (tm 42))])
 (.seq (.seq (.reg [ap 43 (.bslice 1 (.bool false) 2 [(0, (.lit (.bool false))), (1, (.lit (.bool true)))]),
 ap 44 (.len (tm 43)),
 ap 45 (.mov (zi 0))])
 (.block 2 (.loop (.seq (.reg [ap 46 (.bin .lss (tm 45) (tm 44))])
 (.seq (.cond (tm 46) (.skip)
 (.exit 2))
 (.seq (.block 3 (.seq (.reg [ap 47 (.iaddr 1 (tm 43) (tm 45)),
 ap 48 (.load false 1 (tm 47)),
 ap 12 (.mov (tm 48))])
 (.seq (.reg [ap 49 (.load false 1 (tm 2)),
 ap 50 (.nilck (tm 49)),
 ap 51 (.faddr 5 (tm 50)),
 ap 52 (.load false 1 (tm 51)),
 ap 13 (.alloc [(.int .u64 0)]),
 aU (.store 1 (tm 13) (tm 52))])
 (.seq (.reg [ap 53 (.load false 1 (tm 2)),
 ap 54 (.mov (tm 12)),
 ap 55 (.call (.fn 93) [(tm 53), (tm 54)])])
 (.block 4 (.seq (.gcp)
 (.rangeF (tm 55) 56 (.reg [ap 14 (.mov (tm 56))])
 (.block 5 (.seq (.seq (.reg [ap 57 (.load false 1 (tm 7)),
 ap 58 (.len (tm 57)),
 ap 59 (.mov (zi 0))])
 (.block 6 (.loop (.seq (.reg [ap 60 (.bin .lss (tm 59) (tm 58))])
 (.seq (.cond (tm 60) (.skip)
 (.exit 6))
 (.seq (.block 7 (.seq (.reg [ap 61 (.iaddr 1 (tm 57) (tm 59)),
 ap 62 (.load false 1 (tm 61)),
 ap 16 (.mov (tm 62))])
 (.draw (.step (ap 63 (.load false 1 (tm 13))) (
 .step (ap 64 (.mov (tm 16))) (
 .step (ap 65 (.load false 1 (tm 2))) (
 .step (ap 66 (.mov (tm 14))) (
 .ev (ap 67 (.inv [(253, 145), (255, 147)] (tm 64) [(tm 65), (tm 66)])) [ap 63 (.load false 1 (tm 13))] (
 .step (ap 68 (.bin .and (tm 63) (tm 67))) (
 .ev (aU (.store 1 (tm 13) (tm 68))) [] (
 .done)
 (.stop)))
 (.stop)))))))))
 (.reg [ap 69 (.bin .add (tm 59) (zi 1)),
 ap 59 (.mov (tm 69))])))))))
 (.seq (.draw (.step (ap 70 (.mov (tm 14))) (
 .step (ap 71 (.iaddrA 13 1 (tm 8) (tm 70))) (
 .step (ap 72 (.load false 1 (tm 71))) (
 .step (ap 73 (.load false 1 (tm 13))) (
 .step (ap 74 (.bin .and (tm 72) (tm 73))) (
 .step (ap 75 (.iaddrA 13 1 (tm 8) (tm 70))) (
 .ev (aU (.store 1 (tm 75) (tm 74))) [] (
 .done)
 (.stop)))))))))
 (.seq (.reg [ap 76 (.mov (tm 14)),
 ap 77 (.iaddrA 13 1 (tm 8) (tm 76)),
 ap 78 (.load false 1 (tm 77)),
 aU (.store 1 (tm 13) (tm 78))])
 (.seq (.reg [ap 79 (.faddr 3 (tm 3)),
 ap 80 (.load false 1 (tm 79)),
 ap 81 (.mov (zi 0))])
 (.block 8 (.loop (.seq (.reg [ap 82 (.bin .lss (tm 81) (tm 80))])
 (.seq (.cond (tm 82) (.skip)
 (.exit 8))
 (.seq (.block 9 (.reg [ap 83 (.load false 1 (tm 10)),
 ap 84 (.load false 1 (tm 13)),
 ap 85 (.call (tm 83) [(tm 84)]),
 aU (.store 1 (tm 13) (tm 85))]))
 (.reg [ap 86 (.bin .add (tm 81) (zi 1)),
 ap 81 (.mov (tm 86))]))))))))))))))))))
 (.reg [ap 87 (.bin .add (tm 45) (zi 1)),
 ap 45 (.mov (tm 87))])))))))
 (.seq (.draw (.step (ap 88 (.load false 1 (tm 2))) (
 .step (ap 89 (.nilck (tm 88))) (
 .step (ap 90 (.faddr 8 (tm 89))) (
 .step (ap 91 (.load false 1 (tm 90))) (
 .step (ap 92 (.load true 4 (tm 3))) (
 .step (ap 93 (.load true 13 (tm 8))) (
 .ev (aU (.mput (some [(some .i64), (some .i64), (some .i64), (some .i64)], none) (tm 91) (tm 92) (tm 93))) [] (
 .done)
 (.stop)))))))))
 (.seq (.reg [ap 94 (.load true 13 (tm 8)),
 aU (.store 13 (tm 4) (tm 94))])
 (.ret)))))))))
theorem k62 : FnC Tryz.prog 62 95 [4] [1000000] [.cell 4 true 13] c62 2 := ⟨Tryz.f62, _, Tryz.func62, rfl, by decide, rfl, by decide, by kernel_rfl, by kernel_rfl⟩
def c58 : AC :=
 .seq (.reg [ap 2 (.mov (zi 0))])
 (.seq (.seq (.reg [ap 3 (.mov (tm 0)),
 ap 4 (.bin .eql (tm 3) (.lit (.int .u64 0)))])
 (.cond (tm 4) (.seq (.reg [ap 2 (.mov (zi 64))])
 (.ret))
 (.skip)))
 (.seq (.reg [ap 5 (.mov (tm 0)),
 ap 6 (.mov (tm 0)),
 ap 7 (.un .neg (tm 6)),
 ap 8 (.bin .and (tm 5) (tm 7)),
 ap 9 (.bin .mul (tm 8) (.lit (.int .u64 285870213051353865))),
 ap 10 (.bin .shr (tm 9) (.lit (.int .u64 58))),
 ap 11 (.iaddrA 64 1 (.tr (.ptr (tabT tab64) 0)) (tm 10)),
 ap 12 (.load false 1 (tm 11)),
 ap 13 (.conv .i64 (tm 12)),
 ap 2 (.mov (tm 13))])
 (.ret)))
theorem k58 : FnC Tryz.prog 58 14 [] [] [.tmp 2] c58 1 := ⟨Tryz.f58, _, Tryz.func58, rfl, by decide, rfl, by decide, by kernel_rfl, by kernel_rfl⟩
def c59 : AC :=
 .seq (.reg [ap 2 (.mov (zi 0))])
 (.seq (.seq (.reg [ap 3 (.mov (tm 0)),
 ap 4 (.bin .geq (tm 3) (.lit (.int .u64 4294967296)))])
 (.cond (tm 4) (.seq (.reg [ap 5 (.mov (tm 0)),
 ap 6 (.bin .shr (tm 5) (.lit (.int .u64 32))),
 ap 0 (.mov (tm 6))])
 (.reg [ap 2 (.mov (zi 32))]))
 (.skip)))
 (.seq (.seq (.reg [ap 7 (.mov (tm 0)),
 ap 8 (.bin .geq (tm 7) (.lit (.int .u64 65536)))])
 (.cond (tm 8) (.seq (.reg [ap 9 (.mov (tm 0)),
 ap 10 (.bin .shr (tm 9) (.lit (.int .u64 16))),
 ap 0 (.mov (tm 10))])
 (.reg [ap 11 (.mov (tm 2)),
 ap 12 (.bin .add (tm 11) (zi 16)),
 ap 2 (.mov (tm 12))]))
 (.skip)))
 (.seq (.seq (.reg [ap 13 (.mov (tm 0)),
 ap 14 (.bin .geq (tm 13) (.lit (.int .u64 256)))])
 (.cond (tm 14) (.seq (.reg [ap 15 (.mov (tm 0)),
 ap 16 (.bin .shr (tm 15) (.lit (.int .u64 8))),
 ap 0 (.mov (tm 16))])
 (.reg [ap 17 (.mov (tm 2)),
 ap 18 (.bin .add (tm 17) (zi 8)),
 ap 2 (.mov (tm 18))]))
 (.skip)))
 (.seq (.reg [ap 19 (.mov (tm 2)),
 ap 20 (.mov (tm 0)),
 ap 21 (.conv .u8 (tm 20)),
 ap 22 (.sidx [0, 1, 2, 2, 3, 3, 3, 3, 4, 4, 4, 4, 4, 4, 4, 4, 5, 5, 5, 5, 5, 5, 5, 5, 5, 5, 5, 5, 5, 5, 5, 5, 6, 6, 6, 6, 6, 6, 6, 6, 6, 6, 6, 6, 6, 6, 6, 6, 6, 6, 6, 6, 6, 6, 6, 6, 6, 6, 6, 6, 6, 6, 6, 6, 7, 7, 7, 7, 7, 7, 7, 7, 7, 7, 7, 7, 7, 7, 7, 7, 7, 7, 7, 7, 7, 7, 7, 7, 7, 7, 7, 7, 7, 7, 7, 7, 7, 7, 7, 7, 7, 7, 7, 7, 7, 7, 7, 7, 7, 7, 7, 7, 7, 7, 7, 7, 7, 7, 7, 7, 7, 7, 7, 7, 7, 7, 7, 7, 8, 8, 8, 8, 8, 8, 8, 8, 8, 8, 8, 8, 8, 8, 8, 8, 8, 8, 8, 8, 8, 8, 8, 8, 8, 8, 8, 8, 8, 8, 8, 8, 8, 8, 8, 8, 8, 8, 8, 8, 8, 8, 8, 8, 8, 8, 8, 8, 8, 8, 8, 8, 8, 8, 8, 8, 8, 8, 8, 8, 8, 8, 8, 8, 8, 8, 8, 8, 8, 8, 8, 8, 8, 8, 8, 8, 8, 8, 8, 8, 8, 8, 8, 8, 8, 8, 8, 8, 8, 8, 8, 8, 8, 8, 8, 8, 8, 8, 8, 8, 8, 8, 8, 8, 8, 8, 8, 8, 8, 8, 8, 8, 8, 8, 8, 8, 8, 8, 8, 8, 8, 8, 8, 8, 8, 8, 8, 8] (tm 21)),
 ap 23 (.conv .i64 (tm 22)),
 ap 24 (.bin .add (tm 19) (tm 23)),
 ap 2 (.mov (tm 24))])
 (.ret)))))
theorem k59 : FnC Tryz.prog 59 25 [] [] [.tmp 2] c59 1 := ⟨Tryz.f59, _, Tryz.func59, rfl, by decide, rfl, by decide, by kernel_rfl, by kernel_rfl⟩
def c68 : AC :=
 .seq (.reg [ap 2 (.mov (.lit (.int .u64 0)))])
 (.seq (.seq (.reg [ap 5 (.mov (tm 0)),
 ap 6 (.len (tm 5)),
 ap 7 (.mov (zi 0))])
 (.block 0 (.loop (.seq (.reg [ap 8 (.bin .lss (tm 7) (tm 6))])
 (.seq (.cond (tm 8) (.skip)
 (.exit 0))
 (.seq (.block 1 (.seq (.reg [ap 9 (.iaddr 1 (tm 5) (tm 7)),
 ap 10 (.load false 1 (tm 9)),
 ap 4 (.mov (tm 10))])
 (.reg [ap 11 (.mov (tm 2)),
 ap 12 (.mov (tm 4)),
 ap 13 (.bin .or (tm 11) (tm 12)),
 ap 2 (.mov (tm 13))])))
 (.reg [ap 14 (.bin .add (tm 7) (zi 1)),
 ap 7 (.mov (tm 14))])))))))
 (.seq (.reg [ap 15 (.mov (tm 2)),
 ap 2 (.mov (tm 15))])
 (.ret)))
theorem k68 : FnC Tryz.prog 68 16 [] [] [.tmp 2] c68 1 := ⟨Tryz.f68, _, Tryz.func68, rfl, by decide, rfl, by decide, by kernel_rfl, by kernel_rfl⟩
def c71 : AC :=
 .seq (.reg [ap 4 (.mov (.lit (.bool false)))])
 (.seq (.reg [ap 6 (.load false 1 (tm 1)),
 ap 7 (.load false 1 (tm 2)),
 ap 8 (.call (.fn 61) [(tm 6), (tm 7)]),
 ap 5 (.alloc [(.int .i64 0), (.int .i64 0), (.int .i64 0), (.int .i64 0)]),
 aU (.store 4 (tm 5) (tm 8))])
 (.seq (.reg [ap 9 (.mov (tm 0)),
 ap 10 (.bin .add (tm 9) (zi 1)),
 ap 11 (.faddr 2 (tm 5)),
 aU (.store 1 (tm 11) (tm 10))])
 (.seq (.reg [ap 12 (.load false 1 (tm 1)),
 ap 13 (.load true 4 (tm 5)),
 ap 14 (.call (.fn 60) [(tm 12), (tm 13)]),
 ap 15 (.un .not (tm 14)),
 ap 4 (.mov (tm 15))])
 (.ret))))
theorem k71 : FnC Tryz.prog 71 16 [] [] [.tmp 4] c71 3 := ⟨Tryz.f71, _, Tryz.func71, rfl, by decide, rfl, by decide, by kernel_rfl, by kernel_rfl⟩
def c111 : AC :=
 .scope (.seq (.skip)
 (.seq (.reg [ap 5 (.load false 1 (tm 1)),
 ap 6 (.nilck (tm 5)),
 ap 7 (.faddr 0 (tm 6)),
 ap 8 (.faddr 3 (tm 7)),
 ap 9 (.load false 1 (tm 8)),
 ap 10 (.bin .add (tm 9) (zi 1)),
 ap 11 (.mov (zi 0))])
 (.block 0 (.loop (.seq (.reg [ap 12 (.bin .lss (tm 11) (tm 10))])
 (.seq (.cond (tm 12) (.skip)
 (.exit 0))
 (.seq (.block 1 (.seq (.reg [ap 13 (.mov (tm 11)),
 ap 4 (.mov (tm 13))])
 (.seq (.seq (.reg [ap 14 (.load false 1 (tm 2))])
 (.cond (tm 14) (.reg [ap 15 (.load false 1 (tm 1)),
 ap 16 (.nilck (tm 15)),
 ap 17 (.faddr 0 (tm 16)),
 ap 18 (.faddr 3 (tm 17)),
 ap 19 (.load false 1 (tm 18)),
 ap 20 (.mov (tm 4)),
 ap 21 (.bin .sub (tm 19) (tm 20)),
 ap 4 (.mov (tm 21))])
 (.skip)))
 (.seq (.reg [ap 22 (.mov (tm 0)),
 ap 23 (.mov (tm 4)),
 ap 24 (.call (tm 22) [(tm 23)]),
 ap 25 (.un .not (tm 24))])
 (.cond (tm 25) (.exit 0)
 (.skip))))))
 (.reg [ap 26 (.bin .add (tm 11) (zi 1)),
 ap 11 (.mov (tm 26))]))))))))
theorem k111 : FnC Tryz.prog 111 27 [] [] [] c111 3 := ⟨Tryz.f111, _, Tryz.func111, rfl, by decide, rfl, by decide, by kernel_rfl, by kernel_rfl⟩
def c100 : AC :=
 .seq (.reg [ap 2 (.mov (zi 0))])
 (.seq (.reg [ap 3 (.mov (tm 0)),
 ap 4 (.bin .shr (tm 3) (.lit (.int .u64 1))),
 ap 5 (.bin .and (tm 4) (.lit (.int .u64 6148914691236517205))),
 ap 6 (.mov (tm 0)),
 ap 7 (.bin .and (tm 6) (.lit (.int .u64 6148914691236517205))),
 ap 8 (.bin .add (tm 5) (tm 7)),
 ap 0 (.mov (tm 8))])
 (.seq (.reg [ap 9 (.mov (tm 0)),
 ap 10 (.bin .shr (tm 9) (.lit (.int .u64 2))),
 ap 11 (.bin .and (tm 10) (.lit (.int .u64 3689348814741910323))),
 ap 12 (.mov (tm 0)),
 ap 13 (.bin .and (tm 12) (.lit (.int .u64 3689348814741910323))),
 ap 14 (.bin .add (tm 11) (tm 13)),
 ap 0 (.mov (tm 14))])
 (.seq (.reg [ap 15 (.mov (tm 0)),
 ap 16 (.bin .shr (tm 15) (.lit (.int .u64 4))),
 ap 17 (.mov (tm 0)),
 ap 18 (.bin .add (tm 16) (tm 17)),
 ap 19 (.bin .and (tm 18) (.lit (.int .u64 1085102592571150095))),
 ap 0 (.mov (tm 19))])
 (.seq (.reg [ap 20 (.mov (tm 0)),
 ap 21 (.mov (tm 0)),
 ap 22 (.bin .shr (tm 21) (.lit (.int .u64 8))),
 ap 23 (.bin .add (tm 20) (tm 22)),
 ap 0 (.mov (tm 23))])
 (.seq (.reg [ap 24 (.mov (tm 0)),
 ap 25 (.mov (tm 0)),
 ap 26 (.bin .shr (tm 25) (.lit (.int .u64 16))),
 ap 27 (.bin .add (tm 24) (tm 26)),
 ap 0 (.mov (tm 27))])
 (.seq (.reg [ap 28 (.mov (tm 0)),
 ap 29 (.mov (tm 0)),
 ap 30 (.bin .shr (tm 29) (.lit (.int .u64 32))),
 ap 31 (.bin .add (tm 28) (tm 30)),
 ap 0 (.mov (tm 31))])
 (.seq (.reg [ap 32 (.mov (tm 0)),
 ap 33 (.conv .i64 (tm 32)),
 ap 34 (.bin .and (tm 33) (zi 127)),
 ap 2 (.mov (tm 34))])
 (.ret))))))))
theorem k100 : FnC Tryz.prog 100 35 [] [] [.tmp 2] c100 1 := ⟨Tryz.f100, _, Tryz.func100, rfl, by decide, rfl, by decide, by kernel_rfl, by kernel_rfl⟩
def c91 : AC :=
 .seq (.reg [ap 3 (.box (tm 1)),
 ap 4 (.mov (.lit (.slice none 0 0)))])
 (.seq (.reg [ap 8 (.faddr 2 (tm 3)),
 ap 9 (.load false 1 (tm 8)),
 ap 10 (.build [(.int .i64 0)] [(0, 1, (tm 9))]),
 ap 11 (.mkif 253 (tm 10)),
 ap 12 (.bslice 1 .nilIface 1 [(0, (tm 11))]),
 ap 5 (.mov (tm 12))])
 (.seq (.seq (.draw (.step (ap 13 (.mov (tm 0))) (
 .step (ap 14 (.nilck (tm 13))) (
 .step (ap 15 (.faddr 0 (tm 14))) (
 .step (ap 16 (.faddr 4 (tm 15))) (
 .step (ap 17 (.load false 1 (tm 16))) (
 .step (ap 18 (.faddr 0 (tm 3))) (
 .step (ap 19 (.load false 1 (tm 18))) (
 .step (ap 20 (.iaddr 1 (tm 17) (tm 19))) (
 .step (ap 21 (.load false 1 (tm 20))) (
 .step (ap 22 (.len (tm 21))) (
 .step (ap 23 (.mov (zi 0))) (
 .done)))))))))))))
 (.block 0 (.loop (.seq (.reg [ap 24 (.bin .lss (tm 23) (tm 22))])
 (.seq (.cond (tm 24) (.skip)
 (.exit 0))
 (.seq (.block 1 (.seq (.reg [ap 25 (.mov (tm 23)),
 ap 26 (.iaddr 5 (tm 21) (tm 23)),
 ap 27 (.load true 5 (tm 26)),
 ap 7 (.alloc [(.int .i64 0), (.int .i64 0), (.int .i64 0), (.int .i64 0), (.int .i64 0)]),
 ap 6 (.mov (tm 25)),
 aU (.store 5 (tm 7) (tm 27))])
 (.seq (.reg [ap 28 (.faddr 1 (tm 3)),
 ap 29 (.load false 1 (tm 28)),
 ap 30 (.mov (tm 6)),
 ap 31 (.bin .shr (tm 29) (tm 30)),
 ap 32 (.bin .and (tm 31) (zi 1)),
 ap 33 (.bin .eql (tm 32) (zi 0))])
 (.cond (tm 33) (.reg [ap 34 (.mov (tm 5)),
 ap 35 (.load true 5 (tm 7)),
 ap 36 (.build [(.int .i64 0), (.int .i64 0), (.int .i64 0), (.int .i64 0), (.int .i64 0)] [(0, 5, (tm 35))]),
 ap 37 (.mkif 255 (tm 36)),
 ap 38 (.bslice 1 .nilIface 1 [(0, (tm 37))]),
 ap 39 (.app 1 16 (tm 34) (tm 38)),
 ap 5 (.mov (tm 39))])
 (.skip)))))
 (.reg [ap 40 (.bin .add (tm 23) (zi 1)),
 ap 23 (.mov (tm 40))])))))))
 (.seq (.reg [ap 41 (.mov (tm 5)),
 ap 4 (.mov (tm 41))])
 (.ret))))
theorem k91 : FnC Tryz.prog 91 42 [] [] [.tmp 4] c91 2 := ⟨Tryz.f91, _, Tryz.func91, rfl, by decide, rfl, by decide, by kernel_rfl, by kernel_rfl⟩
def c92 : AC :=
 .seq (.reg [ap 4 (.mov (.lit (.int .u64 0)))])
 (.seq (.draw (.step (ap 5 (.mov (tm 0))) (
 .step (ap 6 (.nilck (tm 5))) (
 .step (ap 7 (.faddr 5 (tm 6))) (
 .step (ap 8 (.load false 1 (tm 7))) (
 .step (ap 9 (.mov (tm 1))) (
 .step (ap 10 (.mov (tm 1))) (
 .step (ap 11 (.mov (tm 0))) (
 .step (ap 12 (.nilck (tm 11))) (
 .step (ap 13 (.faddr 6 (tm 12))) (
 .step (ap 14 (.load false 1 (tm 13))) (
 .step (ap 15 (.bin .andNot (tm 10) (tm 14))) (
 .step (ap 16 (.bin .shr (tm 15) (.lit (.int .u64 1)))) (
 .step (ap 17 (.mov (tm 1))) (
 .step (ap 18 (.mov (tm 0))) (
 .step (ap 19 (.nilck (tm 18))) (
 .step (ap 20 (.faddr 7 (tm 19))) (
 .step (ap 21 (.load false 1 (tm 20))) (
 .step (ap 22 (.bin .andNot (tm 17) (tm 21))) (
 .step (ap 23 (.bin .shl (tm 22) (.lit (.int .u64 1)))) (
 .step (ap 24 (.mov (tm 1))) (
 .step (ap 25 (.mov (tm 0))) (
 .step (ap 26 (.nilck (tm 25))) (
 .step (ap 27 (.faddr 0 (tm 26))) (
 .step (ap 28 (.faddr 0 (tm 27))) (
 .step (ap 29 (.load false 1 (tm 28))) (
 .step (ap 30 (.bin .shr (tm 24) (tm 29))) (
 .step (ap 31 (.mov (tm 1))) (
 .step (ap 32 (.mov (tm 0))) (
 .step (ap 33 (.nilck (tm 32))) (
 .step (ap 34 (.faddr 0 (tm 33))) (
 .step (ap 35 (.faddr 0 (tm 34))) (
 .step (ap 36 (.load false 1 (tm 35))) (
 .step (ap 37 (.bin .shl (tm 31) (tm 36))) (
 .ev (ap 38 (.bslice 1 (.int .u64 0) 5 [(0, (tm 9)), (1, (tm 16)), (2, (tm 23)), (3, (tm 30)), (4, (tm 37))])) [ap 36 (.load false 1 (tm 35)), ap 35 (.faddr 0 (tm 34)), ap 34 (.faddr 0 (tm 33)), ap 33 (.nilck (tm 32)), ap 29 (.load false 1 (tm 28)), ap 28 (.faddr 0 (tm 27)), ap 27 (.faddr 0 (tm 26)), ap 26 (.nilck (tm 25)), ap 21 (.load false 1 (tm 20)), ap 20 (.faddr 7 (tm 19)), ap 19 (.nilck (tm 18)), ap 14 (.load false 1 (tm 13)), ap 13 (.faddr 6 (tm 12)), ap 12 (.nilck (tm 11)), ap 8 (.load false 1 (tm 7)), ap 7 (.faddr 5 (tm 6)), ap 6 (.nilck (tm 5))] (
 .ev (ap 39 (.call (.fn 68) [(tm 38)])) [ap 36 (.load false 1 (tm 35)), ap 35 (.faddr 0 (tm 34)), ap 34 (.faddr 0 (tm 33)), ap 33 (.nilck (tm 32)), ap 29 (.load false 1 (tm 28)), ap 28 (.faddr 0 (tm 27)), ap 27 (.faddr 0 (tm 26)), ap 26 (.nilck (tm 25)), ap 21 (.load false 1 (tm 20)), ap 20 (.faddr 7 (tm 19)), ap 19 (.nilck (tm 18)), ap 14 (.load false 1 (tm 13)), ap 13 (.faddr 6 (tm 12)), ap 12 (.nilck (tm 11)), ap 8 (.load false 1 (tm 7)), ap 7 (.faddr 5 (tm 6)), ap 6 (.nilck (tm 5))] (
 .step (ap 40 (.bin .and (tm 8) (tm 39))) (
 .step (ap 4 (.mov (tm 40))) (
 .done)))
 (.stop))
 (.stop))))))))))))))))))))))))))))))))))))
 (.ret))
theorem k92 : FnC Tryz.prog 92 41 [] [] [.tmp 4] c92 2 := ⟨Tryz.f92, _, Tryz.func92, rfl, by decide, rfl, by decide, by kernel_rfl, by kernel_rfl⟩
def c145 : AC :=
 .seq (.reg [ap 3 (.box (tm 0)),
 ap 6 (.mov (.lit (.int .u64 0)))])
 (.seq (.reg [ap 7 (.mov (tm 1)),
 ap 8 (.faddr 0 (tm 3)),
 ap 9 (.load false 1 (tm 8)),
 ap 10 (.call (.fn 146) [(tm 7), (tm 9)]),
 ap 6 (.mov (tm 10))])
 (.ret))
theorem k145 : FnC Tryz.prog 145 11 [] [] [.tmp 6] c145 3 := ⟨Tryz.f145, _, Tryz.func145, rfl, by decide, rfl, by decide, by kernel_rfl, by kernel_rfl⟩
def c146 : AC :=
 .seq (.reg [ap 4 (.mov (.lit (.int .u64 0)))])
 (.seq (.draw (.step (ap 5 (.mov (tm 0))) (
 .step (ap 6 (.nilck (tm 5))) (
 .step (ap 7 (.faddr 5 (tm 6))) (
 .step (ap 8 (.load false 1 (tm 7))) (
 .step (ap 9 (.mov (tm 1))) (
 .step (ap 10 (.mov (tm 0))) (
 .step (ap 11 (.nilck (tm 10))) (
 .step (ap 12 (.faddr 0 (tm 11))) (
 .step (ap 13 (.faddr 0 (tm 12))) (
 .step (ap 14 (.load false 1 (tm 13))) (
 .step (ap 15 (.bin .mul (tm 9) (tm 14))) (
 .step (ap 16 (.bin .shr (tm 8) (tm 15))) (
 .step (ap 17 (.mov (tm 1))) (
 .step (ap 18 (.mov (tm 0))) (
 .step (ap 19 (.nilck (tm 18))) (
 .step (ap 20 (.faddr 0 (tm 19))) (
 .step (ap 21 (.faddr 0 (tm 20))) (
 .step (ap 22 (.load false 1 (tm 21))) (
 .step (ap 23 (.bin .mul (tm 17) (tm 22))) (
 .step (ap 24 (.bin .shl (tm 16) (tm 23))) (
 .step (ap 4 (.mov (tm 24))) (
 .done)))))))))))))))))))))))
 (.ret))
theorem k146 : FnC Tryz.prog 146 25 [] [] [.tmp 4] c146 2 := ⟨Tryz.f146, _, Tryz.func146, rfl, by decide, rfl, by decide, by kernel_rfl, by kernel_rfl⟩
def c147 : AC :=
 .seq (.reg [ap 3 (.box (tm 0)),
 ap 6 (.mov (.lit (.int .u64 0)))])
 (.seq (.seq (.reg [ap 9 (.mov (tm 2)),
 ap 10 (.faddr 0 (tm 3)),
 ap 11 (.faddr 0 (tm 10)),
 ap 12 (.load false 1 (tm 11)),
 ap 13 (.bin .neq (tm 9) (tm 12))])
 (.cond (tm 13) (.seq (.reg [ap 14 (.mov (tm 1)),
 ap 15 (.nilck (tm 14)),
 ap 16 (.faddr 5 (tm 15)),
 ap 17 (.load false 1 (tm 16)),
 ap 6 (.mov (tm 17))])
 (.ret))
 (.skip)))
 (.seq (.seq (.reg [ap 18 (.faddr 0 (tm 3)),
 ap 19 (.faddr 3 (tm 18)),
 ap 20 (.faddr 0 (tm 19)),
 ap 21 (.load false 1 (tm 20)),
 ap 7 (.mov (tm 21))])
 (.block 0 (.loop (.seq (.seq (.reg [ap 22 (.mov (tm 7)),
 ap 23 (.faddr 0 (tm 3)),
 ap 24 (.faddr 3 (tm 23)),
 ap 25 (.faddr 1 (tm 24)),
 ap 26 (.load false 1 (tm 25)),
 ap 27 (.bin .leq (tm 22) (tm 26))])
 (.cond (tm 27) (.skip)
 (.exit 0)))
 (.seq (.block 1 (.seq (.reg [ap 30 (.faddr 0 (tm 3)),
 ap 31 (.faddr 1 (tm 30)),
 ap 32 (.faddr 0 (tm 31)),
 ap 33 (.load false 1 (tm 32)),
 ap 8 (.mov (tm 33))])
 (.block 2 (.loop (.seq (.seq (.reg [ap 34 (.mov (tm 8)),
 ap 35 (.faddr 0 (tm 3)),
 ap 36 (.faddr 1 (tm 35)),
 ap 37 (.faddr 1 (tm 36)),
 ap 38 (.load false 1 (tm 37)),
 ap 39 (.bin .leq (tm 34) (tm 38))])
 (.cond (tm 39) (.skip)
 (.exit 2)))
 (.seq (.block 3 (.reg [ap 42 (.mov (tm 6)),
 ap 43 (.mov (tm 7)),
 ap 44 (.mov (tm 1)),
 ap 45 (.nilck (tm 44)),
 ap 46 (.faddr 0 (tm 45)),
 ap 47 (.faddr 0 (tm 46)),
 ap 48 (.load false 1 (tm 47)),
 ap 49 (.bin .mul (tm 43) (tm 48)),
 ap 50 (.mov (tm 8)),
 ap 51 (.bin .add (tm 49) (tm 50)),
 ap 52 (.bin .shl (.lit (.int .u64 1)) (tm 51)),
 ap 53 (.bin .or (tm 42) (tm 52)),
 ap 6 (.mov (tm 53))]))
 (.reg [ap 40 (.mov (tm 8)),
 ap 41 (.bin .add (tm 40) (zi 1)),
 ap 8 (.mov (tm 41))])))))))
 (.reg [ap 28 (.mov (tm 7)),
 ap 29 (.bin .add (tm 28) (zi 1)),
 ap 7 (.mov (tm 29))]))))))
 (.seq (.reg [ap 54 (.mov (tm 6)),
 ap 6 (.mov (tm 54))])
 (.ret))))
theorem k147 : FnC Tryz.prog 147 55 [] [] [.tmp 6] c147 3 := ⟨Tryz.f147, _, Tryz.func147, rfl, by decide, rfl, by decide, by kernel_rfl, by kernel_rfl⟩
open Go Go.Ab
def c12 : AC :=
 .seq (.reg [ap 3 (.box (tm 0)),
 ap 6 (.alloc [(.int .i64 0), (.int .i64 0)]),
 ap 7 (.alloc [(.int .i64 0)])])
 (.seq (.reg [aU (.defer 32 [(tm 7)])])
 (.seq (.draw (.step (ap 9 (.load true 5 (tm 3))) (
 .step (ap 10 (.load true 5 (tm 3))) (
 .step (ap 11 (.mov (tm 1))) (
 .ev (ap 12 (.call (.fn 34) [(tm 10), (tm 11)])) [ap 9 (.load true 5 (tm 3))] (
 .step (ap 13 (.mov (tm 12))) (
 .step (aT 14 13 (.load true 5 (tm 3))) (
 .step (aT 15 13 (.mov (tm 2))) (
 .ev (aT 16 13 (.call (.fn 35) [(tm 14), (tm 15)])) [ap 10 (.load true 5 (tm 3)), ap 9 (.load true 5 (tm 3))] (
 .step (ap 17 (.pick (tm 13) (tm 16) (.lit (.bool false)))) (
 .ev (ap 18 (.call (.fn 33) [(tm 9), (tm 17)])) [aT 14 13 (.load true 5 (tm 3)), ap 10 (.load true 5 (tm 3))] (
 .step (ap 8 (.mov (tm 18))) (
 .done))
 (.stop)))
 (.stop)))))
 (.stop))))))
 (.seq (.reg [ap 19 (.mov (tm 8)),
 ap 20 (.mov (tm 8)),
 ap 21 (.mov (tm 1)),
 ap 22 (.call (.fn 37) [(tm 20), (tm 21)]),
 ap 23 (.mov (tm 2)),
 ap 24 (.aidx 13 false 1 (tm 22) (tm 23)),
 ap 25 (.call (.fn 36) [(tm 19), (tm 24)]),
 aU (.store 2 (tm 6) (tm 25)),
 aU (.store 1 (tm 7) (zi 0))])
 (.ret))))
theorem k12 : FnC Tryz.prog 12 26 [6, 7] [] [.cell 6 true 2, .cell 7 false 1] c12 3 := ⟨Tryz.f12, _, Tryz.func12, rfl, by decide, rfl, by decide, by kernel_rfl, by kernel_rfl⟩
def c22 : AC :=
 .seq (.reg [ap 2 (.box (tm 0)),
 ap 4 (.alloc [(.int .i64 0), (.int .i64 0)]),
 ap 5 (.alloc [(.int .i64 0)])])
 (.seq (.reg [aU (.defer 32 [(tm 5)])])
 (.seq (.draw (.step (ap 6 (.load true 5 (tm 2))) (
 .step (ap 7 (.load true 5 (tm 2))) (
 .step (ap 8 (.mov (tm 1))) (
 .step (ap 11 (.mov (tm 1))) (
 .ev (ap 9 (.call (.fn 34) [(tm 7), (tm 8)])) [ap 6 (.load true 5 (tm 2))] (
 .ev (ap 10 (.call (.fn 33) [(tm 6), (tm 9)])) [ap 7 (.load true 5 (tm 2))] (
 .ev (ap 12 (.call (.fn 44) [(tm 10), (tm 11)])) [ap 7 (.load true 5 (tm 2)), ap 6 (.load true 5 (tm 2))] (
 .ev (aU (.store 2 (tm 4) (tm 12))) [] (
 .ev (aU (.store 1 (tm 5) (zi 0))) [] (
 .done)
 (.stop))
 (.stop))
 (.stop))
 (.stop))
 (.stop)))))))
 (.ret)))
theorem k22 : FnC Tryz.prog 22 13 [4, 5] [] [.cell 4 true 2, .cell 5 false 1] c22 2 := ⟨Tryz.f22, _, Tryz.func22, rfl, by decide, rfl, by decide, by kernel_rfl, by kernel_rfl⟩
open Go Go.Ab
def c6 : AC :=
 .seq (.reg [ap 1 (.box (tm 0)),
 ap 2 (.mov (.lit (.bool false)))])
 (.seq (.seq (.reg [ap 7 (.faddr 0 (tm 1)),
 ap 8 (.load false 1 (tm 7)),
 ap 9 (.call (.fn 20) [(tm 8), (zi 1), (zi 8)]),
 ap 10 (.un .not (tm 9)),
 ap 11 (.mov (tm 10)),
 aF 12 11 (.faddr 1 (tm 1)),
 aF 13 11 (.load false 1 (tm 12)),
 aF 14 11 (.call (.fn 20) [(tm 13), (zi 1), (zi 6)]),
 aF 15 11 (.un .not (tm 14)),
 ap 16 (.pick (tm 11) (.lit (.bool true)) (tm 15)),
 ap 17 (.mov (tm 16)),
 aF 18 17 (.faddr 2 (tm 1)),
 aF 19 17 (.load false 1 (tm 18)),
 aF 20 17 (.call (.fn 20) [(tm 19), (zi 0), (zi 3)]),
 aF 21 17 (.un .not (tm 20)),
 ap 22 (.pick (tm 17) (.lit (.bool true)) (tm 21)),
 ap 23 (.mov (tm 22)),
 aF 24 23 (.faddr 3 (tm 1)),
 aF 25 23 (.load false 1 (tm 24)),
 aF 26 23 (.call (.fn 20) [(tm 25), (zi 0), (zi 12)]),
 aF 27 23 (.un .not (tm 26)),
 ap 28 (.pick (tm 23) (.lit (.bool true)) (tm 27)),
 ap 29 (.mov (tm 28)),
 aF 30 29 (.faddr 4 (tm 1)),
 aF 31 29 (.load false 1 (tm 30)),
 aF 32 29 (.len (tm 31)),
 aF 33 29 (.bin .gtr (tm 32) (zi 4)),
 ap 34 (.pick (tm 29) (.lit (.bool true)) (tm 33))])
 (.cond (tm 34) (.seq (.reg [ap 2 (.mov (.lit (.bool false)))])
 (.ret))
 (.skip)))
 (.seq (.seq (.reg [ap 3 (.mov (zi 0))])
 (.block 0 (.loop (.seq (.seq (.reg [ap 35 (.mov (tm 3)),
 ap 36 (.faddr 4 (tm 1)),
 ap 37 (.load false 1 (tm 36)),
 ap 38 (.len (tm 37)),
 ap 39 (.bin .lss (tm 35) (tm 38))])
 (.cond (tm 39) (.skip)
 (.exit 0)))
 (.seq (.block 1 (.seq (.seq (.reg [ap 42 (.faddr 4 (tm 1)),
 ap 43 (.load false 1 (tm 42)),
 ap 44 (.mov (tm 3)),
 ap 45 (.iaddr 1 (tm 43) (tm 44)),
 ap 46 (.load false 1 (tm 45)),
 ap 47 (.len (tm 46)),
 ap 48 (.bin .gtr (tm 47) (zi 5))])
 (.cond (tm 48) (.seq (.reg [ap 2 (.mov (.lit (.bool false)))])
 (.ret))
 (.skip)))
 (.seq (.reg [ap 4 (.mov (zi 0))])
 (.seq (.reg [ap 5 (.mov (zi 0))])
 (.block 2 (.loop (.seq (.seq (.reg [ap 49 (.mov (tm 5)),
 ap 50 (.faddr 4 (tm 1)),
 ap 51 (.load false 1 (tm 50)),
 ap 52 (.mov (tm 3)),
 ap 53 (.iaddr 1 (tm 51) (tm 52)),
 ap 54 (.load false 1 (tm 53)),
 ap 55 (.len (tm 54)),
 ap 56 (.bin .lss (tm 49) (tm 55))])
 (.cond (tm 56) (.skip)
 (.exit 2)))
 (.seq (.block 3 (.seq (.reg [ap 59 (.faddr 4 (tm 1)),
 ap 60 (.load false 1 (tm 59)),
 ap 61 (.mov (tm 3)),
 ap 62 (.iaddr 1 (tm 60) (tm 61)),
 ap 63 (.load false 1 (tm 62)),
 ap 64 (.mov (tm 5)),
 ap 65 (.iaddr 5 (tm 63) (tm 64)),
 ap 66 (.load true 5 (tm 65)),
 ap 6 (.alloc [(.int .i64 0), (.int .i64 0), (.int .i64 0), (.int .i64 0), (.int .i64 0)]),
 aU (.store 5 (tm 6) (tm 66))])
 (.seq (.seq (.reg [ap 67 (.faddr 0 (tm 6)),
 ap 68 (.load false 1 (tm 67)),
 ap 69 (.mov (tm 4)),
 ap 70 (.faddr 3 (tm 1)),
 ap 71 (.load false 1 (tm 70)),
 ap 72 (.call (.fn 20) [(tm 68), (tm 69), (tm 71)]),
 ap 73 (.un .not (tm 72)),
 ap 74 (.mov (tm 73)),
 aF 75 74 (.faddr 1 (tm 6)),
 aF 76 74 (.load true 2 (tm 75)),
 aF 77 74 (.faddr 0 (tm 1)),
 aF 78 74 (.load false 1 (tm 77)),
 aF 79 74 (.bin .sub (tm 78) (zi 1)),
 aF 80 74 (.call (.fn 21) [(tm 76), (tm 79)]),
 aF 81 74 (.un .not (tm 80)),
 ap 82 (.pick (tm 74) (.lit (.bool true)) (tm 81)),
 ap 83 (.mov (tm 82)),
 aF 84 83 (.faddr 3 (tm 6)),
 aF 85 83 (.load true 2 (tm 84)),
 aF 86 83 (.faddr 1 (tm 1)),
 aF 87 83 (.load false 1 (tm 86)),
 aF 88 83 (.bin .sub (tm 87) (zi 1)),
 aF 89 83 (.call (.fn 21) [(tm 85), (tm 88)]),
 aF 90 83 (.un .not (tm 89)),
 ap 91 (.pick (tm 83) (.lit (.bool true)) (tm 90))])
 (.cond (tm 91) (.seq (.reg [ap 2 (.mov (.lit (.bool false)))])
 (.ret))
 (.skip)))
 (.reg [ap 92 (.faddr 0 (tm 6)),
 ap 93 (.load false 1 (tm 92)),
 ap 4 (.mov (tm 93))]))))
 (.reg [ap 57 (.mov (tm 5)),
 ap 58 (.bin .add (tm 57) (zi 1)),
 ap 5 (.mov (tm 58))])))))))))
 (.reg [ap 40 (.mov (tm 3)),
 ap 41 (.bin .add (tm 40) (zi 1)),
 ap 3 (.mov (tm 41))]))))))
 (.seq (.reg [ap 2 (.mov (.lit (.bool true)))])
 (.ret))))
theorem k6 : FnC Tryz.prog 6 94 [] [] [.tmp 2] c6 1 := ⟨Tryz.f6, _, Tryz.func6, rfl, by decide, rfl, by decide, by kernel_rfl, by kernel_rfl⟩
def c20 : AC :=
 .seq (.reg [ap 6 (.mov (.lit (.bool false)))])
 (.seq (.reg [ap 7 (.mov (tm 1)),
 ap 8 (.mov (tm 0)),
 ap 9 (.bin .leq (tm 7) (tm 8)),
 ap 10 (.mov (tm 9)),
 aT 11 10 (.mov (tm 0)),
 aT 12 10 (.mov (tm 2)),
 aT 13 10 (.bin .leq (tm 11) (tm 12)),
 ap 14 (.pick (tm 10) (tm 13) (.lit (.bool false))),
 ap 6 (.mov (tm 14))])
 (.ret))
theorem k20 : FnC Tryz.prog 20 15 [] [] [.tmp 6] c20 3 := ⟨Tryz.f20, _, Tryz.func20, rfl, by decide, rfl, by decide, by kernel_rfl, by kernel_rfl⟩
def c21 : AC :=
 .seq (.reg [ap 2 (.box (tm 0)),
 ap 4 (.mov (.lit (.bool false)))])
 (.seq (.reg [ap 5 (.faddr 0 (tm 2)),
 ap 6 (.load false 1 (tm 5)),
 ap 7 (.bin .leq (zi 0) (tm 6)),
 ap 8 (.mov (tm 7)),
 aT 9 8 (.faddr 0 (tm 2)),
 aT 10 8 (.load false 1 (tm 9)),
 aT 11 8 (.faddr 1 (tm 2)),
 aT 12 8 (.load false 1 (tm 11)),
 aT 13 8 (.bin .leq (tm 10) (tm 12)),
 ap 14 (.pick (tm 8) (tm 13) (.lit (.bool false))),
 ap 15 (.mov (tm 14)),
 aT 16 15 (.faddr 1 (tm 2)),
 aT 17 15 (.load false 1 (tm 16)),
 aT 18 15 (.mov (tm 1)),
 aT 19 15 (.bin .leq (tm 17) (tm 18)),
 ap 20 (.pick (tm 15) (tm 19) (.lit (.bool false))),
 ap 4 (.mov (tm 20))])
 (.ret))
theorem k21 : FnC Tryz.prog 21 21 [] [] [.tmp 4] c21 2 := ⟨Tryz.f21, _, Tryz.func21, rfl, by decide, rfl, by decide, by kernel_rfl, by kernel_rfl⟩
end Go.Proofs.YtbhbbjngndmnmaaGreatDoor.B
namespace Go.Proofs.YtbhbbjngndmnmaaGreatDoor
open Go Go.Ab
def c7 : AC :=
 .seq (.reg [ap 0 (.mov (.lit (.bool false)))])
 (.seq (.reg [ap 7 (.call (.fn 23) []),
 ap 8 (.call (.fn 22) [(tm 7), (zi 1)]),
 ap 6 (.mov (tm 8)),
 ap 9 (.ext (tm 6) 0),
 ap 10 (.ext (tm 6) 1),
 ap 1 (.alloc [(.int .i64 0), (.int .i64 0)]),
 aU (.store 2 (tm 1) (tm 9)),
 ap 2 (.mov (tm 10))])
 (.seq (.reg [ap 12 (.call (.fn 24) []),
 ap 13 (.call (.fn 11) [(tm 12)]),
 ap 11 (.mov (tm 13)),
 ap 14 (.ext (tm 11) 0),
 ap 15 (.ext (tm 11) 1),
 ap 16 (.ext (tm 11) 2),
 ap 3 (.mov (tm 14)),
 ap 4 (.mov (tm 15)),
 ap 5 (.mov (tm 16))])
 (.seq (.draw (.step (ap 17 (.load true 2 (tm 1))) (
 .ev (ap 18 (.call (.fn 9) [(zi 0), (zi 1)])) [ap 17 (.load true 2 (tm 1))] (
 .step (ap 19 (.eqs false [(some .i64), (some .i64)] (tm 17) (tm 18))) (
 .step (ap 20 (.mov (tm 19))) (
 .step (aT 21 20 (.mov (tm 2))) (
 .step (aT 22 20 (.bin .eql (tm 21) (zi 0))) (
 .step (ap 23 (.pick (tm 20) (tm 22) (.lit (.bool false)))) (
 .step (ap 24 (.mov (tm 23))) (
 .step (aT 25 24 (.mov (tm 3))) (
 .step (aT 26 24 (.bin .eql (tm 25) (zi 12))) (
 .step (ap 27 (.pick (tm 24) (tm 26) (.lit (.bool false)))) (
 .step (ap 28 (.mov (tm 27))) (
 .step (aT 29 28 (.mov (tm 4))) (
 .step (aT 30 28 (.bin .eql (tm 29) (zi 62))) (
 .step (ap 31 (.pick (tm 28) (tm 30) (.lit (.bool false)))) (
 .step (ap 32 (.mov (tm 31))) (
 .step (aT 33 32 (.mov (tm 5))) (
 .step (aT 34 32 (.bin .eql (tm 33) (zi 0))) (
 .step (ap 35 (.pick (tm 32) (tm 34) (.lit (.bool false)))) (
 .step (ap 36 (.mov (tm 35))) (
 .ev (aT 37 36 (.call (.fn 25) [])) [ap 19 (.eqs false [(some .i64), (some .i64)] (tm 17) (tm 18)), ap 17 (.load true 2 (tm 1))] (
 .step (ap 38 (.pick (tm 36) (tm 37) (.lit (.bool false)))) (
 .step (ap 0 (.mov (tm 38))) (
 .done)))
 (.stop))))))))))))))))))))
 (.stop))))
 (.ret))))
theorem k7 : FnC Tryz.prog 7 39 [] [] [.tmp 0] c7 0 := ⟨Tryz.f7, _, Tryz.func7, rfl, by decide, rfl, by decide, by kernel_rfl, by kernel_rfl⟩
def c25 : AC :=
 .seq (.reg [ap 0 (.mov (.lit (.bool false)))])
 (.seq (.reg [ap 8 (.call (.fn 46) []),
 ap 9 (.call (.fn 45) [(tm 8), (zi 1)]),
 ap 7 (.mov (tm 9)),
 ap 10 (.ext (tm 7) 0),
 ap 11 (.ext (tm 7) 1),
 ap 12 (.ext (tm 7) 2),
 ap 1 (.mov (tm 10)),
 ap 2 (.mov (tm 11)),
 ap 3 (.mov (tm 12))])
 (.seq (.reg [ap 14 (.call (.fn 48) []),
 ap 15 (.call (.fn 47) [(tm 14), (.lit (.bool true))]),
 ap 13 (.mov (tm 15)),
 ap 16 (.ext (tm 13) 0),
 ap 17 (.ext (tm 13) 1),
 ap 18 (.ext (tm 13) 2),
 ap 4 (.mov (tm 16)),
 ap 5 (.mov (tm 17)),
 ap 6 (.mov (tm 18))])
 (.seq (.reg [ap 19 (.mov (tm 1)),
 ap 20 (.bslice 1 (.int .i64 0) 3 [(0, (.lit (.int .i64 (-1)))), (1, (zi 0)), (2, (.lit (.int .i64 (-1))))]),
 ap 21 (.call (.fn 49) [(tm 19), (tm 20)]),
 ap 22 (.mov (tm 21)),
 aT 23 22 (.mov (tm 2)),
 aT 24 22 (.bin .eql (tm 23) (zi 1)),
 ap 25 (.pick (tm 22) (tm 24) (.lit (.bool false))),
 ap 26 (.mov (tm 25)),
 aT 27 26 (.mov (tm 3)),
 aT 28 26 (.bin .eql (tm 27) (zi 0)),
 ap 29 (.pick (tm 26) (tm 28) (.lit (.bool false))),
 ap 30 (.mov (tm 29)),
 aT 31 30 (.mov (tm 4)),
 aT 32 30 (.bin .eql (tm 31) (zi 2)),
 ap 33 (.pick (tm 30) (tm 32) (.lit (.bool false))),
 ap 34 (.mov (tm 33)),
 aT 35 34 (.mov (tm 6)),
 aT 36 34 (.bin .eql (tm 35) (zi 0)),
 ap 37 (.pick (tm 34) (tm 36) (.lit (.bool false))),
 ap 0 (.mov (tm 37))])
 (.ret))))
theorem k25 : FnC Tryz.prog 25 38 [] [] [.tmp 0] c25 0 := ⟨Tryz.f25, _, Tryz.func25, rfl, by decide, rfl, by decide, by kernel_rfl, by kernel_rfl⟩
end Go.Proofs.YtbhbbjngndmnmaaGreatDoor
namespace Go.Proofs.YtbhbbjngndmnmaaGreatDoor.H
open Go Go.Ab
def c48 : AC :=
 .seq (.reg [ap 0 (.alloc [(.int .i64 0), (.slice none 0 0)])])
 (.seq (.reg [ap 1 (.call (.fn 9) [(zi 4), (zi 6)]),
 ap 2 (.build [(.int .i64 0), (.int .i64 0), (.int .i64 0), (.int .i64 0)] [(0, 1, (zi 0)), (1, 1, (zi 0)), (2, 2, (tm 1))]),
 ap 3 (.call (.fn 9) [(zi 4), (zi 4)]),
 ap 4 (.build [(.int .i64 0), (.int .i64 0), (.int .i64 0), (.int .i64 0)] [(0, 1, (zi 8)), (1, 1, (zi 3)), (2, 2, (tm 3))]),
 ap 5 (.call (.fn 9) [(zi 5), (zi 6)]),
 ap 6 (.build [(.int .i64 0), (.int .i64 0), (.int .i64 0), (.int .i64 0)] [(0, 1, (zi 10)), (1, 1, (zi 0)), (2, 2, (tm 5))]),
 ap 7 (.call (.fn 9) [(zi 3), (zi 3)]),
 ap 8 (.build [(.int .i64 0), (.int .i64 0), (.int .i64 0), (.int .i64 0)] [(0, 1, (zi 16)), (1, 1, (zi 6)), (2, 2, (tm 7))]),
 ap 9 (.bslice 4 (.agg #[(.int .i64 0), (.int .i64 0), (.int .i64 0), (.int .i64 0)]) 4 [(0, (tm 2)), (1, (tm 4)), (2, (tm 6)), (3, (tm 8))]),
 ap 10 (.build [(.int .i64 0), (.slice none 0 0)] [(0, 1, (zi 1)), (1, 1, (tm 9))]),
 aU (.store 2 (tm 0) (tm 10))])
 (.ret))
theorem k48 : FnC Tryz.prog 48 11 [0] [] [.cell 0 true 2] c48 0 := ⟨Tryz.f48, _, Tryz.func48, rfl, by decide, rfl, by decide, by kernel_rfl, by kernel_rfl⟩
def c75 : AC :=
 .seq (.reg [ap 6 (.mov (tm 2)),
 ap 7 (.nilcmp true (tm 6))])
 (.cond (tm 7) (.seq (.reg [ap 9 (.mov (tm 2)),
 ap 10 (.tass 228 true (tm 9)),
 ap 8 (.mov (tm 10)),
 ap 11 (.ext (tm 8) 0),
 ap 12 (.ext (tm 8) 1),
 ap 3 (.mov (tm 11)),
 ap 4 (.mov (tm 12))])
 (.seq (.seq (.reg [ap 13 (.mov (tm 4)),
 ap 14 (.un .not (tm 13))])
 (.cond (tm 14) (.reg [ap 15 (.mov (tm 2)),
 aU (.pan (tm 15))])
 (.skip)))
 (.reg [ap 16 (.mov (tm 0)),
 ap 17 (.mov (tm 3)),
 ap 18 (.nilck (tm 16)),
 aU (.store 1 (tm 18) (tm 17))])))
 (.skip))
theorem a75 : FnA Tryz.prog 75 19 5 2 c75 1 := ⟨Tryz.f75, _, _, _, _, _, Tryz.func75, rfl, by decide, rfl, by decide, rfl, rfl, rfl, rfl, rfl, rfl, rfl, by decide, by decide, by kernel_rfl⟩
def c76 : AC :=
 .seq (.reg [ap 2 (.box (tm 0)),
 ap 4 (.alloc [(.int .i64 0), (.slice none 0 0)])])
 (.seq (.reg [ap 8 (.faddr 0 (tm 2)),
 ap 9 (.load false 1 (tm 8)),
 ap 10 (.call (.fn 102) [(tm 9), (zi 0), (zi 3)]),
 ap 11 (.mov (tm 10)),
 aT 12 11 (.faddr 1 (tm 2)),
 aT 13 11 (.load false 1 (tm 12)),
 aT 14 11 (.len (tm 13)),
 aT 15 11 (.bin .leq (tm 14) (zi 7)),
 ap 16 (.pick (tm 11) (tm 15) (.lit (.bool false))),
 ap 17 (.call (.fn 101) [(tm 16), (zi 1)])])
 (.seq (.seq (.reg [ap 18 (.faddr 1 (tm 2)),
 ap 19 (.load false 1 (tm 18)),
 ap 20 (.len (tm 19)),
 ap 21 (.mov (zi 0))])
 (.block 0 (.loop (.seq (.reg [ap 22 (.bin .lss (tm 21) (tm 20))])
 (.seq (.cond (tm 22) (.skip)
 (.exit 0))
 (.seq (.block 1 (.seq (.reg [ap 23 (.iaddr 4 (tm 19) (tm 21)),
 ap 24 (.load true 4 (tm 23)),
 ap 6 (.alloc [(.int .i64 0), (.int .i64 0), (.int .i64 0), (.int .i64 0)]),
 aU (.store 4 (tm 6) (tm 24))])
 (.reg [ap 25 (.faddr 0 (tm 6)),
 ap 26 (.load false 1 (tm 25)),
 ap 27 (.call (.fn 102) [(tm 26), (zi 0), (zi 200)]),
 ap 28 (.mov (tm 27)),
 aT 29 28 (.faddr 1 (tm 6)),
 aT 30 28 (.load false 1 (tm 29)),
 aT 31 28 (.call (.fn 102) [(tm 30), (zi 0), (zi 30)]),
 ap 32 (.pick (tm 28) (tm 31) (.lit (.bool false))),
 ap 33 (.mov (tm 32)),
 aT 34 33 (.faddr 2 (tm 6)),
 aT 35 33 (.faddr 0 (tm 34)),
 aT 36 33 (.load false 1 (tm 35)),
 aT 37 33 (.bin .leq (zi 1) (tm 36)),
 ap 38 (.pick (tm 33) (tm 37) (.lit (.bool false))),
 ap 39 (.mov (tm 38)),
 aT 40 39 (.faddr 2 (tm 6)),
 aT 41 39 (.faddr 0 (tm 40)),
 aT 42 39 (.load false 1 (tm 41)),
 aT 43 39 (.faddr 2 (tm 6)),
 aT 44 39 (.faddr 1 (tm 43)),
 aT 45 39 (.load false 1 (tm 44)),
 aT 46 39 (.bin .leq (tm 42) (tm 45)),
 ap 47 (.pick (tm 39) (tm 46) (.lit (.bool false))),
 ap 48 (.mov (tm 47)),
 aT 49 48 (.faddr 2 (tm 6)),
 aT 50 48 (.faddr 1 (tm 49)),
 aT 51 48 (.load false 1 (tm 50)),
 aT 52 48 (.bin .leq (tm 51) (zi 20)),
 ap 53 (.pick (tm 48) (tm 52) (.lit (.bool false))),
 ap 54 (.call (.fn 101) [(tm 53), (zi 1)])])))
 (.reg [ap 55 (.bin .add (tm 21) (zi 1)),
 ap 21 (.mov (tm 55))])))))))
 (.seq (.reg [ap 56 (.load true 2 (tm 2)),
 ap 57 (.build [(.int .i64 0), (.slice none 0 0)] [(0, 2, (tm 56))]),
 ap 7 (.alloc [(.int .i64 0), (.slice none 0 0)]),
 aU (.store 2 (tm 7) (tm 57))])
 (.seq (.reg [ap 58 (.mov (tm 1)),
 ap 59 (.load true 2 (tm 7)),
 ap 60 (.call (tm 58) [(tm 59)]),
 ap 61 (.call (.fn 101) [(tm 60), (zi 2)])])
 (.seq (.reg [ap 62 (.load true 2 (tm 7)),
 aU (.store 2 (tm 4) (tm 62))])
 (.ret))))))
theorem k76 : FnC Tryz.prog 76 63 [4] [] [.cell 4 true 2] c76 2 := ⟨Tryz.f76, _, Tryz.func76, rfl, by decide, rfl, by decide, by kernel_rfl, by kernel_rfl⟩
def c77 : AC :=
 .seq (.reg [ap 1 (.box (tm 0)),
 ap 2 (.mov (.lit (.bool false)))])
 (.seq (.reg [ap 2 (.mov (.lit (.bool true)))])
 (.ret))
theorem k77 : FnC Tryz.prog 77 3 [] [] [.tmp 2] c77 1 := ⟨Tryz.f77, _, Tryz.func77, rfl, by decide, rfl, by decide, by kernel_rfl, by kernel_rfl⟩
def c78 : AC :=
 .seq (.reg [ap 2 (.box (tm 0)),
 ap 4 (.alloc [(.int .u64 0), (.int .u64 0), (.int .u64 0), (.int .u64 0), (.int .u64 0), (.int .u64 0), (.int .u64 0)])])
 (.seq (.seq (.reg [ap 9 (.faddr 0 (tm 2)),
 ap 10 (.faddr 1 (tm 9)),
 ap 11 (.load false 1 (tm 10)),
 ap 12 (.len (tm 11)),
 ap 13 (.mov (zi 0))])
 (.block 0 (.loop (.seq (.reg [ap 14 (.bin .lss (tm 13) (tm 12))])
 (.seq (.cond (tm 14) (.skip)
 (.exit 0))
 (.seq (.block 1 (.seq (.reg [ap 15 (.mov (tm 13)),
 ap 16 (.iaddr 4 (tm 11) (tm 13)),
 ap 17 (.load true 4 (tm 16)),
 ap 6 (.alloc [(.int .i64 0), (.int .i64 0), (.int .i64 0), (.int .i64 0)]),
 ap 5 (.mov (tm 15)),
 aU (.store 4 (tm 6) (tm 17))])
 (.seq (.reg [ap 18 (.faddr 0 (tm 2)),
 ap 19 (.faddr 1 (tm 18)),
 ap 20 (.load false 1 (tm 19)),
 ap 21 (.len (tm 20)),
 ap 22 (.mov (zi 0))])
 (.block 2 (.loop (.seq (.reg [ap 23 (.bin .lss (tm 22) (tm 21))])
 (.seq (.cond (tm 23) (.skip)
 (.exit 2))
 (.seq (.block 3 (.seq (.reg [ap 24 (.mov (tm 22)),
 ap 25 (.iaddr 4 (tm 20) (tm 22)),
 ap 26 (.load true 4 (tm 25)),
 ap 8 (.alloc [(.int .i64 0), (.int .i64 0), (.int .i64 0), (.int .i64 0)]),
 ap 7 (.mov (tm 24)),
 aU (.store 4 (tm 8) (tm 26))])
 (.seq (.draw (.step (ap 27 (.load true 2 (tm 2))) (
 .step (ap 28 (.faddr 0 (tm 6))) (
 .step (ap 29 (.load false 1 (tm 28))) (
 .step (ap 30 (.mov (tm 5))) (
 .step (ap 31 (.mov (tm 7))) (
 .step (ap 32 (.mov (tm 1))) (
 .step (ap 34 (.faddr 0 (tm 8))) (
 .step (ap 35 (.load false 1 (tm 34))) (
 .ev (ap 33 (.call (.fn 103) [(tm 27), (tm 29), (tm 30), (tm 31), (tm 32)])) [ap 35 (.load false 1 (tm 34)), ap 34 (.faddr 0 (tm 8)), ap 28 (.faddr 0 (tm 6))] (
 .step (ap 36 (.bin .leq (tm 33) (tm 35))) (
 .done))
 (.stop)))))))))))
 (.cond (tm 36) (.draw (.step (ap 37 (.mov (tm 5))) (
 .step (ap 38 (.mov (tm 5))) (
 .step (ap 39 (.iaddrA 7 1 (tm 4) (tm 38))) (
 .step (ap 40 (.load false 1 (tm 39))) (
 .step (ap 41 (.mov (tm 7))) (
 .step (ap 42 (.bin .shl (.lit (.int .u64 1)) (tm 41))) (
 .ev (ap 43 (.bslice 1 (.int .u64 0) 2 [(0, (tm 40)), (1, (tm 42))])) [ap 39 (.iaddrA 7 1 (tm 4) (tm 38))] (
 .ev (ap 44 (.call (.fn 104) [(tm 43)])) [ap 40 (.load false 1 (tm 39)), ap 39 (.iaddrA 7 1 (tm 4) (tm 38))] (
 .step (ap 45 (.iaddrA 7 1 (tm 4) (tm 37))) (
 .ev (aU (.store 1 (tm 45) (tm 44))) [] (
 .done)
 (.stop)))
 (.stop))
 (.stop)))))))))
 (.skip)))))
 (.reg [ap 46 (.bin .add (tm 22) (zi 1)),
 ap 22 (.mov (tm 46))])))))))))
 (.reg [ap 47 (.bin .add (tm 13) (zi 1)),
 ap 13 (.mov (tm 47))])))))))
 (.seq (.reg [ap 48 (.load true 7 (tm 4)),
 aU (.store 7 (tm 4) (tm 48))])
 (.ret)))
theorem k78 : FnC Tryz.prog 78 49 [4] [] [.cell 4 true 7] c78 2 := ⟨Tryz.f78, _, Tryz.func78, rfl, by decide, rfl, by decide, by kernel_rfl, by kernel_rfl⟩
def c79 : AC :=
 .seq (.reg [ap 2 (.mov (.lit .nilIface))])
 (.seq (.seq (.reg [ap 3 (.mov (tm 0))])
 (.cond (tm 3) (.seq (.reg [ap 4 (.build [] []),
 ap 5 (.mkif 233 (tm 4)),
 ap 2 (.mov (tm 5))])
 (.ret))
 (.skip)))
 (.seq (.reg [ap 6 (.build [] []),
 ap 7 (.mkif 234 (tm 6)),
 ap 2 (.mov (tm 7))])
 (.ret)))
theorem k79 : FnC Tryz.prog 79 8 [] [] [.tmp 2] c79 1 := ⟨Tryz.f79, _, Tryz.func79, rfl, by decide, rfl, by decide, by kernel_rfl, by kernel_rfl⟩
def c81 : AC :=
 .seq (.reg [ap 1 (.box (tm 0)),
 ap 2 (.mov (.lit (.int .u64 0)))])
 (.seq (.reg [ap 3 (.faddr 0 (tm 1)),
 ap 4 (.faddr 1 (tm 3)),
 ap 5 (.load false 1 (tm 4)),
 ap 6 (.len (tm 5)),
 ap 7 (.bin .shl (.lit (.int .u64 1)) (tm 6)),
 ap 8 (.bin .sub (tm 7) (.lit (.int .u64 1))),
 ap 2 (.mov (tm 8))])
 (.ret))
theorem k81 : FnC Tryz.prog 81 9 [] [] [.tmp 2] c81 1 := ⟨Tryz.f81, _, Tryz.func81, rfl, by decide, rfl, by decide, by kernel_rfl, by kernel_rfl⟩
def c83 : AC :=
 .seq (.reg [ap 3 (.box (tm 0)),
 ap 6 (.mov (.lit (.bool false)))])
 (.seq (.reg [ap 7 (.mov (tm 1)),
 ap 8 (.iaddrA 7 1 (tm 3) (tm 7)),
 ap 9 (.load false 1 (tm 8)),
 ap 10 (.mov (tm 2)),
 ap 11 (.call (.fn 105) [(tm 9), (tm 10)]),
 ap 12 (.un .not (tm 11)),
 ap 13 (.mov (tm 12)),
 aT 14 13 (.mov (tm 2)),
 aT 15 13 (.iaddrA 7 1 (tm 3) (tm 14)),
 aT 16 13 (.load false 1 (tm 15)),
 aT 17 13 (.mov (tm 1)),
 aT 18 13 (.call (.fn 105) [(tm 16), (tm 17)]),
 aT 19 13 (.un .not (tm 18)),
 ap 20 (.pick (tm 13) (tm 19) (.lit (.bool false))),
 ap 6 (.mov (tm 20))])
 (.ret))
theorem k83 : FnC Tryz.prog 83 21 [] [] [.tmp 6] c83 3 := ⟨Tryz.f83, _, Tryz.func83, rfl, by decide, rfl, by decide, by kernel_rfl, by kernel_rfl⟩
def c101 : AC :=
 .seq (.reg [ap 4 (.mov (tm 0)),
 ap 5 (.un .not (tm 4))])
 (.cond (tm 5) (.reg [ap 6 (.mov (tm 1)),
 ap 7 (.mkif 228 (tm 6)),
 aU (.pan (tm 7))])
 (.skip))
theorem k101 : FnC Tryz.prog 101 8 [] [] [] c101 2 := ⟨Tryz.f101, _, Tryz.func101, rfl, by decide, rfl, by decide, by kernel_rfl, by kernel_rfl⟩
def c102 : AC :=
 .seq (.reg [ap 6 (.mov (.lit (.bool false)))])
 (.seq (.reg [ap 7 (.mov (tm 1)),
 ap 8 (.mov (tm 0)),
 ap 9 (.bin .leq (tm 7) (tm 8)),
 ap 10 (.mov (tm 9)),
 aT 11 10 (.mov (tm 0)),
 aT 12 10 (.mov (tm 2)),
 aT 13 10 (.bin .leq (tm 11) (tm 12)),
 ap 14 (.pick (tm 10) (tm 13) (.lit (.bool false))),
 ap 6 (.mov (tm 14))])
 (.ret))
theorem k102 : FnC Tryz.prog 102 15 [] [] [.tmp 6] c102 3 := ⟨Tryz.f102, _, Tryz.func102, rfl, by decide, rfl, by decide, by kernel_rfl, by kernel_rfl⟩
def c103 : AC :=
 .seq (.reg [ap 5 (.box (tm 0)),
 ap 10 (.mov (zi 0))])
 (.seq (.draw (.step (ap 13 (.faddr 0 (tm 5))) (
 .step (ap 14 (.faddr 1 (tm 13))) (
 .step (ap 15 (.load false 1 (tm 14))) (
 .step (ap 16 (.mov (tm 2))) (
 .step (ap 17 (.iaddr 4 (tm 15) (tm 16))) (
 .step (ap 18 (.load true 4 (tm 17))) (
 .step (ap 19 (.faddr 0 (tm 5))) (
 .step (ap 20 (.faddr 1 (tm 19))) (
 .step (ap 21 (.load false 1 (tm 20))) (
 .step (ap 22 (.mov (tm 3))) (
 .step (ap 23 (.iaddr 4 (tm 21) (tm 22))) (
 .step (ap 24 (.load true 4 (tm 23))) (
 .ev (ap 11 (.alloc [(.int .i64 0), (.int .i64 0), (.int .i64 0), (.int .i64 0)])) [ap 24 (.load true 4 (tm 23)), ap 23 (.iaddr 4 (tm 21) (tm 22)), ap 21 (.load false 1 (tm 20)), ap 20 (.faddr 1 (tm 19)), ap 19 (.faddr 0 (tm 5)), ap 18 (.load true 4 (tm 17)), ap 17 (.iaddr 4 (tm 15) (tm 16)), ap 15 (.load false 1 (tm 14)), ap 14 (.faddr 1 (tm 13)), ap 13 (.faddr 0 (tm 5))] (
 .ev (ap 12 (.alloc [(.int .i64 0), (.int .i64 0), (.int .i64 0), (.int .i64 0)])) [ap 24 (.load true 4 (tm 23)), ap 23 (.iaddr 4 (tm 21) (tm 22)), ap 21 (.load false 1 (tm 20)), ap 20 (.faddr 1 (tm 19)), ap 19 (.faddr 0 (tm 5)), ap 18 (.load true 4 (tm 17)), ap 17 (.iaddr 4 (tm 15) (tm 16)), ap 15 (.load false 1 (tm 14)), ap 14 (.faddr 1 (tm 13)), ap 13 (.faddr 0 (tm 5))] (
 .ev (aU (.store 4 (tm 11) (tm 18))) [ap 24 (.load true 4 (tm 23)), ap 23 (.iaddr 4 (tm 21) (tm 22)), ap 21 (.load false 1 (tm 20)), ap 20 (.faddr 1 (tm 19)), ap 19 (.faddr 0 (tm 5))] (
 .ev (aU (.store 4 (tm 12) (tm 24))) [] (
 .done)
 (.stop))
 (.stop))
 (.stop))
 (.ev (ap 12 (.alloc [(.int .i64 0), (.int .i64 0), (.int .i64 0), (.int .i64 0)])) [ap 24 (.load true 4 (tm 23)), ap 23 (.iaddr 4 (tm 21) (tm 22)), ap 21 (.load false 1 (tm 20)), ap 20 (.faddr 1 (tm 19)), ap 19 (.faddr 0 (tm 5)), ap 18 (.load true 4 (tm 17)), ap 17 (.iaddr 4 (tm 15) (tm 16)), ap 15 (.load false 1 (tm 14)), ap 14 (.faddr 1 (tm 13)), ap 13 (.faddr 0 (tm 5))] (
 .ev (ap 11 (.alloc [(.int .i64 0), (.int .i64 0), (.int .i64 0), (.int .i64 0)])) [ap 24 (.load true 4 (tm 23)), ap 23 (.iaddr 4 (tm 21) (tm 22)), ap 21 (.load false 1 (tm 20)), ap 20 (.faddr 1 (tm 19)), ap 19 (.faddr 0 (tm 5)), ap 18 (.load true 4 (tm 17)), ap 17 (.iaddr 4 (tm 15) (tm 16)), ap 15 (.load false 1 (tm 14)), ap 14 (.faddr 1 (tm 13)), ap 13 (.faddr 0 (tm 5))] (
 .ev (aU (.store 4 (tm 11) (tm 18))) [ap 24 (.load true 4 (tm 23)), ap 23 (.iaddr 4 (tm 21) (tm 22)), ap 21 (.load false 1 (tm 20)), ap 20 (.faddr 1 (tm 19)), ap 19 (.faddr 0 (tm 5))] (
 .ev (aU (.store 4 (tm 12) (tm 24))) [] (
 .done)
 (.stop))
 (.stop))
 (.stop))
 (.stop))))))))))))))))
 (.seq (.draw (.step (ap 25 (.mov (tm 1))) (
 .step (ap 26 (.mov (tm 4))) (
 .step (ap 27 (.load true 4 (tm 11))) (
 .step (ap 30 (.faddr 0 (tm 5))) (
 .step (ap 31 (.faddr 0 (tm 30))) (
 .step (ap 32 (.load false 1 (tm 31))) (
 .step (ap 33 (.faddr 1 (tm 11))) (
 .step (ap 34 (.load false 1 (tm 33))) (
 .step (ap 35 (.faddr 1 (tm 12))) (
 .step (ap 36 (.load false 1 (tm 35))) (
 .step (ap 37 (.bin .sub (tm 34) (tm 36))) (
 .step (ap 38 (.faddr 1 (tm 12))) (
 .step (ap 39 (.load false 1 (tm 38))) (
 .step (ap 40 (.faddr 1 (tm 11))) (
 .step (ap 41 (.load false 1 (tm 40))) (
 .step (ap 42 (.bin .sub (tm 39) (tm 41))) (
 .step (ap 43 (.mxmn true (tm 37) [(tm 42)])) (
 .step (ap 44 (.bin .mul (tm 32) (tm 43))) (
 .ev (ap 28 (.inv [(233, 143), (234, 144)] (tm 26) [(tm 27)])) [ap 41 (.load false 1 (tm 40)), ap 40 (.faddr 1 (tm 11)), ap 39 (.load false 1 (tm 38)), ap 38 (.faddr 1 (tm 12)), ap 36 (.load false 1 (tm 35)), ap 35 (.faddr 1 (tm 12)), ap 34 (.load false 1 (tm 33)), ap 33 (.faddr 1 (tm 11)), ap 32 (.load false 1 (tm 31)), ap 31 (.faddr 0 (tm 30)), ap 30 (.faddr 0 (tm 5))] (
 .step (ap 29 (.bin .add (tm 25) (tm 28))) (
 .step (ap 45 (.bin .add (tm 29) (tm 44))) (
 .step (ap 10 (.mov (tm 45))) (
 .done))))
 (.stop)))))))))))))))))))))
 (.ret)))
theorem k103 : FnC Tryz.prog 103 46 [] [] [.tmp 10] c103 5 := ⟨Tryz.f103, _, Tryz.func103, rfl, by decide, rfl, by decide, by kernel_rfl, by kernel_rfl⟩
def c104 : AC :=
 .seq (.reg [ap 2 (.mov (.lit (.int .u64 0)))])
 (.seq (.seq (.reg [ap 5 (.mov (tm 0)),
 ap 6 (.len (tm 5)),
 ap 7 (.mov (zi 0))])
 (.block 0 (.loop (.seq (.reg [ap 8 (.bin .lss (tm 7) (tm 6))])
 (.seq (.cond (tm 8) (.skip)
 (.exit 0))
 (.seq (.block 1 (.seq (.reg [ap 9 (.iaddr 1 (tm 5) (tm 7)),
 ap 10 (.load false 1 (tm 9)),
 ap 4 (.mov (tm 10))])
 (.reg [ap 11 (.mov (tm 2)),
 ap 12 (.mov (tm 4)),
 ap 13 (.bin .or (tm 11) (tm 12)),
 ap 2 (.mov (tm 13))])))
 (.reg [ap 14 (.bin .add (tm 7) (zi 1)),
 ap 7 (.mov (tm 14))])))))))
 (.seq (.reg [ap 15 (.mov (tm 2)),
 ap 2 (.mov (tm 15))])
 (.ret)))
theorem k104 : FnC Tryz.prog 104 16 [] [] [.tmp 2] c104 1 := ⟨Tryz.f104, _, Tryz.func104, rfl, by decide, rfl, by decide, by kernel_rfl, by kernel_rfl⟩
def c105 : AC :=
 .seq (.reg [ap 4 (.mov (.lit (.bool false)))])
 (.seq (.reg [ap 5 (.mov (tm 0)),
 ap 6 (.mov (tm 1)),
 ap 7 (.bin .shr (tm 5) (tm 6)),
 ap 8 (.bin .and (tm 7) (.lit (.int .u64 1))),
 ap 9 (.bin .eql (tm 8) (.lit (.int .u64 1))),
 ap 4 (.mov (tm 9))])
 (.ret))
theorem k105 : FnC Tryz.prog 105 10 [] [] [.tmp 4] c105 2 := ⟨Tryz.f105, _, Tryz.func105, rfl, by decide, rfl, by decide, by kernel_rfl, by kernel_rfl⟩
def c107 : AC :=
 .seq (.reg [ap 2 (.mov (zi 0))])
 (.seq (.reg [ap 3 (.mov (tm 0)),
 ap 4 (.call (.fn 74) [(tm 3)]),
 ap 2 (.mov (tm 4))])
 (.ret))
theorem k107 : FnC Tryz.prog 107 5 [] [] [.tmp 2] c107 1 := ⟨Tryz.f107, _, Tryz.func107, rfl, by decide, rfl, by decide, by kernel_rfl, by kernel_rfl⟩
def c143 : AC :=
 .seq (.reg [ap 2 (.box0 233 (tm 0)),
 ap 3 (.box (tm 1)),
 ap 4 (.mov (zi 0))])
 (.seq (.reg [ap 5 (.faddr 2 (tm 3)),
 ap 6 (.faddr 1 (tm 5)),
 ap 7 (.load false 1 (tm 6)),
 ap 4 (.mov (tm 7))])
 (.ret))
theorem k143 : FnC Tryz.prog 143 8 [] [] [.tmp 4] c143 2 := ⟨Tryz.f143, _, Tryz.func143, rfl, by decide, rfl, by decide, by kernel_rfl, by kernel_rfl⟩
open Go Go.Ab
def c47 : AC :=
 .seq (.reg [ap 2 (.box (tm 0)),
 ap 4 (.mov (zi 0)),
 ap 5 (.mov (.lit (.slice none 0 0))),
 ap 6 (.alloc [(.int .i64 0)])])
 (.seq (.reg [aU (.defer 75 [(tm 6)])])
 (.seq (.reg [ap 13 (.load true 2 (tm 2)),
 ap 14 (.call (.fn 76) [(tm 13), (.fn 77)]),
 ap 7 (.alloc [(.int .i64 0), (.slice none 0 0)]),
 aU (.store 2 (tm 7) (tm 14))])
 (.seq (.draw (.step (ap 15 (.load true 2 (tm 7))) (
 .step (ap 16 (.mov (tm 1))) (
 .ev (ap 17 (.call (.fn 79) [(tm 16)])) [ap 15 (.load true 2 (tm 7))] (
 .ev (ap 18 (.call (.fn 78) [(tm 15), (tm 17)])) [] (
 .ev (ap 8 (.alloc [(.int .u64 0), (.int .u64 0), (.int .u64 0), (.int .u64 0), (.int .u64 0), (.int .u64 0), (.int .u64 0)])) [ap 15 (.load true 2 (tm 7))] (
 .ev (aU (.store 7 (tm 8) (tm 18))) [] (
 .done)
 (.stop))
 (.stop))
 (.ev (ap 8 (.alloc [(.int .u64 0), (.int .u64 0), (.int .u64 0), (.int .u64 0), (.int .u64 0), (.int .u64 0), (.int .u64 0)])) [ap 15 (.load true 2 (tm 7))] (
 .ev (ap 18 (.call (.fn 78) [(tm 15), (tm 17)])) [] (
 .ev (aU (.store 7 (tm 8) (tm 18))) [] (
 .done)
 (.stop))
 (.stop))
 (.stop)))
 (.ev (ap 8 (.alloc [(.int .u64 0), (.int .u64 0), (.int .u64 0), (.int .u64 0), (.int .u64 0), (.int .u64 0), (.int .u64 0)])) [ap 15 (.load true 2 (tm 7))] (
 .ev (ap 17 (.call (.fn 79) [(tm 16)])) [ap 15 (.load true 2 (tm 7))] (
 .ev (ap 18 (.call (.fn 78) [(tm 15), (tm 17)])) [] (
 .ev (aU (.store 7 (tm 8) (tm 18))) [] (
 .done)
 (.stop))
 (.stop))
 (.stop))
 (.stop))))))
 (.seq (.seq (.gcp)
 (.draw (.step (ap 19 (.load true 7 (tm 8))) (
 .step (ap 20 (.load true 2 (tm 7))) (
 .ev (ap 21 (.call (.fn 81) [(tm 20)])) [ap 19 (.load true 7 (tm 8))] (
 .ev (ap 22 (.call (.fn 80) [(tm 19), (tm 21)])) [ap 20 (.load true 2 (tm 7))] (
 .ev (ap 9 (.alloc [(.int .i64 0)])) [ap 20 (.load true 2 (tm 7)), ap 19 (.load true 7 (tm 8))] (
 .ev (aU (.store 1 (tm 9) (tm 22))) [] (
 .done)
 (.stop))
 (.stop))
 (.ev (ap 9 (.alloc [(.int .i64 0)])) [ap 20 (.load true 2 (tm 7)), ap 19 (.load true 7 (tm 8))] (
 .ev (ap 22 (.call (.fn 80) [(tm 19), (tm 21)])) [ap 20 (.load true 2 (tm 7))] (
 .ev (aU (.store 1 (tm 9) (tm 22))) [] (
 .done)
 (.stop))
 (.stop))
 (.stop)))
 (.ev (ap 9 (.alloc [(.int .i64 0)])) [ap 20 (.load true 2 (tm 7)), ap 19 (.load true 7 (tm 8))] (
 .ev (ap 21 (.call (.fn 81) [(tm 20)])) [ap 19 (.load true 7 (tm 8))] (
 .ev (ap 22 (.call (.fn 80) [(tm 19), (tm 21)])) [ap 20 (.load true 2 (tm 7))] (
 .ev (aU (.store 1 (tm 9) (tm 22))) [] (
 .done)
 (.stop))
 (.stop))
 (.stop))
 (.stop)))))))
 (.seq (.seq (.gcp)
 (.reg [ap 23 (.build [(.int .i64 0), (.int .i64 0), (.int .i64 0), (.int .i64 0), (.int .i64 0), (.int .i64 0), (.int .i64 0)] []),
 ap 10 (.alloc [(.int .i64 0), (.int .i64 0), (.int .i64 0), (.int .i64 0), (.int .i64 0), (.int .i64 0), (.int .i64 0)]),
 aU (.store 7 (tm 10) (tm 23))]))
 (.seq (.reg [ap 11 (.alloc [.nilFunc])])
 (.seq (.reg [ap 24 (.mkfn (.func 82) [] [(tm 7), (tm 9), (tm 10), (tm 8), (tm 11)]),
 aU (.store 1 (tm 11) (tm 24))])
 (.seq (.reg [ap 25 (.load false 1 (tm 11)),
 ap 26 (.call (tm 25) [(zi 0)])])
 (.seq (.reg [ap 27 (.faddr 0 (tm 7)),
 ap 28 (.faddr 1 (tm 27)),
 ap 29 (.load false 1 (tm 28)),
 ap 30 (.len (tm 29)),
 ap 31 (.mks 1 8 (.int .i64 0) (tm 30) (tm 30)),
 ap 12 (.mov (tm 31))])
 (.seq (.seq (.gcp)
 (.reg [ap 32 (.mov (tm 12)),
 ap 33 (.slc (some 7) 1 (tm 10) none none),
 ap 34 (.cpy 1 (tm 32) (tm 33))]))
 (.seq (.reg [ap 35 (.load false 1 (tm 9)),
 ap 36 (.mov (tm 12)),
 ap 4 (.mov (tm 35)),
 ap 5 (.mov (tm 36)),
 aU (.store 1 (tm 6) (zi 0))])
 (.ret))))))))))))
theorem k47 : FnC Tryz.prog 47 37 [4, 5, 6] [4, 5, 10] [.tmp 4, .tmp 5, .cell 6 false 1] c47 2 := ⟨Tryz.f47, _, Tryz.func47, rfl, by decide, rfl, by decide, by kernel_rfl, by kernel_rfl⟩
def c80 : AC :=
 .seq (.reg [ap 2 (.box (tm 0)),
 ap 3 (.box (tm 1)),
 ap 4 (.mov (zi 0))])
 (.seq (.reg [ap 9 (.mkmap (none, (some .i64))),
 ap 5 (.alloc [(.map none)]),
 aU (.store 1 (tm 5) (tm 9))])
 (.seq (.seq (.reg [ap 10 (.mov (zi 0))])
 (.block 0 (.loop (.seq (.reg [ap 11 (.bin .lss (tm 10) (zi 7))])
 (.seq (.cond (tm 11) (.skip)
 (.exit 0))
 (.seq (.block 1 (.seq (.reg [ap 12 (.mov (tm 10)),
 ap 6 (.mov (tm 12))])
 (.seq (.seq (.reg [ap 13 (.load false 1 (tm 3)),
 ap 14 (.mov (tm 6)),
 ap 15 (.call (.fn 105) [(tm 13), (tm 14)]),
 ap 16 (.un .not (tm 15))])
 (.cond (tm 16) (.exit 1)
 (.skip)))
 (.seq (.reg [ap 7 (.alloc [(.int .u64 0)]),
 aU (.store 1 (tm 7) (.lit (.int .u64 0)))])
 (.seq (.reg [ap 8 (.alloc [.nilFunc])])
 (.seq (.reg [ap 17 (.mkfn (.func 106) [] [(tm 3), (tm 2), (tm 7), (tm 5), (tm 8)]),
 aU (.store 1 (tm 8) (tm 17))])
 (.reg [ap 18 (.load false 1 (tm 8)),
 ap 19 (.mov (tm 6)),
 ap 20 (.call (tm 18) [(tm 19)])])))))))
 (.reg [ap 21 (.bin .add (tm 10) (zi 1)),
 ap 10 (.mov (tm 21))])))))))
 (.seq (.draw (.step (ap 22 (.load false 1 (tm 3))) (
 .step (ap 24 (.load false 1 (tm 5))) (
 .ev (ap 23 (.call (.fn 107) [(tm 22)])) [ap 24 (.load false 1 (tm 5))] (
 .step (ap 25 (.mlen (tm 24))) (
 .step (ap 26 (.bin .sub (tm 23) (tm 25))) (
 .step (ap 4 (.mov (tm 26))) (
 .done))))
 (.stop)))))
 (.ret))))
theorem k80 : FnC Tryz.prog 80 27 [] [] [.tmp 4] c80 2 := ⟨Tryz.f80, _, Tryz.func80, rfl, by decide, rfl, by decide, by kernel_rfl, by kernel_rfl⟩
def c82 : AC :=
 .seq (.reg [ap 7 (.mov (.lit (.bool false)))])
 (.scope (.seq (.seq (.reg [ap 10 (.mov (tm 0)),
 ap 11 (.faddr 0 (tm 1)),
 ap 12 (.faddr 1 (tm 11)),
 ap 13 (.load false 1 (tm 12)),
 ap 14 (.len (tm 13)),
 ap 15 (.bin .eql (tm 10) (tm 14))])
 (.cond (tm 15) (.seq (.reg [ap 7 (.mov (.lit (.bool true)))])
 (.ret))
 (.skip)))
 (.seq (.skip)
 (.seq (.seq (.reg [ap 16 (.load false 1 (tm 2)),
 ap 17 (.mov (zi 0))])
 (.block 0 (.loop (.seq (.reg [ap 18 (.bin .lss (tm 17) (tm 16))])
 (.seq (.cond (tm 18) (.skip)
 (.exit 0))
 (.seq (.block 1 (.seq (.reg [ap 19 (.mov (tm 17)),
 ap 8 (.mov (tm 19))])
 (.seq (.seq (.reg [ap 20 (.mov (tm 0)),
 ap 21 (.mov (zi 0))])
 (.block 2 (.loop (.seq (.reg [ap 22 (.bin .lss (tm 21) (tm 20))])
 (.seq (.cond (tm 22) (.skip)
 (.exit 2))
 (.seq (.block 3 (.seq (.reg [ap 23 (.mov (tm 21)),
 ap 9 (.mov (tm 23))])
 (.seq (.reg [ap 24 (.mov (tm 9)),
 ap 25 (.iaddrA 7 1 (tm 3) (tm 24)),
 ap 26 (.load false 1 (tm 25)),
 ap 27 (.mov (tm 8)),
 ap 28 (.bin .eql (tm 26) (tm 27)),
 ap 29 (.mov (tm 28)),
 aT 30 29 (.load true 7 (tm 4)),
 aT 31 29 (.mov (tm 0)),
 aT 32 29 (.mov (tm 9)),
 aT 33 29 (.call (.fn 83) [(tm 30), (tm 31), (tm 32)]),
 ap 34 (.pick (tm 29) (tm 33) (.lit (.bool false)))])
 (.cond (tm 34) (.exit 1)
 (.skip)))))
 (.reg [ap 35 (.bin .add (tm 21) (zi 1)),
 ap 21 (.mov (tm 35))])))))))
 (.seq (.reg [ap 36 (.mov (tm 0)),
 ap 37 (.mov (tm 8)),
 ap 38 (.iaddrA 7 1 (tm 3) (tm 36)),
 aU (.store 1 (tm 38) (tm 37))])
 (.seq (.reg [ap 39 (.load false 1 (tm 5)),
 ap 40 (.mov (tm 0)),
 ap 41 (.bin .add (tm 40) (zi 1)),
 ap 42 (.call (tm 39) [(tm 41)])])
 (.cond (tm 42) (.seq (.reg [ap 7 (.mov (.lit (.bool true)))])
 (.ret))
 (.skip)))))))
 (.reg [ap 43 (.bin .add (tm 17) (zi 1)),
 ap 17 (.mov (tm 43))])))))))
 (.seq (.reg [ap 7 (.mov (.lit (.bool false)))])
 (.ret))))))
theorem k82 : FnC Tryz.prog 82 44 [] [] [.tmp 7] c82 6 := ⟨Tryz.f82, _, Tryz.func82, rfl, by decide, rfl, by decide, by kernel_rfl, by kernel_rfl⟩
def c106 : AC :=
 .seq (.reg [ap 7 (.mov (.lit (.bool false)))])
 (.seq (.seq (.reg [ap 11 (.mov (zi 0))])
 (.block 0 (.loop (.seq (.reg [ap 12 (.bin .lss (tm 11) (zi 7))])
 (.seq (.cond (tm 12) (.skip)
 (.exit 0))
 (.seq (.block 1 (.seq (.reg [ap 13 (.mov (tm 11)),
 ap 8 (.mov (tm 13))])
 (.seq (.seq (.reg [ap 14 (.load false 1 (tm 1)),
 ap 15 (.mov (tm 8)),
 ap 16 (.call (.fn 105) [(tm 14), (tm 15)]),
 ap 17 (.un .not (tm 16)),
 ap 18 (.mov (tm 17)),
 aF 19 18 (.mov (tm 0)),
 aF 20 18 (.iaddrA 7 1 (tm 2) (tm 19)),
 aF 21 18 (.load false 1 (tm 20)),
 aF 22 18 (.mov (tm 8)),
 aF 23 18 (.call (.fn 105) [(tm 21), (tm 22)]),
 aF 24 18 (.un .not (tm 23)),
 ap 25 (.pick (tm 18) (.lit (.bool true)) (tm 24)),
 ap 26 (.mov (tm 25)),
 aF 27 26 (.load false 1 (tm 3)),
 aF 28 26 (.mov (tm 8)),
 aF 29 26 (.call (.fn 105) [(tm 27), (tm 28)]),
 ap 30 (.pick (tm 26) (.lit (.bool true)) (tm 29))])
 (.cond (tm 30) (.exit 1)
 (.skip)))
 (.seq (.draw (.step (ap 31 (.load false 1 (tm 3))) (
 .step (ap 32 (.mov (tm 8))) (
 .step (ap 33 (.bin .shl (.lit (.int .u64 1)) (tm 32))) (
 .ev (ap 34 (.bslice 1 (.int .u64 0) 2 [(0, (tm 31)), (1, (tm 33))])) [] (
 .ev (ap 35 (.call (.fn 104) [(tm 34)])) [ap 31 (.load false 1 (tm 3))] (
 .ev (aU (.store 1 (tm 3) (tm 35))) [] (
 .done)
 (.stop))
 (.stop))
 (.stop))))))
 (.seq (.reg [ap 37 (.load false 1 (tm 4)),
 ap 38 (.mov (tm 8)),
 ap 39 (.look (none, (some .i64)) (.int .i64 0) true (tm 37) (tm 38)),
 ap 36 (.mov (tm 39)),
 ap 40 (.ext (tm 36) 0),
 ap 41 (.ext (tm 36) 1),
 ap 9 (.mov (tm 40)),
 ap 10 (.mov (tm 41))])
 (.seq (.reg [ap 42 (.mov (tm 10)),
 ap 43 (.un .not (tm 42)),
 ap 44 (.mov (tm 43)),
 aF 45 44 (.load false 1 (tm 5)),
 aF 46 44 (.mov (tm 9)),
 aF 47 44 (.call (tm 45) [(tm 46)]),
 ap 48 (.pick (tm 44) (.lit (.bool true)) (tm 47))])
 (.cond (tm 48) (.seq (.reg [ap 49 (.load false 1 (tm 4)),
 ap 50 (.mov (tm 8)),
 ap 51 (.mov (tm 0)),
 aU (.mput (none, (some .i64)) (tm 49) (tm 50) (tm 51))])
 (.seq (.reg [ap 7 (.mov (.lit (.bool true)))])
 (.ret)))
 (.skip))))))))
 (.reg [ap 52 (.bin .add (tm 11) (zi 1)),
 ap 11 (.mov (tm 52))])))))))
 (.seq (.reg [ap 7 (.mov (.lit (.bool false)))])
 (.ret)))
theorem k106 : FnC Tryz.prog 106 53 [] [] [.tmp 7] c106 6 := ⟨Tryz.f106, _, Tryz.func106, rfl, by decide, rfl, by decide, by kernel_rfl, by kernel_rfl⟩
end Go.Proofs.YtbhbbjngndmnmaaGreatDoor.H
namespace Go.Proofs.YtbhbbjngndmnmaaGreatDoor
open Go Go.Ab
def c3 : AC :=
 .seq (.reg [ap 7 (.box (tm 0)),
 ap 8 (.box (tm 1)),
 ap 9 (.box (tm 2)),
 ap 14 (.mov (.lit (.bool false)))])
 (.seq (.reg [ap 56 (.faddr 2 (tm 7)),
 ap 57 (.load false 1 (tm 56)),
 ap 58 (.len (tm 57)),
 ap 59 (.faddr 3 (tm 7)),
 ap 60 (.load false 1 (tm 59)),
 ap 61 (.len (tm 60)),
 ap 62 (.faddr 4 (tm 7)),
 ap 63 (.load false 1 (tm 62)),
 ap 64 (.len (tm 63)),
 ap 65 (.faddr 3 (tm 8)),
 ap 66 (.load false 1 (tm 65)),
 ap 67 (.len (tm 66)),
 ap 68 (.faddr 4 (tm 8)),
 ap 69 (.load false 1 (tm 68)),
 ap 70 (.len (tm 69)),
 ap 71 (.faddr 4 (tm 9)),
 ap 72 (.load false 1 (tm 71)),
 ap 73 (.len (tm 72)),
 ap 74 (.mxmn true (tm 58) [(tm 61), (tm 64), (tm 67), (tm 70), (tm 73)]),
 ap 15 (.mov (tm 74))])
 (.seq (.seq (.reg [ap 75 (.faddr 4 (tm 9)),
 ap 76 (.load false 1 (tm 75)),
 ap 77 (.len (tm 76)),
 ap 78 (.mov (zi 0))])
 (.block 0 (.loop (.seq (.reg [ap 79 (.bin .lss (tm 78) (tm 77))])
 (.seq (.cond (tm 79) (.skip)
 (.exit 0))
 (.seq (.block 1 (.seq (.reg [ap 80 (.iaddr 1 (tm 76) (tm 78)),
 ap 81 (.load false 1 (tm 80)),
 ap 17 (.mov (tm 81))])
 (.reg [ap 82 (.mov (tm 15)),
 ap 83 (.mov (tm 17)),
 ap 84 (.len (tm 83)),
 ap 85 (.mxmn true (tm 82) [(tm 84)]),
 ap 15 (.mov (tm 85))])))
 (.reg [ap 86 (.bin .add (tm 78) (zi 1)),
 ap 78 (.mov (tm 86))])))))))
 (.seq (.seq (.reg [ap 87 (.mov (tm 15)),
 ap 88 (.bin .gtr (tm 87) (zi 40)),
 ap 89 (.mov (tm 88)),
 aF 90 89 (.load true 5 (tm 7)),
 aF 91 89 (.call (.fn 4) [(tm 90)]),
 aF 92 89 (.un .not (tm 91)),
 ap 93 (.pick (tm 89) (.lit (.bool true)) (tm 92)),
 ap 94 (.mov (tm 93)),
 aF 95 94 (.load true 5 (tm 8)),
 aF 96 94 (.call (.fn 5) [(tm 95)]),
 aF 97 94 (.un .not (tm 96)),
 ap 98 (.pick (tm 94) (.lit (.bool true)) (tm 97)),
 ap 99 (.mov (tm 98)),
 aF 100 99 (.load true 5 (tm 9)),
 aF 101 99 (.call (.fn 6) [(tm 100)]),
 aF 102 99 (.un .not (tm 101)),
 ap 103 (.pick (tm 99) (.lit (.bool true)) (tm 102)),
 ap 104 (.mov (tm 103)),
 aF 105 104 (.faddr 4 (tm 9)),
 aF 106 104 (.load false 1 (tm 105)),
 aF 107 104 (.len (tm 106)),
 aF 108 104 (.bin .eql (tm 107) (zi 0)),
 ap 109 (.pick (tm 104) (.lit (.bool true)) (tm 108))])
 (.cond (tm 109) (.seq (.reg [ap 110 (.call (.fn 7) []),
 ap 14 (.mov (tm 110))])
 (.ret))
 (.skip)))
 (.seq (.seq (.gcp)
 (.reg [ap 111 (.mov (tm 4)),
 ap 112 (.call (.fn 8) [(tm 111)]),
 ap 18 (.mov (tm 112))]))
 (.seq (.reg [ap 19 (.mov (.lit (.slice none 0 0)))])
 (.seq (.seq (.reg [ap 113 (.faddr 3 (tm 8)),
 ap 114 (.load false 1 (tm 113)),
 ap 115 (.len (tm 114)),
 ap 116 (.mov (zi 0))])
 (.block 2 (.loop (.seq (.reg [ap 117 (.bin .lss (tm 116) (tm 115))])
 (.seq (.cond (tm 117) (.skip)
 (.exit 2))
 (.seq (.block 3 (.seq (.reg [ap 118 (.iaddr 3 (tm 114) (tm 116)),
 ap 119 (.load true 3 (tm 118)),
 ap 21 (.alloc [(.int .i64 0), (.int .i64 0), (.int .i64 0)]),
 aU (.store 3 (tm 21) (tm 119))])
 (.seq (.draw (.step (ap 120 (.mov (tm 18))) (
 .step (ap 121 (.faddr 0 (tm 21))) (
 .step (ap 122 (.load true 2 (tm 121))) (
 .step (ap 124 (.faddr 2 (tm 21))) (
 .step (ap 125 (.load false 1 (tm 124))) (
 .step (ap 126 (.bin .eql (tm 125) (zi 2))) (
 .ev (ap 123 (.call (tm 120) [(tm 122)])) [ap 125 (.load false 1 (tm 124)), ap 124 (.faddr 2 (tm 21)), ap 121 (.faddr 0 (tm 21))] (
 .step (ap 127 (.mov (tm 126))) (
 .step (aF 128 127 (.faddr 2 (tm 21))) (
 .step (aF 129 127 (.load false 1 (tm 128))) (
 .step (aF 130 127 (.bin .eql (tm 129) (zi 1))) (
 .step (aF 131 127 (.mov (tm 130))) (
 .step (aT 132 131 (.mov (tm 18))) (
 .ev (aT 133 131 (.call (.fn 9) [(zi 0), (zi 1)])) [aF 129 127 (.load false 1 (tm 128)), aF 128 127 (.faddr 2 (tm 21)), ap 125 (.load false 1 (tm 124)), ap 124 (.faddr 2 (tm 21)), ap 122 (.load true 2 (tm 121)), ap 121 (.faddr 0 (tm 21))] (
 .ev (aT 134 131 (.call (tm 132) [(tm 133)])) [aF 129 127 (.load false 1 (tm 128)), aF 128 127 (.faddr 2 (tm 21)), ap 125 (.load false 1 (tm 124)), ap 124 (.faddr 2 (tm 21)), ap 122 (.load true 2 (tm 121)), ap 121 (.faddr 0 (tm 21))] (
 .step (aT 135 131 (.bin .eql (tm 134) (zi 1))) (
 .step (aF 136 127 (.pick (tm 131) (tm 135) (.lit (.bool false)))) (
 .step (ap 137 (.pick (tm 127) (.lit (.bool true)) (tm 136))) (
 .step (ap 22 (.mov (tm 123))) (
 .step (ap 23 (.mov (tm 137))) (
 .done))))))
 (.stop))
 (.stop))))))))
 (.stop)))))))))
 (.block 4 (.seq (.reg [ap 142 (.mov (tm 23)),
 ap 143 (.mov (tm 142)),
 aF 144 143 (.mov (tm 22)),
 aF 145 143 (.faddr 1 (tm 8)),
 aF 146 143 (.load false 1 (tm 145)),
 aF 147 143 (.bin .geq (tm 144) (tm 146)),
 ap 148 (.pick (tm 143) (.lit (.bool true)) (tm 147)),
 ap 141 (.mov (tm 148))])
 (.cond (tm 141) (.reg [ap 149 (.mov (tm 19)),
 ap 150 (.bslice 1 (.int .i64 0) 1 [(0, (zi 2))]),
 ap 151 (.app 1 8 (tm 149) (tm 150)),
 ap 19 (.mov (tm 151))])
 (.seq (.reg [ap 153 (.mov (tm 22)),
 ap 154 (.faddr 0 (tm 8)),
 ap 155 (.load false 1 (tm 154)),
 ap 156 (.bin .lss (tm 153) (tm 155)),
 ap 152 (.mov (tm 156))])
 (.cond (tm 152) (.reg [ap 157 (.mov (tm 19)),
 ap 158 (.bslice 1 (.int .i64 0) 1 [(0, (zi 0))]),
 ap 159 (.app 1 8 (tm 157) (tm 158)),
 ap 19 (.mov (tm 159))])
 (.reg [ap 138 (.mov (tm 19)),
 ap 139 (.bslice 1 (.int .i64 0) 1 [(0, (zi 1))]),
 ap 140 (.app 1 8 (tm 138) (tm 139)),
 ap 19 (.mov (tm 140))])))))))))
 (.reg [ap 160 (.bin .add (tm 116) (zi 1)),
 ap 116 (.mov (tm 160))])))))))
 (.seq (.seq (.gcp)
 (.reg [ap 161 (.load true 5 (tm 8)),
 ap 162 (.mov (tm 19)),
 ap 163 (.call (.fn 10) [(tm 161), (tm 162)]),
 ap 24 (.mov (tm 163))]))
 (.seq (.reg [ap 164 (.load true 5 (tm 8)),
 ap 25 (.alloc [(.int .i64 0), (.int .i64 0), (.int .i64 0), (.slice none 0 0), (.slice none 0 0)]),
 aU (.store 5 (tm 25) (tm 164))])
 (.seq (.reg [ap 165 (.faddr 4 (tm 25)),
 aU (.store 1 (tm 165) (.lit (.slice none 0 0)))])
 (.seq (.seq (.reg [ap 166 (.faddr 4 (tm 8)),
 ap 167 (.load false 1 (tm 166)),
 ap 168 (.len (tm 167)),
 ap 169 (.mov (zi 0))])
 (.block 5 (.loop (.seq (.reg [ap 170 (.bin .lss (tm 169) (tm 168))])
 (.seq (.cond (tm 170) (.skip)
 (.exit 5))
 (.seq (.block 6 (.seq (.reg [ap 171 (.iaddr 2 (tm 167) (tm 169)),
 ap 172 (.load true 2 (tm 171)),
 ap 27 (.alloc [(.int .i64 0), (.bool false)]),
 aU (.store 2 (tm 27) (tm 172))])
 (.draw (.step (ap 173 (.faddr 4 (tm 25))) (
 .step (ap 174 (.load false 1 (tm 173))) (
 .step (ap 175 (.faddr 0 (tm 27))) (
 .step (ap 176 (.load false 1 (tm 175))) (
 .step (ap 177 (.mov (tm 24))) (
 .step (ap 178 (.faddr 0 (tm 27))) (
 .step (ap 179 (.load false 1 (tm 178))) (
 .step (ap 180 (.iaddr 1 (tm 177) (tm 179))) (
 .step (ap 181 (.load false 1 (tm 180))) (
 .step (ap 182 (.build [(.int .i64 0), (.bool false)] [(0, 1, (tm 176)), (1, 1, (tm 181))])) (
 .ev (ap 183 (.bslice 2 (.agg #[(.int .i64 0), (.bool false)]) 1 [(0, (tm 182))])) [ap 181 (.load false 1 (tm 180)), ap 180 (.iaddr 1 (tm 177) (tm 179)), ap 179 (.load false 1 (tm 178)), ap 178 (.faddr 0 (tm 27)), ap 176 (.load false 1 (tm 175)), ap 175 (.faddr 0 (tm 27)), ap 174 (.load false 1 (tm 173)), ap 173 (.faddr 4 (tm 25))] (
 .ev (ap 184 (.app 2 16 (tm 174) (tm 183))) [ap 181 (.load false 1 (tm 180)), ap 180 (.iaddr 1 (tm 177) (tm 179)), ap 179 (.load false 1 (tm 178)), ap 178 (.faddr 0 (tm 27)), ap 176 (.load false 1 (tm 175)), ap 175 (.faddr 0 (tm 27)), ap 173 (.faddr 4 (tm 25))] (
 .step (ap 185 (.faddr 4 (tm 25))) (
 .ev (aU (.store 1 (tm 185) (tm 184))) [] (
 .done)
 (.stop)))
 (.stop))
 (.stop)))))))))))))))
 (.reg [ap 186 (.bin .add (tm 169) (zi 1)),
 ap 169 (.mov (tm 186))])))))))
 (.seq (.seq (.gcp)
 (.reg [ap 187 (.mov (tm 5)),
 ap 188 (.conv .i64 (tm 187)),
 ap 189 (.faddr 0 (tm 9)),
 ap 190 (.load false 1 (tm 189)),
 ap 191 (.faddr 1 (tm 9)),
 ap 192 (.load false 1 (tm 191)),
 ap 193 (.bin .mul (tm 190) (tm 192)),
 ap 194 (.bin .rem (tm 188) (tm 193)),
 ap 28 (.mov (tm 194))]))
 (.seq (.reg [ap 195 (.mov (tm 28)),
 ap 196 (.bslice 1 (.int .i64 0) 1 [(0, (tm 195))]),
 ap 29 (.mov (tm 196))])
 (.seq (.seq (.reg [ap 197 (.faddr 3 (tm 9)),
 ap 198 (.load false 1 (tm 197)),
 ap 199 (.mov (zi 0))])
 (.block 7 (.loop (.seq (.reg [ap 200 (.bin .lss (tm 199) (tm 198))])
 (.seq (.cond (tm 200) (.skip)
 (.exit 7))
 (.seq (.block 8 (.seq (.reg [ap 201 (.mov (tm 199)),
 ap 30 (.mov (tm 201))])
 (.seq (.seq (.reg [ap 202 (.faddr 2 (tm 9)),
 ap 203 (.load false 1 (tm 202)),
 ap 204 (.mov (zi 0))])
 (.block 9 (.loop (.seq (.reg [ap 205 (.bin .lss (tm 204) (tm 203))])
 (.seq (.cond (tm 205) (.skip)
 (.exit 9))
 (.seq (.block 10 (.seq (.reg [ap 206 (.mov (tm 204)),
 ap 31 (.mov (tm 206))])
 (.seq (.reg [ap 32 (.mov (zi 0))])
 (.seq (.seq (.reg [ap 207 (.mov (tm 6)),
 ap 208 (.len (tm 207)),
 ap 209 (.bin .gtr (tm 208) (zi 0))])
 (.cond (tm 209) (.reg [ap 210 (.mov (tm 6)),
 ap 211 (.mov (tm 30)),
 ap 212 (.faddr 2 (tm 9)),
 ap 213 (.load false 1 (tm 212)),
 ap 214 (.bin .mul (tm 211) (tm 213)),
 ap 215 (.mov (tm 31)),
 ap 216 (.bin .add (tm 214) (tm 215)),
 ap 217 (.mov (tm 6)),
 ap 218 (.len (tm 217)),
 ap 219 (.bin .rem (tm 216) (tm 218)),
 ap 220 (.iaddr 1 (tm 210) (tm 219)),
 ap 221 (.load false 1 (tm 220)),
 ap 222 (.conv .i64 (tm 221)),
 ap 223 (.bin .rem (tm 222) (zi 4)),
 ap 32 (.mov (tm 223))])
 (.skip)))
 (.block 11 (.seq (.reg [ap 225 (.mov (tm 32)),
 ap 226 (.bin .eql (tm 225) (zi 1)),
 ap 227 (.mov (tm 226)),
 aT 228 227 (.mov (tm 28)),
 aT 229 227 (.faddr 0 (tm 9)),
 aT 230 227 (.load false 1 (tm 229)),
 aT 231 227 (.bin .rem (tm 228) (tm 230)),
 aT 232 227 (.bin .gtr (tm 231) (zi 0)),
 ap 233 (.pick (tm 227) (tm 232) (.lit (.bool false))),
 ap 224 (.mov (tm 233))])
 (.cond (tm 224) (.reg [ap 234 (.mov (tm 28)),
 ap 235 (.bin .sub (tm 234) (zi 1)),
 ap 28 (.mov (tm 235))])
 (.seq (.reg [ap 237 (.mov (tm 32)),
 ap 238 (.bin .eql (tm 237) (zi 2)),
 ap 239 (.mov (tm 238)),
 aT 240 239 (.mov (tm 28)),
 aT 241 239 (.faddr 0 (tm 9)),
 aT 242 239 (.load false 1 (tm 241)),
 aT 243 239 (.bin .geq (tm 240) (tm 242)),
 ap 244 (.pick (tm 239) (tm 243) (.lit (.bool false))),
 ap 236 (.mov (tm 244))])
 (.cond (tm 236) (.reg [ap 245 (.mov (tm 28)),
 ap 246 (.faddr 0 (tm 9)),
 ap 247 (.load false 1 (tm 246)),
 ap 248 (.bin .sub (tm 245) (tm 247)),
 ap 28 (.mov (tm 248))])
 (.seq (.reg [ap 250 (.mov (tm 32)),
 ap 251 (.bin .eql (tm 250) (zi 3)),
 ap 252 (.mov (tm 251)),
 aT 253 252 (.mov (tm 28)),
 aT 254 252 (.faddr 0 (tm 9)),
 aT 255 252 (.load false 1 (tm 254)),
 aT 256 252 (.bin .add (tm 253) (tm 255)),
 aT 257 252 (.faddr 0 (tm 9)),
 aT 258 252 (.load false 1 (tm 257)),
 aT 259 252 (.faddr 1 (tm 9)),
 aT 260 252 (.load false 1 (tm 259)),
 aT 261 252 (.bin .mul (tm 258) (tm 260)),
 aT 262 252 (.bin .lss (tm 256) (tm 261)),
 ap 263 (.pick (tm 252) (tm 262) (.lit (.bool false))),
 ap 249 (.mov (tm 263))])
 (.cond (tm 249) (.reg [ap 264 (.mov (tm 28)),
 ap 265 (.faddr 0 (tm 9)),
 ap 266 (.load false 1 (tm 265)),
 ap 267 (.bin .add (tm 264) (tm 266)),
 ap 28 (.mov (tm 267))])
 (.skip))))))))))))
 (.reg [ap 268 (.bin .add (tm 204) (zi 1)),
 ap 204 (.mov (tm 268))])))))))
 (.reg [ap 269 (.mov (tm 29)),
 ap 270 (.mov (tm 28)),
 ap 271 (.bslice 1 (.int .i64 0) 1 [(0, (tm 270))]),
 ap 272 (.app 1 8 (tm 269) (tm 271)),
 ap 29 (.mov (tm 272))]))))
 (.reg [ap 273 (.bin .add (tm 199) (zi 1)),
 ap 199 (.mov (tm 273))])))))))
 (.seq (.seq (.gcp)
 (.reg [ap 274 (.load true 5 (tm 9)),
 ap 33 (.alloc [(.int .i64 0), (.int .i64 0), (.int .i64 0), (.int .i64 0), (.slice none 0 0)]),
 aU (.store 5 (tm 33) (tm 274))]))
 (.seq (.reg [ap 275 (.bslice 1 (.slice none 0 0) 1 [(0, (.lit (.slice none 0 0)))]),
 ap 276 (.faddr 4 (tm 33)),
 aU (.store 1 (tm 276) (tm 275))])
 (.seq (.seq (.reg [ap 277 (.faddr 4 (tm 9)),
 ap 278 (.load false 1 (tm 277)),
 ap 279 (.iaddr 1 (tm 278) (zi 0)),
 ap 280 (.load false 1 (tm 279)),
 ap 281 (.len (tm 280)),
 ap 282 (.mov (zi 0))])
 (.block 12 (.loop (.seq (.reg [ap 283 (.bin .lss (tm 282) (tm 281))])
 (.seq (.cond (tm 283) (.skip)
 (.exit 12))
 (.seq (.block 13 (.seq (.reg [ap 284 (.iaddr 5 (tm 280) (tm 282)),
 ap 285 (.load true 5 (tm 284)),
 ap 35 (.alloc [(.int .i64 0), (.int .i64 0), (.int .i64 0), (.int .i64 0), (.int .i64 0)]),
 aU (.store 5 (tm 35) (tm 285))])
 (.seq (.draw (.step (ap 286 (.mov (tm 29))) (
 .step (ap 287 (.faddr 0 (tm 35))) (
 .step (ap 288 (.load false 1 (tm 287))) (
 .step (ap 289 (.iaddr 1 (tm 286) (tm 288))) (
 .step (ap 290 (.load false 1 (tm 289))) (
 .step (ap 291 (.faddr 0 (tm 9))) (
 .step (ap 292 (.load false 1 (tm 291))) (
 .step (ap 293 (.bin .rem (tm 290) (tm 292))) (
 .step (ap 294 (.mov (tm 29))) (
 .step (ap 295 (.faddr 0 (tm 35))) (
 .step (ap 296 (.load false 1 (tm 295))) (
 .step (ap 297 (.iaddr 1 (tm 294) (tm 296))) (
 .step (ap 298 (.load false 1 (tm 297))) (
 .step (ap 299 (.faddr 0 (tm 9))) (
 .step (ap 300 (.load false 1 (tm 299))) (
 .step (ap 301 (.bin .quo (tm 298) (tm 300))) (
 .step (ap 36 (.mov (tm 293))) (
 .step (ap 37 (.mov (tm 301))) (
 .done))))))))))))))))))))
 (.draw (.step (ap 302 (.faddr 4 (tm 33))) (
 .step (ap 303 (.load false 1 (tm 302))) (
 .step (ap 304 (.faddr 4 (tm 33))) (
 .step (ap 305 (.load false 1 (tm 304))) (
 .step (ap 306 (.iaddr 1 (tm 305) (zi 0))) (
 .step (ap 307 (.load false 1 (tm 306))) (
 .step (ap 308 (.faddr 0 (tm 35))) (
 .step (ap 309 (.load false 1 (tm 308))) (
 .step (ap 310 (.mov (tm 36))) (
 .step (ap 311 (.faddr 0 (tm 9))) (
 .step (ap 312 (.load false 1 (tm 311))) (
 .step (ap 313 (.bin .sub (tm 312) (zi 1))) (
 .step (ap 314 (.mov (tm 36))) (
 .step (ap 315 (.bin .add (tm 314) (zi 1))) (
 .step (ap 316 (.mxmn false (tm 313) [(tm 315)])) (
 .step (ap 318 (.mov (tm 37))) (
 .step (ap 319 (.bin .sub (tm 318) (zi 1))) (
 .step (ap 320 (.mxmn true (zi 0) [(tm 319)])) (
 .step (ap 321 (.mov (tm 37))) (
 .ev (ap 317 (.call (.fn 9) [(tm 310), (tm 316)])) [ap 312 (.load false 1 (tm 311)), ap 311 (.faddr 0 (tm 9)), ap 309 (.load false 1 (tm 308)), ap 308 (.faddr 0 (tm 35)), ap 307 (.load false 1 (tm 306)), ap 306 (.iaddr 1 (tm 305) (zi 0)), ap 305 (.load false 1 (tm 304)), ap 304 (.faddr 4 (tm 33)), ap 303 (.load false 1 (tm 302)), ap 302 (.faddr 4 (tm 33))] (
 .ev (ap 322 (.call (.fn 9) [(tm 320), (tm 321)])) [ap 312 (.load false 1 (tm 311)), ap 311 (.faddr 0 (tm 9)), ap 309 (.load false 1 (tm 308)), ap 308 (.faddr 0 (tm 35)), ap 307 (.load false 1 (tm 306)), ap 306 (.iaddr 1 (tm 305) (zi 0)), ap 305 (.load false 1 (tm 304)), ap 304 (.faddr 4 (tm 33)), ap 303 (.load false 1 (tm 302)), ap 302 (.faddr 4 (tm 33))] (
 .step (ap 323 (.build [(.int .i64 0), (.int .i64 0), (.int .i64 0), (.int .i64 0), (.int .i64 0)] [(0, 1, (tm 309)), (1, 2, (tm 317)), (3, 2, (tm 322))])) (
 .ev (ap 324 (.bslice 5 (.agg #[(.int .i64 0), (.int .i64 0), (.int .i64 0), (.int .i64 0), (.int .i64 0)]) 1 [(0, (tm 323))])) [ap 312 (.load false 1 (tm 311)), ap 311 (.faddr 0 (tm 9)), ap 309 (.load false 1 (tm 308)), ap 308 (.faddr 0 (tm 35)), ap 307 (.load false 1 (tm 306)), ap 306 (.iaddr 1 (tm 305) (zi 0)), ap 305 (.load false 1 (tm 304)), ap 304 (.faddr 4 (tm 33)), ap 303 (.load false 1 (tm 302)), ap 302 (.faddr 4 (tm 33))] (
 .ev (ap 325 (.app 5 40 (tm 307) (tm 324))) [ap 312 (.load false 1 (tm 311)), ap 311 (.faddr 0 (tm 9)), ap 309 (.load false 1 (tm 308)), ap 308 (.faddr 0 (tm 35)), ap 306 (.iaddr 1 (tm 305) (zi 0)), ap 305 (.load false 1 (tm 304)), ap 304 (.faddr 4 (tm 33)), ap 303 (.load false 1 (tm 302)), ap 302 (.faddr 4 (tm 33))] (
 .step (ap 326 (.iaddr 1 (tm 303) (zi 0))) (
 .ev (aU (.store 1 (tm 326) (tm 325))) [] (
 .done)
 (.stop)))
 (.stop))
 (.stop)))
 (.stop))
 (.stop)))))))))))))))))))))))))
 (.reg [ap 327 (.bin .add (tm 282) (zi 1)),
 ap 282 (.mov (tm 327))])))))))
 (.seq (.seq (.gcp)
 (.reg [ap 38 (.mov (.lit (.slice none 0 0))),
 ap 39 (.mov (.lit (.slice none 0 0)))]))
 (.seq (.seq (.reg [ap 328 (.faddr 2 (tm 7)),
 ap 329 (.load false 1 (tm 328)),
 ap 330 (.len (tm 329)),
 ap 331 (.mov (zi 0))])
 (.block 14 (.loop (.seq (.reg [ap 332 (.bin .lss (tm 331) (tm 330))])
 (.seq (.cond (tm 332) (.skip)
 (.exit 14))
 (.seq (.block 15 (.seq (.reg [ap 333 (.mov (tm 331)),
 ap 40 (.mov (tm 333))])
 (.draw (.step (ap 334 (.mov (tm 38))) (
 .step (ap 335 (.mov (tm 18))) (
 .step (ap 336 (.faddr 2 (tm 7))) (
 .step (ap 337 (.load false 1 (tm 336))) (
 .step (ap 338 (.mov (tm 40))) (
 .step (ap 339 (.iaddr 2 (tm 337) (tm 338))) (
 .step (ap 340 (.load true 2 (tm 339))) (
 .step (ap 344 (.mov (tm 39))) (
 .step (ap 345 (.mov (tm 18))) (
 .step (ap 346 (.faddr 3 (tm 7))) (
 .step (ap 347 (.load false 1 (tm 346))) (
 .step (ap 348 (.mov (tm 40))) (
 .step (ap 349 (.iaddr 2 (tm 347) (tm 348))) (
 .step (ap 350 (.load true 2 (tm 349))) (
 .ev (ap 341 (.call (tm 335) [(tm 340)])) [ap 350 (.load true 2 (tm 349)), ap 349 (.iaddr 2 (tm 347) (tm 348)), ap 347 (.load false 1 (tm 346)), ap 346 (.faddr 3 (tm 7)), ap 339 (.iaddr 2 (tm 337) (tm 338)), ap 337 (.load false 1 (tm 336)), ap 336 (.faddr 2 (tm 7))] (
 .ev (ap 342 (.bslice 1 (.int .i64 0) 1 [(0, (tm 341))])) [ap 350 (.load true 2 (tm 349)), ap 349 (.iaddr 2 (tm 347) (tm 348)), ap 347 (.load false 1 (tm 346)), ap 346 (.faddr 3 (tm 7)), ap 340 (.load true 2 (tm 339)), ap 339 (.iaddr 2 (tm 337) (tm 338)), ap 337 (.load false 1 (tm 336)), ap 336 (.faddr 2 (tm 7))] (
 .ev (ap 343 (.app 1 8 (tm 334) (tm 342))) [ap 350 (.load true 2 (tm 349)), ap 349 (.iaddr 2 (tm 347) (tm 348)), ap 347 (.load false 1 (tm 346)), ap 346 (.faddr 3 (tm 7)), ap 340 (.load true 2 (tm 339)), ap 339 (.iaddr 2 (tm 337) (tm 338)), ap 337 (.load false 1 (tm 336)), ap 336 (.faddr 2 (tm 7))] (
 .ev (ap 351 (.call (tm 345) [(tm 350)])) [ap 349 (.iaddr 2 (tm 347) (tm 348)), ap 347 (.load false 1 (tm 346)), ap 346 (.faddr 3 (tm 7)), ap 340 (.load true 2 (tm 339)), ap 339 (.iaddr 2 (tm 337) (tm 338)), ap 337 (.load false 1 (tm 336)), ap 336 (.faddr 2 (tm 7))] (
 .ev (ap 352 (.bslice 1 (.int .i64 0) 1 [(0, (tm 351))])) [ap 350 (.load true 2 (tm 349)), ap 349 (.iaddr 2 (tm 347) (tm 348)), ap 347 (.load false 1 (tm 346)), ap 346 (.faddr 3 (tm 7)), ap 340 (.load true 2 (tm 339)), ap 339 (.iaddr 2 (tm 337) (tm 338)), ap 337 (.load false 1 (tm 336)), ap 336 (.faddr 2 (tm 7))] (
 .ev (ap 353 (.app 1 8 (tm 344) (tm 352))) [ap 350 (.load true 2 (tm 349)), ap 349 (.iaddr 2 (tm 347) (tm 348)), ap 347 (.load false 1 (tm 346)), ap 346 (.faddr 3 (tm 7)), ap 340 (.load true 2 (tm 339)), ap 339 (.iaddr 2 (tm 337) (tm 338)), ap 337 (.load false 1 (tm 336)), ap 336 (.faddr 2 (tm 7))] (
 .step (ap 38 (.mov (tm 343))) (
 .step (ap 39 (.mov (tm 353))) (
 .done)))
 (.stop))
 (.stop))
 (.stop))
 (.stop))
 (.stop))
 (.stop)))))))))))))))))))
 (.reg [ap 354 (.bin .add (tm 331) (zi 1)),
 ap 331 (.mov (tm 354))])))))))
 (.seq (.seq (.gcp)
 (.reg [ap 355 (.mov (tm 38)),
 ap 356 (.mov (tm 39)),
 ap 357 (.build [(.slice none 0 0), (.slice none 0 0)] [(0, 1, (tm 355)), (1, 1, (tm 356))]),
 ap 41 (.alloc [(.slice none 0 0), (.slice none 0 0)]),
 aU (.store 2 (tm 41) (tm 357))]))
 (.seq (.reg [ap 359 (.load true 5 (tm 25)),
 ap 360 (.call (.fn 11) [(tm 359)]),
 ap 358 (.mov (tm 360)),
 ap 361 (.ext (tm 358) 0),
 ap 362 (.ext (tm 358) 1),
 ap 363 (.ext (tm 358) 2),
 ap 42 (.mov (tm 361)),
 ap 43 (.mov (tm 362)),
 ap 44 (.mov (tm 363))])
 (.seq (.seq (.reg [ap 364 (.mov (tm 44)),
 ap 365 (.bin .neq (tm 364) (zi 0))])
 (.cond (tm 365) (.seq (.reg [ap 14 (.mov (.lit (.bool false)))])
 (.ret))
 (.skip)))
 (.seq (.seq (.gcp)
 (.reg [ap 366 (.mov (tm 3)),
 ap 367 (.conv .i64 (tm 366)),
 ap 368 (.faddr 1 (tm 9)),
 ap 369 (.load false 1 (tm 368)),
 ap 370 (.bin .add (tm 369) (zi 1)),
 ap 371 (.bin .rem (tm 367) (tm 370)),
 ap 45 (.mov (tm 371))]))
 (.seq (.seq (.reg [ap 372 (.faddr 3 (tm 8)),
 ap 373 (.load false 1 (tm 372)),
 ap 374 (.len (tm 373)),
 ap 375 (.faddr 2 (tm 7)),
 ap 376 (.load false 1 (tm 375)),
 ap 377 (.len (tm 376)),
 ap 378 (.faddr 3 (tm 9)),
 ap 379 (.load false 1 (tm 378)),
 ap 380 (.bin .add (tm 379) (zi 1)),
 ap 381 (.mxmn false (tm 374) [(tm 377), (tm 380)]),
 ap 382 (.mov (zi 0))])
 (.block 16 (.loop (.seq (.reg [ap 383 (.bin .lss (tm 382) (tm 381))])
 (.seq (.cond (tm 383) (.skip)
 (.exit 16))
 (.seq (.block 17 (.seq (.reg [ap 384 (.mov (tm 382)),
 ap 46 (.mov (tm 384))])
 (.seq (.reg [ap 386 (.load true 5 (tm 33)),
 ap 387 (.mov (tm 46)),
 ap 388 (.call (.fn 12) [(tm 386), (zi 0), (tm 387)]),
 ap 385 (.mov (tm 388)),
 ap 389 (.ext (tm 385) 0),
 ap 390 (.ext (tm 385) 1),
 ap 47 (.alloc [(.int .i64 0), (.int .i64 0)]),
 aU (.store 2 (tm 47) (tm 389)),
 ap 48 (.mov (tm 390))])
 (.seq (.seq (.reg [ap 391 (.mov (tm 48)),
 ap 392 (.bin .neq (tm 391) (zi 0))])
 (.cond (tm 392) (.seq (.reg [ap 14 (.mov (.lit (.bool false)))])
 (.ret))
 (.skip)))
 (.seq (.draw (.step (ap 393 (.mov (tm 43))) (
 .step (ap 394 (.mov (tm 46))) (
 .step (ap 395 (.bin .shr (tm 393) (tm 394))) (
 .step (ap 396 (.bin .and (tm 395) (zi 1))) (
 .step (ap 397 (.bin .eql (tm 396) (zi 0))) (
 .step (ap 398 (.mov (tm 397))) (
 .step (aT 399 398 (.faddr 0 (tm 47))) (
 .step (aT 400 398 (.load false 1 (tm 399))) (
 .step (aT 401 398 (.mov (tm 45))) (
 .step (aT 402 398 (.bin .geq (tm 400) (tm 401))) (
 .step (ap 403 (.pick (tm 398) (tm 402) (.lit (.bool false)))) (
 .step (ap 404 (.mov (tm 42))) (
 .step (ap 405 (.mov (tm 46))) (
 .step (ap 406 (.bin .shr (tm 404) (tm 405))) (
 .step (ap 407 (.bin .and (tm 406) (zi 1))) (
 .step (ap 408 (.bin .eql (tm 407) (zi 1))) (
 .step (ap 409 (.mov (tm 408))) (
 .step (aF 410 409 (.faddr 1 (tm 47))) (
 .step (aF 411 409 (.load false 1 (tm 410))) (
 .step (aF 412 409 (.mov (tm 45))) (
 .step (aF 413 409 (.bin .lss (tm 411) (tm 412))) (
 .step (ap 414 (.pick (tm 409) (.lit (.bool true)) (tm 413))) (
 .step (ap 49 (.mov (tm 403))) (
 .step (ap 50 (.mov (tm 414))) (
 .done))))))))))))))))))))))))))
 (.seq (.draw (.step (ap 415 (.mov (tm 24))) (
 .step (ap 416 (.mov (tm 46))) (
 .step (ap 417 (.iaddr 1 (tm 415) (tm 416))) (
 .step (ap 418 (.load false 1 (tm 417))) (
 .step (ap 419 (.un .not (tm 418))) (
 .step (ap 420 (.mov (tm 419))) (
 .step (aT 421 420 (.mov (tm 29))) (
 .step (aT 422 420 (.mov (tm 46))) (
 .step (aT 423 420 (.iaddr 1 (tm 421) (tm 422))) (
 .step (aT 424 420 (.load false 1 (tm 423))) (
 .step (aT 425 420 (.faddr 0 (tm 9))) (
 .step (aT 426 420 (.load false 1 (tm 425))) (
 .step (aT 427 420 (.bin .quo (tm 424) (tm 426))) (
 .step (aT 428 420 (.mov (tm 45))) (
 .step (aT 429 420 (.bin .geq (tm 427) (tm 428))) (
 .step (ap 430 (.pick (tm 420) (tm 429) (.lit (.bool false)))) (
 .step (ap 51 (.mov (tm 430))) (
 .done)))))))))))))))))))
 (.seq (.seq (.reg [ap 431 (.faddr 4 (tm 7)),
 ap 432 (.load false 1 (tm 431)),
 ap 433 (.len (tm 432)),
 ap 434 (.mov (zi 0))])
 (.block 18 (.loop (.seq (.reg [ap 435 (.bin .lss (tm 434) (tm 433))])
 (.seq (.cond (tm 435) (.skip)
 (.exit 18))
 (.seq (.block 19 (.seq (.reg [ap 436 (.mov (tm 434)),
 ap 52 (.mov (tm 436))])
 (.seq (.reg [ap 438 (.load true 5 (tm 7)),
 ap 439 (.mov (tm 52)),
 ap 440 (.call (.fn 13) [(tm 438), (tm 439)]),
 ap 437 (.mov (tm 440)),
 ap 441 (.ext (tm 437) 0),
 ap 442 (.ext (tm 437) 1),
 ap 443 (.ext (tm 437) 2),
 ap 53 (.mov (tm 441)),
 ap 54 (.mov (tm 442)),
 ap 55 (.mov (tm 443))])
 (.seq (.seq (.reg [ap 444 (.mov (tm 55)),
 ap 445 (.bin .neq (tm 444) (zi 0))])
 (.cond (tm 445) (.seq (.reg [ap 14 (.mov (.lit (.bool false)))])
 (.ret))
 (.skip)))
 (.seq (.draw (.step (ap 446 (.mov (tm 49))) (
 .step (ap 447 (.mov (tm 446))) (
 .step (aT 448 447 (.mov (tm 54))) (
 .step (aT 449 447 (.mov (tm 46))) (
 .step (aT 450 447 (.bin .shr (tm 448) (tm 449))) (
 .step (aT 451 447 (.bin .and (tm 450) (zi 1))) (
 .step (aT 452 447 (.bin .eql (tm 451) (zi 0))) (
 .step (ap 453 (.pick (tm 447) (tm 452) (.lit (.bool false)))) (
 .step (ap 454 (.mov (tm 50))) (
 .step (ap 455 (.mov (tm 454))) (
 .step (aF 456 455 (.mov (tm 53))) (
 .step (aF 457 455 (.mov (tm 46))) (
 .step (aF 458 455 (.bin .shr (tm 456) (tm 457))) (
 .step (aF 459 455 (.bin .and (tm 458) (zi 1))) (
 .step (aF 460 455 (.bin .eql (tm 459) (zi 1))) (
 .step (ap 461 (.pick (tm 455) (.lit (.bool true)) (tm 460))) (
 .step (ap 49 (.mov (tm 453))) (
 .step (ap 50 (.mov (tm 461))) (
 .done))))))))))))))))))))
 (.draw (.step (ap 462 (.mov (tm 51))) (
 .step (ap 463 (.mov (tm 462))) (
 .step (aT 464 463 (.load true 5 (tm 7))) (
 .step (aT 465 463 (.mov (tm 52))) (
 .step (aT 466 463 (.load true 2 (tm 41))) (
 .step (aT 467 463 (.load true 5 (tm 7))) (
 .step (aT 468 463 (.mov (tm 52))) (
 .step (aT 469 463 (.mov (tm 46))) (
 .step (aT 471 463 (.mov (tm 38))) (
 .step (aT 472 463 (.mov (tm 46))) (
 .step (aT 473 463 (.iaddr 1 (tm 471) (tm 472))) (
 .step (aT 474 463 (.load false 1 (tm 473))) (
 .step (aT 475 463 (.mov (tm 39))) (
 .step (aT 476 463 (.mov (tm 46))) (
 .step (aT 477 463 (.iaddr 1 (tm 475) (tm 476))) (
 .step (aT 478 463 (.load false 1 (tm 477))) (
 .ev (aT 470 463 (.call (.fn 15) [(tm 466), (tm 467), (tm 468), (tm 469)])) [aT 478 463 (.load false 1 (tm 477)), aT 477 463 (.iaddr 1 (tm 475) (tm 476)), aT 474 463 (.load false 1 (tm 473)), aT 473 463 (.iaddr 1 (tm 471) (tm 472)), aT 464 463 (.load true 5 (tm 7))] (
 .ev (aT 479 463 (.call (.fn 14) [(tm 464), (tm 465), (tm 470), (tm 474), (tm 478)])) [aT 477 463 (.iaddr 1 (tm 475) (tm 476)), aT 473 463 (.iaddr 1 (tm 471) (tm 472)), aT 467 463 (.load true 5 (tm 7)), aT 466 463 (.load true 2 (tm 41))] (
 .step (aT 480 463 (.un .not (tm 479))) (
 .step (ap 481 (.pick (tm 463) (tm 480) (.lit (.bool false)))) (
 .step (ap 51 (.mov (tm 481))) (
 .done))))
 (.stop))
 (.stop))))))))))))))))))))))))
 (.reg [ap 482 (.bin .add (tm 434) (zi 1)),
 ap 434 (.mov (tm 482))])))))))
 (.seq (.reg [ap 483 (.mov (tm 49)),
 ap 484 (.mov (tm 483)),
 aT 485 484 (.mov (tm 51)),
 aT 486 484 (.un .not (tm 485)),
 ap 487 (.pick (tm 484) (tm 486) (.lit (.bool false))),
 ap 488 (.mov (tm 487)),
 aF 489 488 (.mov (tm 50)),
 aF 490 488 (.mov (tm 489)),
 aT 491 490 (.mov (tm 51)),
 aF 492 488 (.pick (tm 490) (tm 491) (.lit (.bool false))),
 ap 493 (.pick (tm 488) (.lit (.bool true)) (tm 492)),
 ap 494 (.mov (tm 493)),
 aF 495 494 (.mov (tm 49)),
 aF 496 494 (.mov (tm 495)),
 aT 497 496 (.mov (tm 50)),
 aF 498 494 (.pick (tm 496) (tm 497) (.lit (.bool false))),
 ap 499 (.pick (tm 494) (.lit (.bool true)) (tm 498))])
 (.cond (tm 499) (.seq (.reg [ap 14 (.mov (.lit (.bool false)))])
 (.ret))
 (.skip))))))))))
 (.reg [ap 500 (.bin .add (tm 382) (zi 1)),
 ap 382 (.mov (tm 500))])))))))
 (.seq (.reg [ap 501 (.call (.fn 7) []),
 ap 14 (.mov (tm 501))])
 (.ret)))))))))))))))))))))))))
theorem k3 : FnC Tryz.prog 3 502 [] [9, 21, 29, 49, 57, 63, 67] [.tmp 14] c3 7 := ⟨Tryz.f3, _, Tryz.func3, rfl, by decide, rfl, by decide, by kernel_rfl, by kernel_rfl⟩
end Go.Proofs.YtbhbbjngndmnmaaGreatDoor
