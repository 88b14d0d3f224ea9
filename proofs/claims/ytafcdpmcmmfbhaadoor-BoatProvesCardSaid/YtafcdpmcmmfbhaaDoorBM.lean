/- Proved here: laws that the statements need (BoC3o, BoX5, BoC311, BoX6). No conditions but those that each law states. -/
import Derived.Test.YtafcdpmcmmfbhaaDoorFL
import Derived.Test.YtafcdpmcmmfbhaaDoorProg
import Derived.Test.YtafcdpmcmmfbhaaDoorBK

set_option linter.unusedSimpArgs false
set_option linter.unusedVariables false

/- Compiled code of functions, printed by program; each is checked to be the program's. No conditions. -/
namespace Go.Proofs.YtafcdpmcmmfbhaaDoor
open Go Go.Ab
/-- dipworks/dipworksref12.Without -/
def c43 : AC :=
 .seq (.reg [⟨(some 4), none, .mov (.lit (.slice none 0 0))⟩])
 (.seq (.reg [⟨(some 5), none, .mov (.lit (.slice none 0 0))⟩])
 (.seq (.seq (.reg [⟨(some 6), none, .mov (.lit (.int .i64 0))⟩])
 (.block 0 (.loop (.seq (.seq (.reg [⟨(some 7), none, .mov (.tmp 6)⟩,
 ⟨(some 8), none, .mov (.tmp 0)⟩,
 ⟨(some 9), none, .len (.tmp 8)⟩,
 ⟨(some 10), none, .bin .lss (.tmp 7) (.tmp 9)⟩])
 (.cond (.tmp 10) (.skip)
 (.exit 0)))
 (.seq (.block 1 (.seq (.reg [⟨(some 13), none, .mov (.tmp 1)⟩,
 ⟨(some 14), none, .mov (.tmp 6)⟩,
 ⟨(some 15), none, .call (.fn 78) [(.tmp 13), (.tmp 14)]⟩,
 ⟨(some 16), none, .un .not (.tmp 15)⟩])
 (.cond (.tmp 16) (.reg [⟨(some 17), none, .mov (.tmp 5)⟩,
 ⟨(some 18), none, .mov (.tmp 0)⟩,
 ⟨(some 19), none, .mov (.tmp 6)⟩,
 ⟨(some 20), none, .iaddr 5 (.tmp 18) (.tmp 19)⟩,
 ⟨(some 21), none, .load true 5 (.tmp 20)⟩,
 ⟨(some 22), none, .bslice 5 (.agg #[(.int .i64 0), (.int .i64 0), (.int .i64 0), (.int .i64 0), (.int .i64 0)]) 1 [(0, (.tmp 21))]⟩,
 ⟨(some 23), none, .app 5 40 (.tmp 17) (.tmp 22)⟩,
 ⟨(some 5), none, .mov (.tmp 23)⟩])
 (.skip))))
 (.reg [⟨(some 11), none, .mov (.tmp 6)⟩,
 ⟨(some 12), none, .bin .add (.tmp 11) (.lit (.int .i64 1))⟩,
 ⟨(some 6), none, .mov (.tmp 12)⟩]))))))
 (.seq (.reg [⟨(some 24), none, .mov (.tmp 5)⟩,
 ⟨(some 4), none, .mov (.tmp 24)⟩])
 (.ret))))
theorem k43 : FnC Tryd.prog 43 25 [] [] [.tmp 4] c43 2 := ⟨Tryd.f43, _, Tryd.func43, rfl, by decide, rfl, by decide, by kernel_rfl, by kernel_rfl⟩
/-- dipworks/dipworksref12.power -/
def c54 : AC :=
 .seq (.reg [⟨(some 2), none, .mov (.lit (.int .i64 0))⟩])
 (.seq (.reg [⟨(some 3), none, .mov (.lit (.int .i64 1))⟩])
 (.seq (.seq (.reg [⟨(some 4), none, .mov (.lit (.int .i64 0))⟩])
 (.block 0 (.loop (.seq (.seq (.reg [⟨(some 5), none, .mov (.tmp 4)⟩,
 ⟨(some 6), none, .mov (.tmp 0)⟩,
 ⟨(some 7), none, .bin .lss (.tmp 5) (.tmp 6)⟩])
 (.cond (.tmp 7) (.skip)
 (.exit 0)))
 (.seq (.block 1 (.reg [⟨(some 10), none, .mov (.tmp 3)⟩,
 ⟨(some 11), none, .bin .mul (.lit (.int .i64 2)) (.tmp 10)⟩,
 ⟨(some 3), none, .mov (.tmp 11)⟩]))
 (.reg [⟨(some 8), none, .mov (.tmp 4)⟩,
 ⟨(some 9), none, .bin .add (.tmp 8) (.lit (.int .i64 1))⟩,
 ⟨(some 4), none, .mov (.tmp 9)⟩]))))))
 (.seq (.reg [⟨(some 12), none, .mov (.tmp 3)⟩,
 ⟨(some 2), none, .mov (.tmp 12)⟩])
 (.ret))))
theorem k54 : FnC Tryd.prog 54 13 [] [] [.tmp 2] c54 1 := ⟨Tryd.f54, _, Tryd.func54, rfl, by decide, rfl, by decide, by kernel_rfl, by kernel_rfl⟩
/-- dipworks/dipworksref12.Has -/
def c78 : AC :=
 .seq (.reg [⟨(some 4), none, .mov (.lit (.bool false))⟩])
 (.seq (.reg [⟨(some 5), none, .mov (.tmp 0)⟩,
 ⟨(some 6), none, .mov (.tmp 1)⟩,
 ⟨(some 7), none, .call (.fn 54) [(.tmp 6)]⟩,
 ⟨(some 8), none, .bin .quo (.tmp 5) (.tmp 7)⟩,
 ⟨(some 9), none, .bin .rem (.tmp 8) (.lit (.int .i64 2))⟩,
 ⟨(some 10), none, .bin .eql (.tmp 9) (.lit (.int .i64 1))⟩,
 ⟨(some 4), none, .mov (.tmp 10)⟩])
 (.ret))
theorem k78 : FnC Tryd.prog 78 11 [] [] [.tmp 4] c78 2 := ⟨Tryd.f78, _, Tryd.func78, rfl, by decide, rfl, by decide, by kernel_rfl, by kernel_rfl⟩
end Go.Proofs.YtafcdpmcmmfbhaaDoor

/- Sets of sightings, as the document writes them; a boat without some sightings. -/
namespace Go.Proofs.YtafcdpmcmmfbhaaDoor
open Go Go.Ab

theorem power_ok (n : Nat) (hn : n ≤ 40) : ACall Tryd.prog 54 [.t (vi n)] [] (ret (vi ((2 ^ n : Nat) : Int))) := by
  refine ACall.walk k54 ?_
  unfold c54
  have hp : ∀ k : Nat, k ≤ 40 → 2 ^ k ≤ 2 ^ 40 := fun k hk => Nat.pow_le_pow_right (by omega) hk
  simp only [go_sem]
  refine awpL_loopK n (fun k s => s = { env := [(4, .t (vi k)), (3, .t (vi ((2 ^ k : Nat) : Int))), (0, .t (vi n))], σ := [] }) ⟨_, Sub.gc [] [4, 3, 0] rfl rfl, rfl⟩ ?_
  rintro k s hk rfl
  simp only [go_sem, Nat.reduceEqDiff]
  refine BrL.mk (fun h => ?_) (fun h => ?_)
  · have hlt : k < n := by simpa using h
    have h1 := hp k (by omega)
    have e1 : IntKind.i64.wrap (2 * ((2 ^ k : Nat) : Int)) = ((2 ^ (k + 1) : Nat) : Int) := by
      rw [Nat.pow_succ]
      generalize 2 ^ k = q at *
      rw [wrap_id (by omega) (by omega)]; omega
    have e2 : IntKind.i64.wrap ((k : Int) + 1) = ((k + 1 : Nat) : Int) := by rw [wrap_id (by omega) (by omega)]; omega
    simp only [h, go_sem, Nat.reduceEqDiff, e1, e2]
    exact ⟨hlt, _, Sub.gc [] [4, 3, 0] rfl rfl, rfl⟩
  · have : k = n := by have : ¬ (k : Int) < n := by simpa using h
                       omega
    subst this
    simp only [h, go_sem, Nat.reduceEqDiff]
    exact finL_ret [] ⟨rfl, rfl, rfl, rfl, _, rfl, res_mk rfl⟩

theorem has_ok' (a n : Nat) (ha : a < 4096) (hn : n ≤ 40) : ACall Tryd.prog 78 [.t (vi a), .t (vi n)] [] (ret (vb (a.testBit n))) := by
  refine ACall.walk k78 ?_
  unfold c78
  simp only [go_sem, Nat.reduceEqDiff]
  refine ACallL.quiet1 (power_ok n hn) rfl rfl rfl ?_
  have hp := Nat.two_pow_pos n
  have n0 : ¬ (((2 ^ n : Nat) : Int) = 0) := by omega
  have e1 : (a : Int).tdiv ((2 ^ n : Nat) : Int) = ((a / 2 ^ n : Nat) : Int) := by rw [Int.tdiv_eq_ediv_of_nonneg (by omega)]; norm_cast
  have hd : a / 2 ^ n ≤ a := Nat.div_le_self _ _
  have e2 : IntKind.i64.wrap ((a / 2 ^ n : Nat) : Int) = ((a / 2 ^ n : Nat) : Int) := i64_nat (by omega)
  have e3 : ((a / 2 ^ n : Nat) : Int).tmod 2 = ((a / 2 ^ n % 2 : Nat) : Int) := by
    generalize a / 2 ^ n = q at *
    rw [Int.tmod_eq_emod_of_nonneg (by omega)]; norm_cast
  have e4 : ¬ ((2 : Int) = 0) := by omega
  simp only [go_sem, Nat.reduceEqDiff, n0, e1, e2, e3, e4]
  refine finL_ret [] ⟨rfl, rfl, rfl, rfl, _, rfl, res_mk (congrArg (fun x => Out.ret (.t (vb x))) ?_)⟩
  rw [Nat.testBit_eq_decide_div_mod_eq]
  by_cases h : a / 2 ^ n % 2 = 1
  · simp [h]
  · have : a / 2 ^ n % 2 = 0 := by omega
    simp [this]

theorem dec1024 {p : Nat → Prop} [DecidablePred p] (h : ((List.range 1024).all fun n => decide (p n)) = true) (n : Nat) (hn : n < 1024) : p n := by
  have := List.all_eq_true.mp h n (List.mem_range.mpr hn)
  simpa using this
theorem size_step : ∀ m : Nat, m < 1024 → size m = size (m / 2) + m % 2 ∧ size m ≤ 10 := dec1024 (by decide +kernel)

theorem rsize_ok (n : Nat) (hn : n < 1024) : ACall Tryd.prog 44 [.t (vi n)] [] (ret (vi (size n))) := by
  refine ACall.walk k44 ?_
  unfold c44
  simp only [go_sem]
  refine awpL_loopK 11 (fun k s => ∃ m o : Nat, m < 1024 ∧ m * 2 ^ k ≤ n ∧ o + size m = size n ∧ o ≤ k ∧ s = { env := [(0, .t (vi m)), (3, .t (vi o))], σ := [] }) ⟨_, Sub.gc [] [0, 3] rfl rfl, n, 0, hn, by simp, by simp, by omega, rfl⟩ ?_
  rintro k s hk ⟨m, o, hm, hmn, hs, ho, rfl⟩
  simp only [go_sem, Nat.reduceEqDiff]
  refine BrL.mk (fun h => ?_) (fun h => ?_)
  · have hpos : 0 < m := by have : (m : Int) > 0 := by simpa using h
                            omega
    have hk6 : k < 10 := by
      rcases Nat.lt_or_ge k 10 with h | h
      · exact h
      · have h2 : 2 ^ 10 ≤ 2 ^ k := Nat.pow_le_pow_right (by omega) h
        have h3 : 1 * 2 ^ 10 ≤ m * 2 ^ k := Nat.mul_le_mul hpos h2
        omega
    have hst := (size_step m hm).1
    have n2 : ¬ ((2 : Int) = 0) := by omega
    have t1 : (m : Int).tmod 2 = ((m % 2 : Nat) : Int) := by rw [Int.tmod_eq_emod_of_nonneg (by omega)]; omega
    have t2 : (m : Int).tdiv 2 = ((m / 2 : Nat) : Int) := by rw [Int.tdiv_eq_ediv_of_nonneg (by omega)]; omega
    have w1 : IntKind.i64.wrap ((o : Int) + (m % 2 : Nat)) = ((o + m % 2 : Nat) : Int) := by rw [wrap_id (by omega) (by omega)]; omega
    have w2 : IntKind.i64.wrap ((m / 2 : Nat) : Int) = ((m / 2 : Nat) : Int) := wrap_id (by omega) (by omega)
    simp only [h, go_sem, Nat.reduceEqDiff, n2, t1, t2, w1, w2]
    refine ⟨by omega, _, Sub.gc [] [0, 3] rfl rfl, m / 2, o + m % 2, by omega, ?_, by omega, by omega, rfl⟩
    have h3 : m / 2 * 2 ^ (k + 1) = m / 2 * 2 * 2 ^ k := by rw [Nat.pow_succ, Nat.mul_comm (2 ^ k) 2, Nat.mul_assoc]
    have h4 : m / 2 * 2 * 2 ^ k ≤ m * 2 ^ k := Nat.mul_le_mul_right _ (by omega)
    omega
  · have hz : m = 0 := by have : ¬ (m : Int) > 0 := by simpa using h
                          omega
    subst hz
    simp only [go_sem, Nat.reduceEqDiff]
    have : size 0 = 0 := rfl
    exact finL_ret [] ⟨rfl, rfl, rfl, rfl, _, rfl, res_mk (by rw [← hs, this]; rfl)⟩


set_option maxRecDepth 8000 in
set_option maxHeartbeats 4000000 in
theorem without_ok (l : List Si) (hl : l.length ≤ 40) (w : Nat) (hw : w < 4096) : ACall Tryd.prog 43 [.t (tSis l), .t (vi w)] [] (ret (tSis (kept l w l.length))) := by
  refine ACall.walk k43 ?_
  unfold c43 tSis
  simp only [go_sem]
  refine awpL_loopK l.length (fun j st => st = { env := [(6, .t (vi j)), (5, .loc 0 (kept l w j).length), (0, .t (.slice 5 (l.map tSi))), (1, .t (vi w))], σ := [.row 5 (((kept l w j).map tSi).map .t)] }) ⟨_, Sub.trans (Sub.ghost 5 5 (by decide) rfl) (Sub.gc [0] [6, 5, 0, 1] rfl rfl), rfl⟩ ?_
  rintro j st hj rfl
  simp only [go_sem, Nat.reduceEqDiff, List.length_map]
  cases g : decide ((j : Int) < l.length)
  · have hje : j = l.length := by have := of_decide_eq_false g; omega
    subst hje
    simp only [go_sem, Nat.reduceEqDiff]
    refine finL_ret [] ⟨rfl, rfl, rfl, rfl, .loc 0 (kept l w l.length).length, rfl, res_mk ?_⟩
    rw [gc_loc (n := 10) (es := 5) (xs := (kept l w l.length).map tSi) rfl rfl (by simp)]
  have hjl : j < l.length := by have := of_decide_eq_true g; omega
  have hwj : IntKind.i64.wrap ((j : Int) + 1) = ((j + 1 : Nat) : Int) := by rw [wrap_id (by omega) (by omega)]; omega
  have hs : l[j]? = some l[j] := List.getElem?_eq_getElem hjl
  have hk := kept_succ l w hs
  have h78 := has_ok' w j hw (by omega)
  have hkl : (kept l w j).length ≤ j := by unfold kept; exact Nat.le_trans (List.length_filterMap_le _ _) (by simp)
  generalize l[j] = x at *
  simp only [go_sem, Nat.reduceEqDiff]
  refine ACallL.quiet1 h78 rfl rfl rfl ?_
  cases hb : w.testBit j
  · rw [hb] at hk
    simp only [Bool.false_eq_true, if_false] at hk
    obtain ⟨x1, x2, x3, x4, x5⟩ := x
    simp only [go_sem, Nat.reduceEqDiff, Nat.reduceAdd, Nat.reduceLT, Bool.not_false, List.length_map, List.getElem?_map, hs, Option.map_some, tSi, hwj]
    refine ⟨⟨Nat.le_trans (show _ ≤ 50 by omega) (by decide), by omega⟩, hjl, _, Sub.gc [0] [6, 5, 0, 1] rfl rfl, ?_⟩
    rw [hk]
    rw [show ((kept l w j).map tSi).map E.t ++ [E.t (.agg [vi x1, vi x2, vi x3, vi x4, vi x5])] = ((kept l w j ++ [(⟨x1, x2, x3, x4, x5⟩ : Si)]).map tSi).map E.t by simp [tSi]]
    refine St.gc_mk ?_ ?_ rfl rfl
    · rw [List.length_append]; rfl
    · simp only [σgc, List.map_cons, List.map_nil, List.getD_cons_zero, AO.gc, gc_row]
  · rw [hb, if_pos rfl] at hk
    simp only [go_sem, Nat.reduceEqDiff, Bool.not_true, hwj]
    refine ⟨hjl, _, Sub.gc [0] [6, 5, 0, 1] rfl rfl, ?_⟩
    rw [hk]
    refine St.gc_mk rfl ?_ rfl rfl
    simp only [σgc, List.map_cons, List.map_nil, List.getD_cons_zero, AO.gc, gc_row]
end Go.Proofs.YtafcdpmcmmfbhaaDoor

/- Compiled code of functions, printed by program; each is checked to be the program's. No conditions. -/
namespace Go.Proofs.YtafcdpmcmmfbhaaDoor
open Go Go.Ab
/-- dipworks/dipworkslaw12.BoatWrong -/
def c11 : AC :=
 .seq (.reg [⟨(some 3), none, .box (.tmp 0)⟩,
 ⟨(some 6), none, .mov (.lit (.bool false))⟩])
 (.seq (.seq (.reg [⟨(some 15), none, .load true 5 (.tmp 3)⟩,
 ⟨(some 16), none, .call (.fn 32) [(.tmp 15)]⟩,
 ⟨(some 17), none, .un .not (.tmp 16)⟩,
 ⟨(some 18), none, .mov (.tmp 17)⟩,
 ⟨(some 19), (some (18, false)), .faddr 4 (.tmp 3)⟩,
 ⟨(some 20), (some (18, false)), .load false 1 (.tmp 19)⟩,
 ⟨(some 21), (some (18, false)), .len (.tmp 20)⟩,
 ⟨(some 22), (some (18, false)), .bin .eql (.tmp 21) (.lit (.int .i64 0))⟩,
 ⟨(some 23), none, .pick (.tmp 18) (.lit (.bool true)) (.tmp 22)⟩])
 (.cond (.tmp 23) (.seq (.reg [⟨(some 24), none, .call (.fn 15) []⟩,
 ⟨(some 6), none, .mov (.tmp 24)⟩])
 (.ret))
 (.skip)))
 (.seq (.reg [⟨(some 25), none, .mov (.tmp 1)⟩,
 ⟨(some 26), none, .conv .i64 (.tmp 25)⟩,
 ⟨(some 27), none, .faddr 4 (.tmp 3)⟩,
 ⟨(some 28), none, .load false 1 (.tmp 27)⟩,
 ⟨(some 29), none, .len (.tmp 28)⟩,
 ⟨(some 30), none, .bin .rem (.tmp 26) (.tmp 29)⟩,
 ⟨(some 7), none, .alloc [(.int .i64 0)]⟩,
 ⟨none, none, .store 1 (.tmp 7) (.tmp 30)⟩])
 (.seq (.reg [⟨(some 32), none, .load true 5 (.tmp 3)⟩,
 ⟨(some 33), none, .load false 1 (.tmp 7)⟩,
 ⟨(some 34), none, .call (.fn 30) [(.tmp 32), (.tmp 33)]⟩,
 ⟨(some 31), none, .mov (.tmp 34)⟩,
 ⟨(some 35), none, .ext (.tmp 31) 0⟩,
 ⟨(some 36), none, .ext (.tmp 31) 1⟩,
 ⟨(some 8), none, .mov (.tmp 35)⟩,
 ⟨(some 9), none, .mov (.tmp 36)⟩])
 (.seq (.reg [⟨(some 37), none, .mkfn (.func 42) [] [(.tmp 3), (.tmp 7)]⟩,
 ⟨(some 10), none, .mov (.tmp 37)⟩])
 (.seq (.seq (.reg [⟨(some 38), none, .mov (.tmp 9)⟩,
 ⟨(some 39), none, .bin .eql (.tmp 38) (.lit (.int .i64 4))⟩,
 ⟨(some 40), none, .mov (.tmp 10)⟩,
 ⟨(some 41), none, .call (.tmp 40) [(.lit (.int .i64 0))]⟩,
 ⟨(some 42), none, .eqb true (.tmp 39) (.tmp 41)⟩,
 ⟨(some 43), none, .mov (.tmp 42)⟩,
 ⟨(some 44), (some (43, false)), .mov (.tmp 9)⟩,
 ⟨(some 45), (some (43, false)), .bin .neq (.tmp 44) (.lit (.int .i64 0))⟩,
 ⟨(some 46), (some (43, false)), .mov (.tmp 45)⟩,
 ⟨(some 47), (some (46, true)), .mov (.tmp 9)⟩,
 ⟨(some 48), (some (46, true)), .bin .neq (.tmp 47) (.lit (.int .i64 4))⟩,
 ⟨(some 49), (some (46, true)), .mov (.tmp 48)⟩,
 ⟨(some 50), (some (49, false)), .mov (.tmp 8)⟩,
 ⟨(some 51), (some (49, false)), .bin .neq (.tmp 50) (.lit (.int .i64 0))⟩,
 ⟨(some 52), (some (46, true)), .pick (.tmp 49) (.lit (.bool true)) (.tmp 51)⟩,
 ⟨(some 53), (some (43, false)), .pick (.tmp 46) (.tmp 52) (.lit (.bool false))⟩,
 ⟨(some 54), none, .pick (.tmp 43) (.lit (.bool true)) (.tmp 53)⟩])
 (.cond (.tmp 54) (.seq (.reg [⟨(some 6), none, .mov (.lit (.bool false))⟩])
 (.ret))
 (.skip)))
 (.seq (.seq (.reg [⟨(some 55), none, .mov (.tmp 9)⟩,
 ⟨(some 56), none, .bin .neq (.tmp 55) (.lit (.int .i64 0))⟩])
 (.cond (.tmp 56) (.seq (.reg [⟨(some 57), none, .call (.fn 15) []⟩,
 ⟨(some 6), none, .mov (.tmp 57)⟩])
 (.ret))
 (.skip)))
 (.seq (.reg [⟨(some 58), none, .faddr 4 (.tmp 3)⟩,
 ⟨(some 59), none, .load false 1 (.tmp 58)⟩,
 ⟨(some 60), none, .load false 1 (.tmp 7)⟩,
 ⟨(some 61), none, .iaddr 1 (.tmp 59) (.tmp 60)⟩,
 ⟨(some 62), none, .load false 1 (.tmp 61)⟩,
 ⟨(some 63), none, .len (.tmp 62)⟩,
 ⟨(some 64), none, .bin .shl (.lit (.int .i64 1)) (.tmp 63)⟩,
 ⟨(some 65), none, .bin .sub (.tmp 64) (.lit (.int .i64 1))⟩,
 ⟨(some 11), none, .mov (.tmp 65)⟩])
 (.seq (.seq (.reg [⟨(some 66), none, .mov (.tmp 8)⟩,
 ⟨(some 67), none, .bin .lss (.tmp 66) (.lit (.int .i64 1))⟩,
 ⟨(some 68), none, .mov (.tmp 67)⟩,
 ⟨(some 69), (some (68, false)), .mov (.tmp 8)⟩,
 ⟨(some 70), (some (68, false)), .mov (.tmp 11)⟩,
 ⟨(some 71), (some (68, false)), .bin .gtr (.tmp 69) (.tmp 70)⟩,
 ⟨(some 72), none, .pick (.tmp 68) (.lit (.bool true)) (.tmp 71)⟩,
 ⟨(some 73), none, .mov (.tmp 72)⟩,
 ⟨(some 74), (some (73, false)), .mov (.tmp 10)⟩,
 ⟨(some 75), (some (73, false)), .mov (.tmp 8)⟩,
 ⟨(some 76), (some (73, false)), .call (.tmp 74) [(.tmp 75)]⟩,
 ⟨(some 77), (some (73, false)), .un .not (.tmp 76)⟩,
 ⟨(some 78), none, .pick (.tmp 73) (.lit (.bool true)) (.tmp 77)⟩])
 (.cond (.tmp 78) (.seq (.reg [⟨(some 6), none, .mov (.lit (.bool false))⟩])
 (.ret))
 (.skip)))
 (.seq (.seq (.reg [⟨(some 79), none, .faddr 4 (.tmp 3)⟩,
 ⟨(some 80), none, .load false 1 (.tmp 79)⟩,
 ⟨(some 81), none, .load false 1 (.tmp 7)⟩,
 ⟨(some 82), none, .iaddr 1 (.tmp 80) (.tmp 81)⟩,
 ⟨(some 83), none, .load false 1 (.tmp 82)⟩,
 ⟨(some 84), none, .len (.tmp 83)⟩,
 ⟨(some 85), none, .mov (.lit (.int .i64 0))⟩])
 (.block 0 (.loop (.seq (.reg [⟨(some 86), none, .bin .lss (.tmp 85) (.tmp 84)⟩])
 (.seq (.cond (.tmp 86) (.skip)
 (.exit 0))
 (.seq (.block 1 (.seq (.reg [⟨(some 87), none, .mov (.tmp 85)⟩,
 ⟨(some 12), none, .mov (.tmp 87)⟩])
 (.seq (.reg [⟨(some 88), none, .mov (.tmp 8)⟩,
 ⟨(some 89), none, .mov (.tmp 12)⟩,
 ⟨(some 90), none, .bin .shr (.tmp 88) (.tmp 89)⟩,
 ⟨(some 91), none, .bin .and (.tmp 90) (.lit (.int .i64 1))⟩,
 ⟨(some 92), none, .bin .eql (.tmp 91) (.lit (.int .i64 1))⟩,
 ⟨(some 93), none, .mov (.tmp 92)⟩,
 ⟨(some 94), (some (93, true)), .mov (.tmp 10)⟩,
 ⟨(some 95), (some (93, true)), .mov (.tmp 8)⟩,
 ⟨(some 96), (some (93, true)), .mov (.tmp 12)⟩,
 ⟨(some 97), (some (93, true)), .bin .shl (.lit (.int .i64 1)) (.tmp 96)⟩,
 ⟨(some 98), (some (93, true)), .bin .andNot (.tmp 95) (.tmp 97)⟩,
 ⟨(some 99), (some (93, true)), .call (.tmp 94) [(.tmp 98)]⟩,
 ⟨(some 100), none, .pick (.tmp 93) (.tmp 99) (.lit (.bool false))⟩])
 (.cond (.tmp 100) (.seq (.reg [⟨(some 6), none, .mov (.lit (.bool false))⟩])
 (.ret))
 (.skip)))))
 (.reg [⟨(some 101), none, .bin .add (.tmp 85) (.lit (.int .i64 1))⟩,
 ⟨(some 85), none, .mov (.tmp 101)⟩])))))))
 (.seq (.reg [⟨(some 102), none, .mov (.tmp 2)⟩,
 ⟨(some 103), none, .conv .i64 (.tmp 102)⟩,
 ⟨(some 104), none, .mov (.tmp 11)⟩,
 ⟨(some 105), none, .bin .and (.tmp 103) (.tmp 104)⟩,
 ⟨(some 13), none, .mov (.tmp 105)⟩,
 ⟨(some 14), none, .mov (.fn 44)⟩])
 (.seq (.reg [⟨(some 106), none, .mov (.tmp 10)⟩,
 ⟨(some 107), none, .mov (.tmp 13)⟩,
 ⟨(some 108), none, .call (.tmp 106) [(.tmp 107)]⟩,
 ⟨(some 109), none, .un .not (.tmp 108)⟩,
 ⟨(some 110), none, .mov (.tmp 109)⟩,
 ⟨(some 111), (some (110, false)), .mov (.tmp 14)⟩,
 ⟨(some 112), (some (110, false)), .mov (.tmp 13)⟩,
 ⟨(some 113), (some (110, false)), .call (.tmp 111) [(.tmp 112)]⟩,
 ⟨(some 114), (some (110, false)), .mov (.tmp 14)⟩,
 ⟨(some 115), (some (110, false)), .mov (.tmp 8)⟩,
 ⟨(some 116), (some (110, false)), .call (.tmp 114) [(.tmp 115)]⟩,
 ⟨(some 117), (some (110, false)), .bin .gtr (.tmp 113) (.tmp 116)⟩,
 ⟨(some 118), none, .pick (.tmp 110) (.lit (.bool true)) (.tmp 117)⟩,
 ⟨(some 119), none, .mov (.tmp 118)⟩,
 ⟨(some 120), (some (119, false)), .mov (.tmp 14)⟩,
 ⟨(some 121), (some (119, false)), .mov (.tmp 13)⟩,
 ⟨(some 122), (some (119, false)), .call (.tmp 120) [(.tmp 121)]⟩,
 ⟨(some 123), (some (119, false)), .mov (.tmp 14)⟩,
 ⟨(some 124), (some (119, false)), .mov (.tmp 8)⟩,
 ⟨(some 125), (some (119, false)), .call (.tmp 123) [(.tmp 124)]⟩,
 ⟨(some 126), (some (119, false)), .bin .eql (.tmp 122) (.tmp 125)⟩,
 ⟨(some 127), (some (119, false)), .mov (.tmp 126)⟩,
 ⟨(some 128), (some (127, true)), .mov (.tmp 13)⟩,
 ⟨(some 129), (some (127, true)), .mov (.tmp 8)⟩,
 ⟨(some 130), (some (127, true)), .bin .geq (.tmp 128) (.tmp 129)⟩,
 ⟨(some 131), (some (119, false)), .pick (.tmp 127) (.tmp 130) (.lit (.bool false))⟩,
 ⟨(some 132), none, .pick (.tmp 119) (.lit (.bool true)) (.tmp 131)⟩,
 ⟨(some 133), none, .mov (.tmp 132)⟩,
 ⟨(some 134), (some (133, true)), .call (.fn 15) []⟩,
 ⟨(some 135), none, .pick (.tmp 133) (.tmp 134) (.lit (.bool false))⟩,
 ⟨(some 6), none, .mov (.tmp 135)⟩])
 (.ret))))))))))))
theorem k11 : FnC Tryd.prog 11 136 [] [] [.tmp 6] c11 3 := ⟨Tryd.f11, _, Tryd.func11, rfl, by decide, rfl, by decide, by kernel_rfl, by kernel_rfl⟩
/-- dipworks/dipworkslaw12.BoatWrong$1 -/
def c42 : AC :=
 .seq (.reg [⟨(some 4), none, .mov (.lit (.bool false))⟩])
 (.seq (.reg [⟨(some 8), none, .load true 5 (.tmp 1)⟩,
 ⟨(some 5), none, .alloc [(.int .i64 0), (.int .i64 0), (.int .i64 0), (.int .i64 0), (.slice none 0 0)]⟩,
 ⟨none, none, .store 5 (.tmp 5) (.tmp 8)⟩])
 (.seq (.reg [⟨(some 9), none, .faddr 4 (.tmp 1)⟩,
 ⟨(some 10), none, .load false 1 (.tmp 9)⟩,
 ⟨(some 11), none, .load false 1 (.tmp 2)⟩,
 ⟨(some 12), none, .iaddr 1 (.tmp 10) (.tmp 11)⟩,
 ⟨(some 13), none, .load false 1 (.tmp 12)⟩,
 ⟨(some 14), none, .mov (.tmp 0)⟩,
 ⟨(some 15), none, .call (.fn 43) [(.tmp 13), (.tmp 14)]⟩,
 ⟨(some 16), none, .bslice 1 (.slice none 0 0) 1 [(0, (.tmp 15))]⟩,
 ⟨(some 17), none, .faddr 4 (.tmp 5)⟩,
 ⟨none, none, .store 1 (.tmp 17) (.tmp 16)⟩])
 (.seq (.seq (.gcp)
 (.reg [⟨(some 19), none, .load true 5 (.tmp 5)⟩,
 ⟨(some 20), none, .call (.fn 37) [(.tmp 19), (.lit (.int .i64 0)), (.lit (.int .i64 0))]⟩,
 ⟨(some 18), none, .mov (.tmp 20)⟩,
 ⟨(some 21), none, .ext (.tmp 18) 0⟩,
 ⟨(some 22), none, .ext (.tmp 18) 1⟩,
 ⟨(some 6), none, .mov (.tmp 21)⟩,
 ⟨(some 7), none, .mov (.tmp 22)⟩]))
 (.seq (.reg [⟨(some 23), none, .mov (.tmp 7)⟩,
 ⟨(some 4), none, .mov (.tmp 23)⟩])
 (.ret)))))
theorem k42 : FnC Tryd.prog 42 24 [] [3] [.tmp 4] c42 3 := ⟨Tryd.f42, _, Tryd.func42, rfl, by decide, rfl, by decide, by kernel_rfl, by kernel_rfl⟩
end Go.Proofs.YtafcdpmcmmfbhaaDoor

/- Plain laws: which sightings must be wrong; a boat alone, without some sightings. -/
namespace Go.Proofs.YtafcdpmcmmfbhaaDoor
open Go Go.Ab

theorem kept_zero (l : List Si) : ∀ n, n ≤ l.length → kept l 0 n = l.take n
  | 0, _ => by simp [kept]
  | n + 1, h => by
    have hs : l[n]? = some l[n] := List.getElem?_eq_getElem (by omega)
    rw [kept_succ l 0 hs, kept_zero l n (by omega), List.take_add_one, hs]
    simp
theorem kept_nought (l : List Si) : kept l 0 l.length = l := by rw [kept_zero l _ (Nat.le_refl _), List.take_length]
theorem kept_sub (l : List Si) (w : Nat) : ∀ n, n ≤ l.length → (kept l w n).Sublist (l.take n)
  | 0, _ => by simp [kept]
  | n + 1, h => by
    have hs : l[n]? = some l[n] := List.getElem?_eq_getElem (by omega)
    rw [kept_succ l w hs, List.take_add_one, hs]
    have ih := kept_sub l w n (by omega)
    cases w.testBit n
    · exact ih.append (List.Sublist.refl _)
    · exact ih.trans (List.sublist_append_left _ _)
theorem kept_subl (l : List Si) (w : Nat) : (kept l w l.length).Sublist l := by
  have := kept_sub l w l.length (Nat.le_refl _)
  rwa [List.take_length] at this
theorem saw_less {b : Bo} {l : List Si} {m m' : Int} (hm : m' ≤ m) (h : sawB b m l = true) : sawB b m' l = true := by
  cases l with
  | nil => rfl
  | cons s l =>
    unfold sawB at h ⊢
    rw [Bool.and_eq_true, okB_iff] at h ⊢
    exact ⟨⟨⟨by omega, h.1.1.2⟩, h.1.2⟩, h.2⟩
theorem saw_sub {b : Bo} {l l' : List Si} (hs : l'.Sublist l) : ∀ {m : Int}, sawB b m l = true → sawB b m l' = true := by
  induction hs with
  | slnil => intro m h; exact h
  | cons a hs ih =>
    intro m h
    unfold sawB at h
    rw [Bool.and_eq_true, okB_iff] at h
    exact ih (saw_less h.1.1.1 h.2)
  | cons_cons a hs ih =>
    intro m h
    unfold sawB at h ⊢
    rw [Bool.and_eq_true] at h ⊢
    exact ⟨h.1, ih h.2⟩
theorem saw_bo {b x : Bo} (hW : x.wide = b.wide) (hD : x.deep = b.deep) (hL : x.last = b.last) (l : List Si) : ∀ m : Int, sawB x m l = sawB b m l := by
  induction l with
  | nil => intro m; rfl
  | cons s l ih => intro m; unfold sawB Si.okB; rw [ih, hW, hD, hL]
/-- Boats with other sightings. -/
abbrev withS (b : Bo) (l : List (List Si)) : Bo := { b with seen := l }
theorem withS_OK {b : Bo} (hb : b.OK) {l : List (List Si)} (h4 : l.length ≤ 4) (h : ∀ x ∈ l, x.length ≤ 5 ∧ sawB b 0 x = true) : (withS b l).OK :=
  ⟨hb.wide, hb.deep, hb.speed, hb.last, h4, fun x hx => (h x hx).1, fun x hx => (saw_bo (b := b) (x := withS b l) rfl rfl rfl x 0).trans (h x hx).2⟩
abbrev seenOf (b : Bo) (i : Nat) : List Si := b.seen.getD i []
theorem seenOf_mem {b : Bo} {i : Nat} (hi : i < b.seen.length) : seenOf b i ∈ b.seen := by
  unfold seenOf
  rw [List.getD_eq_getElem?_getD, List.getElem?_eq_getElem hi]
  exact List.getElem_mem hi
theorem seenOf_at {b : Bo} {i : Nat} (hi : i < b.seen.length) : b.seen[i]? = some (seenOf b i) := by
  unfold seenOf
  rw [List.getD_eq_getElem?_getD, List.getElem?_eq_getElem hi]; rfl
abbrev oneB (b : Bo) (i w : Nat) : Bo := withS b [kept (seenOf b i) w (seenOf b i).length]
theorem oneB_OK {b : Bo} (hb : b.OK) {i : Nat} (hi : i < b.seen.length) (w : Nat) : (oneB b i w).OK := by
  refine withS_OK hb (show 1 ≤ 4 by decide) fun x hx => ?_
  rw [List.mem_singleton] at hx
  subst hx
  have hs := kept_subl (seenOf b i) w
  exact ⟨Nat.le_trans hs.length_le (hb.lens _ (seenOf_mem hi)), saw_sub hs (hb.saw _ (seenOf_mem hi))⟩
theorem one_can {b : Bo} (hb : b.OK) {i : Nat} (hi : i < b.seen.length) (w : Nat) : isT (oneB b i w) 0 = canQ b (outQ b i w) := by
  rw [Bool.eq_iff_iff, canQ_iff hb, canQ_iff (oneB_OK hb hi w)]
  have e : (oneB b i w).seen.getD (plainQ (oneB b i w) 0).boat [] = kept (seenOf b i) w (seenOf b i).length := rfl
  constructor
  · rintro ⟨c, hc⟩
    refine ⟨c, fun j h1 h2 => ⟨(hc.ok j h1 h2).lt, (hc.ok j h1 h2).row, fun s hs => (hc.ok j h1 h2).saw s ?_⟩, fun j h1 h2 => hc.near j h1 h2⟩
    rw [e, show (plainQ (oneB b i w) 0).without = 0 from rfl, kept_nought]
    exact hs
  · rintro ⟨c, hc⟩
    refine ⟨c, fun j h1 h2 => ⟨(hc.ok j h1 h2).lt, (hc.ok j h1 h2).row, fun s hs => (hc.ok j h1 h2).saw s ?_⟩, fun j h1 h2 => hc.near j h1 h2⟩
    rw [e, show (plainQ (oneB b i w) 0).without = 0 from rfl, kept_nought] at hs
    exact hs

/-! ### The sets, in order -/
theorem setsB_sorted : ∀ many ≤ 5, (setsB many).Pairwise (fun a c => size a < size c ∨ size a = size c ∧ a < c) := by decide +kernel
theorem setsB_all : ∀ many ≤ 5, ∀ s < 2 ^ many, s ∈ setsB many := by decide +kernel
theorem size_drop : ∀ S : Nat, S < 32 → ∀ i, i < 5 → S.testBit i = true → ndiff S (2 ^ i) < 32 ∧ size (ndiff S (2 ^ i)) < size S := by
  intro S hS i hi
  have h : ((List.range 32).all fun S => (List.range 5).all fun i => !S.testBit i || (decide (ndiff S (2 ^ i) < 32) && decide (size (ndiff S (2 ^ i)) < size S))) = true := by decide +kernel
  have h1 := List.all_eq_true.1 h S (List.mem_range.2 hS)
  have h2 := List.all_eq_true.1 h1 i (List.mem_range.2 hi)
  intro hb
  rw [hb] at h2
  simpa using h2
theorem ndiff_lt' {a b n : Nat} (h : a < n) : ndiff a b < n := Nat.lt_of_le_of_lt (ndiff_le a b) h
/-- Without all its sightings there is a truth. -/
theorem can_none {b : Bo} (hb : b.OK) (i : Nat) : canQ b (outQ b i (2 ^ (seenOf b i).length - 1)) = true := by
  refine (canQ_iff hb _).2 ⟨fun _ => 0, fun j _ _ => ⟨by have := hb.W; have := hb.D; unfold Bo.N; exact Nat.mul_pos (by omega) (by omega), Nat.zero_le _, fun s hs => ?_⟩, fun j _ _ => by rw [dist_self]; exact Nat.zero_le _⟩
  obtain ⟨k, hk, hw, _⟩ := kept_mem.1 hs
  rw [show (outQ b i (2 ^ (seenOf b i).length - 1)).without = 2 ^ (seenOf b i).length - 1 from rfl, Nat.testBit_two_pow_sub_one] at hw
  have : k < (seenOf b i).length := hk
  rw [decide_eq_true this] at hw
  cases hw
theorem wrong_spec {b : Bo} (hb : b.OK) {i : Nat} (hi : i < b.seen.length) : wrongR b i < 2 ^ (seenOf b i).length ∧ canQ b (outQ b i (wrongR b i)) = true ∧ ∀ s < 2 ^ (seenOf b i).length, canQ b (outQ b i s) = true → size (wrongR b i) < size s ∨ size (wrongR b i) = size s ∧ wrongR b i ≤ s := by
  have h5 := hb.lens _ (seenOf_mem hi)
  have hall := setsB_all _ h5
  have hsort := setsB_sorted _ h5
  have hfull := can_none hb i
  unfold wrongR
  show ((setsB (seenOf b i).length).find? _).getD 0 < _ ∧ canQ b (outQ b i (((setsB (seenOf b i).length).find? _).getD 0)) = true ∧ ∀ s < _, _ → size (((setsB (seenOf b i).length).find? _).getD 0) < _ ∨ size (((setsB (seenOf b i).length).find? _).getD 0) = _ ∧ ((setsB (seenOf b i).length).find? _).getD 0 ≤ _
  cases hf : (setsB (seenOf b i).length).find? fun s => canQ b (outQ b i s) with
  | none =>
    exfalso
    have := List.find?_eq_none.1 hf _ (hall (2 ^ (seenOf b i).length - 1) (by have := Nat.two_pow_pos (seenOf b i).length; omega))
    exact this hfull
  | some r =>
    obtain ⟨h1, l1, l2, e, h3⟩ := List.find?_eq_some_iff_append.1 hf
    rw [Option.getD_some]
    refine ⟨setsB_lt (List.mem_of_find?_eq_some hf), h1, fun s hs hc => ?_⟩
    have hm := hall s hs
    rw [e] at hm hsort
    rcases List.mem_append.1 hm with h | h
    · have := h3 s h; rw [hc] at this; cases this
    · rcases List.mem_cons.1 h with rfl | h
      · exact .inr ⟨rfl, Nat.le_refl _⟩
      · rcases (List.pairwise_cons.1 (List.pairwise_append.1 hsort).2.1).1 s h with h | h
        · exact .inl h
        · exact .inr ⟨h.1, Nat.le_of_lt h.2⟩
theorem wrong_zero {b : Bo} (hb : b.OK) {i : Nat} (hi : i < b.seen.length) : decide (wrongR b i = 0) = canQ b (outQ b i 0) := by
  obtain ⟨_, h1, h2⟩ := wrong_spec hb hi
  rw [Bool.eq_iff_iff, decide_eq_true_eq]
  constructor
  · intro h; rw [h] at h1; exact h1
  · intro h
    have h5 := hb.lens _ (seenOf_mem hi)
    rcases h2 0 (Nat.two_pow_pos _) h with h | h
    · exact absurd h (Nat.not_lt_zero _)
    · omega
theorem specWrong_ok {b : Bo} (hb : b.OK) {i : Nat} (hi : i < b.seen.length) : specWrong b i = wrongV b i := by
  have h1 : b.isBoat i = true := isBoat_iff.2 ⟨by omega, by omega⟩
  unfold specWrong
  rw [(b.ok_iff).2 hb, h1, Int.toNat_natCast]; rfl

/-! ### The law's closure -/
set_option maxRecDepth 8000 in
set_option maxHeartbeats 4000000 in
theorem can42 (b : Bo) (hL : Lens b) (hb : b.OK) {i : Nat} (hi : i < b.seen.length) (w : Nat) (hw : w < 32) : ACall Tryd.prog 42 [.t (vi w), .t (.ptr (.agg (bo5 b)) 0), .t (.ptr (.agg [vi i]) 0)] [] (ret (vb (canQ b (outQ b i w)))) := by
  refine ACall.walk k42 ?_
  have hx := oneB_OK hb hi w
  have hLx : Lens (oneB b i w) := ⟨by show 1 < _; decide, fun l hl => Nat.lt_of_le_of_lt (hx.lens l hl) (by decide)⟩
  have h43 := without_ok (seenOf b i) (Nat.le_trans (hb.lens _ (seenOf_mem hi)) (by decide)) w (by omega)
  have h37 := set_ok (oneB b i w) hLx hx 0 0 (by show 0 < 1; decide) (Nat.zero_le _)
  rw [one_can hb hi] at h37
  generalize tN (placesL (canN (oneB b i w) 0 0) (oneB b i w).N) = pl at *
  have hs := seenOf_at hi
  have hil : (i : Int) < b.seen.length := by omega
  simp only [bo5] at h37
  rw [show ((oneB b i w).seen.map tSis) = [tSis (kept (seenOf b i) w (seenOf b i).length)] from rfl] at h37
  simp only [tSis] at h43 h37
  unfold c42
  simp only [bo5, tSis, go_sem, Nat.reduceEqDiff, Nat.reduceAdd, undef, undef, List.getElem?_map, hs, Option.map_some]
  refine ACallL.fresh1 h43 rfl ?_
  generalize kept (seenOf b i) w (seenOf b i).length = kl at *
  simp only [go_sem, Nat.reduceEqDiff, Nat.reduceAdd, Nat.reduceLT, undef, undef]
  refine awpL_gcpE [] [5] { env := [(5, .t (.ptr (.agg [vi b.wide, vi b.deep, vi b.speed, vi b.last, .slice 1 [.slice 5 (kl.map tSi)]]) 0))], σ := [], df := [], k := 0 } (St.gc_mk rfl rfl rfl rfl) rfl rfl ?_
  simp only [go_sem, Nat.reduceEqDiff, Nat.reduceAdd]
  refine ACallL.fresh1 h37 rfl ?_
  simp only [go_sem, Nat.reduceEqDiff]
  exact finL_ret [] ⟨rfl, rfl, rfl, rfl, _, rfl, res_mk rfl⟩
end Go.Proofs.YtafcdpmcmmfbhaaDoor
