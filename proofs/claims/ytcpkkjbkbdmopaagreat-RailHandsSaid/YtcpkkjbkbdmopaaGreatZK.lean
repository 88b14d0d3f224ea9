/- Proved here: laws that the statements need (ZaC34, ZaT8). No conditions but those that each law states. -/
import Derived.Test.YtcpkkjbkbdmopaaGreatFL
import Derived.Test.YtcpkkjbkbdmopaaGreatFP
import Derived.Test.YtcpkkjbkbdmopaaGreatProg
import Derived.Test.YtcpkkjbkbdmopaaGreatZJ

set_option linter.unusedSimpArgs false
set_option linter.unusedVariables false

/- Compiled code of functions, printed by program; each is checked to be the program's. No conditions. -/
namespace Go.Proofs.YtcpkkjbkbdmopaaGreat
open Go Go.Ab
/-- dipworks/dipworkslaw11.heavy -/
def c4 : AC :=
 .seq (.reg [⟨(some 3), none, .box (.tmp 0)⟩,
 ⟨(some 6), none, .mov (.lit (.bool false))⟩])
 (.seq (.seq (.reg [⟨(some 11), none, .load true 10 (.tmp 3)⟩,
 ⟨(some 12), none, .call (.fn 16) [(.tmp 11)]⟩,
 ⟨(some 13), none, .mov (.tmp 12)⟩,
 ⟨(some 14), (some (13, false)), .load true 10 (.tmp 3)⟩,
 ⟨(some 15), (some (13, false)), .call (.fn 17) [(.tmp 14)]⟩,
 ⟨(some 16), (some (13, false)), .un .not (.tmp 15)⟩,
 ⟨(some 17), none, .pick (.tmp 13) (.lit (.bool true)) (.tmp 16)⟩])
 (.cond (.tmp 17) (.seq (.reg [⟨(some 18), none, .load true 10 (.tmp 3)⟩,
 ⟨(some 19), none, .call (.fn 16) [(.tmp 18)]⟩,
 ⟨(some 6), none, .mov (.tmp 19)⟩])
 (.ret))
 (.skip)))
 (.seq (.reg [⟨(some 7), none, .mov (.lit (.int .i64 1))⟩])
 (.seq (.seq (.reg [⟨(some 20), none, .faddr 0 (.tmp 3)⟩,
 ⟨(some 21), none, .faddr 0 (.tmp 20)⟩,
 ⟨(some 22), none, .load false 1 (.tmp 21)⟩,
 ⟨(some 23), none, .len (.tmp 22)⟩,
 ⟨(some 24), none, .mov (.lit (.int .i64 0))⟩])
 (.block 0 (.loop (.seq (.reg [⟨(some 25), none, .bin .lss (.tmp 24) (.tmp 23)⟩])
 (.seq (.cond (.tmp 25) (.skip)
 (.exit 0))
 (.seq (.block 1 (.seq (.reg [⟨(some 26), none, .iaddr 6 (.tmp 22) (.tmp 24)⟩,
 ⟨(some 27), none, .load true 6 (.tmp 26)⟩,
 ⟨(some 9), none, .alloc [(.int .i64 0), (.int .i64 0), (.int .i64 0), (.int .i64 0), (.int .i64 0), (.int .i64 0)]⟩,
 ⟨none, none, .store 6 (.tmp 9) (.tmp 27)⟩])
 (.seq (.reg [⟨(some 28), none, .load true 6 (.tmp 9)⟩,
 ⟨(some 29), none, .call (.fn 18) [(.tmp 28)]⟩,
 ⟨(some 10), none, .alloc [(.int .i64 0), (.int .i64 0)]⟩,
 ⟨none, none, .store 2 (.tmp 10) (.tmp 29)⟩])
 (.reg [⟨(some 30), none, .mov (.tmp 7)⟩,
 ⟨(some 31), none, .faddr 1 (.tmp 10)⟩,
 ⟨(some 32), none, .load false 1 (.tmp 31)⟩,
 ⟨(some 33), none, .faddr 0 (.tmp 10)⟩,
 ⟨(some 34), none, .load false 1 (.tmp 33)⟩,
 ⟨(some 35), none, .bin .sub (.tmp 32) (.tmp 34)⟩,
 ⟨(some 36), none, .bin .add (.tmp 35) (.lit (.int .i64 1))⟩,
 ⟨(some 37), none, .mxmn true (.lit (.int .i64 1)) [(.tmp 36)]⟩,
 ⟨(some 38), none, .bin .mul (.tmp 30) (.tmp 37)⟩,
 ⟨(some 7), none, .mov (.tmp 38)⟩]))))
 (.reg [⟨(some 39), none, .bin .add (.tmp 24) (.lit (.int .i64 1))⟩,
 ⟨(some 24), none, .mov (.tmp 39)⟩])))))))
 (.seq (.reg [⟨(some 40), none, .faddr 7 (.tmp 3)⟩,
 ⟨(some 41), none, .load false 1 (.tmp 40)⟩,
 ⟨(some 42), none, .call (.fn 19) [(.tmp 41)]⟩,
 ⟨(some 43), none, .mov (.tmp 1)⟩,
 ⟨(some 44), none, .bin .gtr (.tmp 42) (.tmp 43)⟩,
 ⟨(some 45), none, .mov (.tmp 44)⟩,
 ⟨(some 46), (some (45, false)), .mov (.tmp 7)⟩,
 ⟨(some 47), (some (45, false)), .mov (.tmp 2)⟩,
 ⟨(some 48), (some (45, false)), .bin .gtr (.tmp 46) (.tmp 47)⟩,
 ⟨(some 49), none, .pick (.tmp 45) (.lit (.bool true)) (.tmp 48)⟩,
 ⟨(some 6), none, .mov (.tmp 49)⟩])
 (.ret)))))
theorem k4 : FnC Tryz.prog 4 50 [] [] [.tmp 6] c4 3 := ⟨Tryz.f4, _, Tryz.func4, rfl, by decide, rfl, by decide, by kernel_rfl, by kernel_rfl⟩
end Go.Proofs.YtcpkkjbkbdmopaaGreat

/- RailTells: the law of what is told. -/
namespace Go.Proofs.YtcpkkjbkbdmopaaGreat
open Go Go.Ab

/-- How many are in a set, with the number of its places. -/
def sizeR : Nat → Nat → Nat
  | 0, _ => 0
  | k + 1, s => if 0 < s then s % 2 + sizeR k (s / 2) else 0
theorem sizeR_zero : ∀ k, sizeR k 0 = 0
  | 0 => rfl
  | k + 1 => rfl
set_option maxRecDepth 8000 in
theorem qsize_ok (s : Nat) (hs : s < 4096) : ACall Tryz.prog 19 [.t (vi s)] [] (ret (vi (sizeR 12 s))) := by
  refine ACall.walk k19 ?_
  unfold c19
  simp only [go_sem]
  refine awpL_loopK 12 (fun k s' => ∃ a t : Nat, a ≤ k ∧ t < 2 ^ (12 - k) ∧ a + sizeR (12 - k) t = sizeR 12 s ∧ s' = { env := [(3, .t (vi a)), (0, .t (vi t))], σ := [] })
    ⟨_, Sub.gc [] [3, 0] rfl rfl, 0, s, Nat.le_refl _, hs, Nat.zero_add _, St.gc_mk rfl rfl rfl rfl⟩ ?_
  rintro k s' hk ⟨a, t, ha, ht, he, rfl⟩
  cases g : decide ((t : Int) > 0)
  · have h0 : t = 0 := by have := of_decide_eq_false g; omega
    subst h0
    rw [sizeR_zero, Nat.add_zero] at he
    subst he
    simp only [go_sem, Nat.reduceEqDiff, Int.reduceGT, decide_false]
    exact finL_ret [] ⟨rfl, rfl, rfl, rfl, _, rfl, ret_mk rfl⟩
  have h0 : 0 < t := by have := of_decide_eq_true g; omega
  have hk12 : k < 12 := by
    by_cases e : k = 12
    · subst e
      rw [show 12 - 12 = 0 from rfl, Nat.pow_zero] at ht
      omega
    · omega
  obtain ⟨m, hm⟩ : ∃ m, 12 - k = m + 1 := ⟨11 - k, by omega⟩
  have hm2 : 12 - (k + 1) = m := by omega
  rw [hm] at ht he
  rw [Nat.pow_succ] at ht
  have hp : 2 ^ m ≤ 2 ^ 12 := Nat.pow_le_pow_right (by omega) (by omega)
  rw [sizeR, if_pos h0] at he
  have e1 : ((t : Int)).tmod 2 = ((t % 2 : Nat) : Int) := mod_nat t 2
  have e2 : ((t : Int)).tdiv 2 = ((t / 2 : Nat) : Int) := by rw [Int.tdiv_eq_ediv_of_nonneg (by omega)]; rfl
  have e3 : IntKind.i64.wrap ((a : Int) + ((t % 2 : Nat) : Int)) = ((a + t % 2 : Nat) : Int) := by rw [wrap_id (by omega) (by omega)]; omega
  have e4 : IntKind.i64.wrap ((t / 2 : Nat) : Int) = ((t / 2 : Nat) : Int) := wrap_id (by omega) (by omega)
  simp only [go_sem, Nat.reduceEqDiff, Int.reduceEq, g, e1, e2, e3, e4]
  refine ⟨hk12, _, Sub.gc [] [3, 0] rfl rfl, a + t % 2, t / 2, by omega, ?_, ?_, St.gc_mk rfl rfl rfl rfl⟩
  · rw [hm2]; omega
  · rw [hm2]; omega

/-- In how many ways, by own words. -/
def waysI (bs : List B) : Int := bs.foldl (fun n b => IntKind.i64.wrap (n * max 1 (IntKind.i64.wrap (IntKind.i64.wrap ((words b).2 - (words b).1) + 1)))) 1
theorem ways_succ (bs : List B) {j : Nat} {b : B} (h : bs[j]? = some b) : waysI (bs.take (j + 1)) = IntKind.i64.wrap (waysI (bs.take j) * max 1 (IntKind.i64.wrap (IntKind.i64.wrap ((words b).2 - (words b).1) + 1))) := by
  unfold waysI
  rw [List.take_add_one, h]
  simp only [Option.toList_some, List.foldl_append, List.foldl_cons, List.foldl_nil]
/-- Is it too much to look at? -/
def heavyN (r : Ra) (a b : Int) : Bool := if r.long || !r.ok then r.long else decide ((sizeR 12 r.Pe : Int) > a) || decide (waysI r.tw.bs > b)

set_option maxRecDepth 8000 in
set_option maxHeartbeats 4000000 in
theorem heavy_ok (r : Ra) (a b : Int) (hL : Lens r) : ACall Tryz.prog 4 [.t (tRa r), .t (vi a), .t (vi b)] [] (ret (vb (heavyN r a b))) := by
  have hlong := long_ok r
  have hrail := rrail_ok r hL.l
  have hLb := hL.b
  refine ACall.walk k4 ?_
  unfold c4
  refine awpL_chop 2 (c1 := ?a1) (c2 := ?a2) (fun st => r.long = false ∧ r.ok = true ∧ lk st.env 1 = .t (vi a) ∧ lk st.env 2 = .t (vi b) ∧ lk st.env 3 = .ptr 0 0 ∧
    st.σ = [.cells ((tw3 r.tw ++ ra7 r).map .t)] ∧ st.df = [] ∧ st.k = 0) ?hc ?_ ?_
  case hc => simp only [chop]; rfl
  · unfold tRa at hlong hrail ⊢
    unfold tw3 ra7 at hlong hrail ⊢
    simp only [List.cons_append, List.nil_append] at hlong hrail
    simp only [go_sem, Nat.reduceEqDiff, Nat.reduceAdd]
    refine ACallL.quiet1 hlong rfl rfl rfl ?_
    cases h1 : r.long
    · rw [h1] at hlong
      simp only [go_sem, Nat.reduceEqDiff, Nat.reduceAdd, beq_self_eq_true]
      refine ACallL.quiet1 hrail rfl rfl rfl ?_
      cases hok : r.ok
      · simp only [go_sem, Nat.reduceEqDiff, Nat.reduceAdd, Bool.not_false, beq_self_eq_true]
        refine ACallL.quiet1 hlong rfl rfl rfl ?_
        simp only [go_sem, Nat.reduceEqDiff]
        exact finL_ret [] ⟨rfl, rfl, rfl, rfl, _, rfl, ret_mk (by unfold heavyN; rw [hok, h1]; rfl)⟩
      · simp only [go_sem, Nat.reduceEqDiff, Bool.not_true, beq_self_eq_true, and_self]
    · rw [h1] at hlong
      simp only [go_sem, Nat.reduceEqDiff, Nat.reduceAdd, Bool.not_true, undef]
      refine ACallL.quiet1 hlong rfl rfl rfl ?_
      simp only [go_sem, Nat.reduceEqDiff]
      exact finL_ret [] ⟨rfl, rfl, rfl, rfl, _, rfl, ret_mk (by unfold heavyN; rw [h1]; rfl)⟩
  rintro ⟨env, σ, df, k⟩ ⟨hlo, hok, q1, q2, q3, hσ, hdf, hk⟩
  simp only at q1 q2 q3 hσ hdf hk
  subst hσ hdf hk
  have hr := (r.ok_iff).1 hok
  have hP : r.perhaps = ((r.Pe : Nat) : Int) := by unfold Ra.Pe; have := hr.perhaps; omega
  have hsz := qsize_ok r.Pe hr.rains.2.1
  rw [← hP] at hsz
  have hv : heavyN r a b = (decide ((sizeR 12 r.Pe : Int) > a) || decide (waysI r.tw.bs > b)) := by unfold heavyN; rw [hlo, hok]; rfl
  have hwd := fun x hx => rwords_ok r.tw hr.tw x hx
  unfold tw3 ra7
  simp only [go_sem, Nat.reduceEqDiff, Nat.reduceAdd, Nat.reduceLeDiff, q3, List.length_map]
  refine awpL_loopK r.tw.bs.length (fun j s => s = { env := [(24, .t (vi j)), (1, .t (vi a)), (2, .t (vi b)), (3, .t (.ptr (tRa r) 0)), (7, .t (vi (waysI (r.tw.bs.take j)))), (22, .t (.slice 6 (r.tw.bs.map tB))), (23, .t (vi r.tw.bs.length))], σ := [] })
    ⟨_, Sub.gc [] [24, 1, 2, 3, 7, 22, 23] rfl rfl, ?_⟩ ?_
  · refine St.gc_mk ?_ rfl rfl rfl
    simp only [go_sem, Nat.reduceEqDiff, List.map_cons, List.map_nil, q1, q2, q3]
    rfl
  rintro j s hj rfl
  unfold tRa tw3 ra7
  have hj0 : ((j : Int) < 0) = False := eq_false (by omega)
  cases c : decide ((j : Int) < (r.tw.bs.length : Int))
  · have he : j = r.tw.bs.length := by have := of_decide_eq_false c; omega
    subst he
    rw [List.take_length]
    simp only [go_sem, Nat.reduceEqDiff, Nat.reduceAdd, c]
    refine ACallL.quiet1 hsz rfl rfl rfl ?_
    cases d : decide ((sizeR 12 r.Pe : Int) > a)
    · simp only [go_sem, Nat.reduceEqDiff, beq_self_eq_true, d]
      exact finL_ret [] ⟨rfl, rfl, rfl, rfl, _, rfl, ret_mk (by rw [hv, d]; rfl)⟩
    · simp only [go_sem, Nat.reduceEqDiff, Bool.not_true, undef, d]
      exact finL_ret [] ⟨rfl, rfl, rfl, rfl, _, rfl, ret_mk (by rw [hv, d]; rfl)⟩
  have hlt : j < r.tw.bs.length := by have := of_decide_eq_true c; omega
  have w2 : IntKind.i64.wrap ((j : Int) + 1) = ((j + 1 : Nat) : Int) := by rw [wrap_id (by omega) (by omega)]; omega
  have hx : r.tw.bs[j]? = some r.tw.bs[j] := List.getElem?_eq_getElem hlt
  have hy := hwd _ (List.mem_of_getElem? hx)
  have e1 := ways_succ r.tw.bs hx
  rw [e1]
  generalize r.tw.bs[j] = x at *
  have htb : tB x = .agg [vi x.hut, vi x.half, vi x.ll, vi x.lh, vi x.bl, vi x.bh] := rfl
  generalize waysI (r.tw.bs.take j) = Z at *
  generalize hwx : words x = X at *
  rw [htb] at hy
  simp only [go_sem, Nat.reduceEqDiff, Nat.reduceAdd, undef, c, hx, htb, List.getElem?_map, Option.map_some]
  refine ACallL.quiet1 hy rfl rfl rfl ?_
  simp only [tS, go_sem, Nat.reduceEqDiff, Nat.reduceAdd, Nat.reduceLeDiff, undef, w2]
  exact ⟨hlt, _, Sub.gc [] [24, 1, 2, 3, 7, 22, 23] rfl rfl, St.gc_mk rfl rfl rfl rfl⟩

end Go.Proofs.YtcpkkjbkbdmopaaGreat
