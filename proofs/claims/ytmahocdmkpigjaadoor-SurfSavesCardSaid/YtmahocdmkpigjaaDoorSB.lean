/- Proved here: laws that the statements need (SuC, SuCt, SuD, SuE). No conditions but those that each law states. -/
import Derived.Test.YtmahocdmkpigjaaDoorSA

set_option linter.unusedSimpArgs false
set_option linter.unusedVariables false

/- What sees a hut; all that an hour can be. -/
namespace Go.Proofs.YtmahocdmkpigjaaDoor
open Go Go.Ab

/-- The next place of a hut in place k, as a set. -/
def nextP (step : Int) (h : Hu) (w v : Int) (k : Nat) : Nat := if liftK step h.floor w v k && decide (v > h.brake) then 2 ^ k / 2 else 2 ^ k
theorem nextP_lt (step : Int) (h : Hu) (w v : Int) {k : Nat} (hk : k < 8) : nextP step h w v k < 256 := by
  have hp : 2 ^ k ≤ 128 := Nat.pow_le_pow_right (n := 2) (by decide) (show k ≤ 7 by omega)
  unfold nextP
  split <;> omega

set_option maxRecDepth 8000 in
set_option maxHeartbeats 4000000 in
theorem seeG_ok (h : Hu) (w v : Int) (fl : Bool) (k : Nat) (hk : k < 8) (to : Nat) (ht : to < 256) :
    ACall Tryd.prog 109 [.ptr 0 0, .t (tNow h w v (2 ^ k : Nat)), .t (vb fl)] [.cells [.t (vu to)]] (fun o σ' => o = .ret (.tup []) ∧ σ' = [.cells [.t (vu (to ||| (if fl && decide (v > h.brake) then 2 ^ k / 2 else 2 ^ k) : Nat))]]) := by
  refine ACall.walk k109 ?_
  unfold c109
  have hp : 2 ^ k ≤ 128 := Nat.pow_le_pow_right (n := 2) (by decide) (show k ≤ 7 by omega)
  generalize 2 ^ k = p at *
  have h110 := out_ok p (by omega)
  have h1 := joined_ok to p ht (by omega)
  have h2 := joined_ok to (p / 2) ht (by omega)
  obtain ⟨f, b, r⟩ := h
  cases fl
  · simp only [go_sem, Nat.reduceEqDiff, Nat.reduceAdd, Nat.reduceSub, Nat.reduceMul, Nat.reduceLT, Nat.reduceLeDiff, Nat.reduceMod, Nat.reduceDiv, Int.reduceToNat, Int.reduceLT, Int.reduceLE, Bool.not_true, Bool.not_false, reduceIte, Int.reduceEq, Int.reduceBEq, Int.reduceBNe, Int.reduceGT, Int.reduceGE, Int.reduceNeg, Int.reduceAdd, Int.reduceSub, Nat.reduceBEq, decide_true, decide_false, undef, beq_self_eq_true, bne_self_eq_false, Bool.and_true, Bool.true_and, Bool.and_false, Bool.false_and, Bool.or_true, Bool.true_or, Bool.or_false, Bool.false_or, undef]
    refine ACallL.quiet1 h1 rfl rfl rfl ?_
    simp only [go_sem, Nat.reduceEqDiff, Nat.reduceAdd, Nat.reduceSub, Nat.reduceMul, Nat.reduceLT, Nat.reduceLeDiff, Nat.reduceMod, Nat.reduceDiv, Int.reduceToNat, Int.reduceLT, Int.reduceLE, Bool.not_true, Bool.not_false, reduceIte, Int.reduceEq, Int.reduceBEq, Int.reduceBNe, Int.reduceGT, Int.reduceGE, Int.reduceNeg, Int.reduceAdd, Int.reduceSub, Nat.reduceBEq, decide_true, decide_false, undef, beq_self_eq_true, bne_self_eq_false, Bool.and_true, Bool.true_and, Bool.and_false, Bool.false_and, Bool.or_true, Bool.true_or, Bool.or_false, Bool.false_or, undef]
    exact finL_ret [0] ⟨rfl, rfl, rfl, rfl, _, rfl, by simp [E.gc], rfl⟩
  · simp only [go_sem, Nat.reduceEqDiff, Nat.reduceAdd, Nat.reduceSub, Nat.reduceMul, Nat.reduceLT, Nat.reduceLeDiff, Nat.reduceMod, Nat.reduceDiv, Int.reduceToNat, Int.reduceLT, Int.reduceLE, Bool.not_true, Bool.not_false, reduceIte, Int.reduceEq, Int.reduceBEq, Int.reduceBNe, Int.reduceGT, Int.reduceGE, Int.reduceNeg, Int.reduceAdd, Int.reduceSub, Nat.reduceBEq, decide_true, decide_false, undef, beq_self_eq_true, bne_self_eq_false, Bool.and_true, Bool.true_and, Bool.and_false, Bool.false_and, Bool.or_true, Bool.true_or, Bool.or_false, Bool.false_or, undef]
    cases hb : decide (v > b)
    · simp only [go_sem, Nat.reduceEqDiff, Nat.reduceAdd, Nat.reduceSub, Nat.reduceMul, Nat.reduceLT, Nat.reduceLeDiff, Nat.reduceMod, Nat.reduceDiv, Int.reduceToNat, Int.reduceLT, Int.reduceLE, Bool.not_true, Bool.not_false, reduceIte, Int.reduceEq, Int.reduceBEq, Int.reduceBNe, Int.reduceGT, Int.reduceGE, Int.reduceNeg, Int.reduceAdd, Int.reduceSub, Nat.reduceBEq, decide_true, decide_false, undef, beq_self_eq_true, bne_self_eq_false, Bool.and_true, Bool.true_and, Bool.and_false, Bool.false_and, Bool.or_true, Bool.true_or, Bool.or_false, Bool.false_or, undef, hb]
      refine ACallL.quiet1 h1 rfl rfl rfl ?_
      simp only [go_sem, Nat.reduceEqDiff, Nat.reduceAdd, Nat.reduceSub, Nat.reduceMul, Nat.reduceLT, Nat.reduceLeDiff, Nat.reduceMod, Nat.reduceDiv, Int.reduceToNat, Int.reduceLT, Int.reduceLE, Bool.not_true, Bool.not_false, reduceIte, Int.reduceEq, Int.reduceBEq, Int.reduceBNe, Int.reduceGT, Int.reduceGE, Int.reduceNeg, Int.reduceAdd, Int.reduceSub, Nat.reduceBEq, decide_true, decide_false, undef, beq_self_eq_true, bne_self_eq_false, Bool.and_true, Bool.true_and, Bool.and_false, Bool.false_and, Bool.or_true, Bool.true_or, Bool.or_false, Bool.false_or, undef]
      exact finL_ret [0] ⟨rfl, rfl, rfl, rfl, _, rfl, by simp [E.gc], rfl⟩
    · simp only [go_sem, Nat.reduceEqDiff, Nat.reduceAdd, Nat.reduceSub, Nat.reduceMul, Nat.reduceLT, Nat.reduceLeDiff, Nat.reduceMod, Nat.reduceDiv, Int.reduceToNat, Int.reduceLT, Int.reduceLE, Bool.not_true, Bool.not_false, reduceIte, Int.reduceEq, Int.reduceBEq, Int.reduceBNe, Int.reduceGT, Int.reduceGE, Int.reduceNeg, Int.reduceAdd, Int.reduceSub, Nat.reduceBEq, decide_true, decide_false, undef, beq_self_eq_true, bne_self_eq_false, Bool.and_true, Bool.true_and, Bool.and_false, Bool.false_and, Bool.or_true, Bool.true_or, Bool.or_false, Bool.false_or, undef, hb]
      refine ACallL.quiet1 h110 rfl rfl rfl ?_
      simp only [go_sem, Nat.reduceEqDiff, Nat.reduceAdd, Nat.reduceSub, Nat.reduceMul, Nat.reduceLT, Nat.reduceLeDiff, Nat.reduceMod, Nat.reduceDiv, Int.reduceToNat, Int.reduceLT, Int.reduceLE, Bool.not_true, Bool.not_false, reduceIte, Int.reduceEq, Int.reduceBEq, Int.reduceBNe, Int.reduceGT, Int.reduceGE, Int.reduceNeg, Int.reduceAdd, Int.reduceSub, Nat.reduceBEq, decide_true, decide_false, undef, beq_self_eq_true, bne_self_eq_false, Bool.and_true, Bool.true_and, Bool.and_false, Bool.false_and, Bool.or_true, Bool.true_or, Bool.or_false, Bool.false_or, undef]
      refine ACallL.quiet1 h2 rfl rfl rfl ?_
      simp only [go_sem, Nat.reduceEqDiff, Nat.reduceAdd, Nat.reduceSub, Nat.reduceMul, Nat.reduceLT, Nat.reduceLeDiff, Nat.reduceMod, Nat.reduceDiv, Int.reduceToNat, Int.reduceLT, Int.reduceLE, Bool.not_true, Bool.not_false, reduceIte, Int.reduceEq, Int.reduceBEq, Int.reduceBNe, Int.reduceGT, Int.reduceGE, Int.reduceNeg, Int.reduceAdd, Int.reduceSub, Nat.reduceBEq, decide_true, decide_false, undef, beq_self_eq_true, bne_self_eq_false, Bool.and_true, Bool.true_and, Bool.and_false, Bool.false_and, Bool.or_true, Bool.true_or, Bool.or_false, Bool.false_or, undef]
      exact finL_ret [0] ⟨rfl, rfl, rfl, rfl, _, rfl, by simp [E.gc], rfl⟩

end Go.Proofs.YtmahocdmkpigjaaDoor

/- What tallies hours. -/
namespace Go.Proofs.YtmahocdmkpigjaaDoor
open Go Go.Ab

/-! ### In which hours it floats, and in which not -/
abbrev Tl := Bool × Bool
def tTl (t : Tl) : T := .agg [vb t.1, vb t.2]
def seeF (t : Tl) (fl : Bool) : Tl := (t.1 || fl, t.2 || !fl)

set_option maxRecDepth 8000 in
set_option maxHeartbeats 4000000 in
theorem seeT_ok (x : List T) (fl : Bool) (ts : List Tl) (i : Nat) (t : Tl) (hi : ts[i]? = some t) :
    ACall Tryd.prog 112 [.elt 0 ts.length 2 i 0, .t (.agg x), .t (vb fl)] [.row 2 ((ts.map tTl).map .t)] (fun o σ' => o = .ret (.tup []) ∧ σ' = [.row 2 (((ts.set i (seeF t fl)).map tTl).map .t)]) := by
  refine ACall.walk k112 ?_
  unfold c112
  have hil := (List.getElem?_eq_some_iff.1 hi).1
  obtain ⟨y, n⟩ := t
  have hset : ∀ z : E, (((ts.map tTl).map E.t).set i z)[i]? = some z := fun z => List.getElem?_set_self (by simpa using hil)
  cases y <;> cases n
  all_goals
    simp only [go_sem, Nat.reduceEqDiff, Nat.reduceAdd, Nat.reduceSub, Nat.reduceMul, Nat.reduceLT, Nat.reduceLeDiff, Nat.reduceMod, Nat.reduceDiv, Int.reduceToNat, Int.reduceLT, Int.reduceLE, Bool.not_true, Bool.not_false, reduceIte, Int.reduceEq, Int.reduceBEq, Int.reduceBNe, Int.reduceGT, Int.reduceGE, Int.reduceNeg, Int.reduceAdd, Int.reduceSub, Nat.reduceBEq, decide_true, decide_false, undef, beq_self_eq_true, bne_self_eq_false, Bool.and_true, Bool.true_and, Bool.and_false, Bool.false_and, Bool.or_true, Bool.true_or, Bool.or_false, Bool.false_or, undef, rowLen, AO.len?, List.length_map, List.length_set, List.getElem?_map, hi, tTl, hset, List.set_set]
    refine finL_ret [0] ⟨rfl, rfl, rfl, rfl, _, rfl, by simp [E.gc], ?_⟩
    show [AO.row 2 ((List.set _ _ _).map (E.gc _ _ _))] = _
    rw [List.map_set, List.map_set, List.map_set, gc_row]
    rfl
end Go.Proofs.YtmahocdmkpigjaaDoor

/- All that an hour can be, one behind the other; calls over a store that holds the memo. -/
namespace Go.Proofs.YtmahocdmkpigjaaDoor
open Go Go.Ab

def numS (x : Sp) : Nat := (x.2 - x.1 + 1).toNat
def hourRow (x y : Sp) (i : Nat) : List (Int × Int) := (List.range (numS y)).map fun j : Nat => (x.1 + (i : Int), y.1 + (j : Int))
def hoursP (x y : Sp) : List (Int × Int) := (List.range (numS x)).flatMap (hourRow x y)
def hoursL (s : Su) (h : Nat) : List (Int × Int) := hoursP (s.water.getD h (0, 0)) (s.waves.getD h (0, 0))
def vHour (o : Int × Int) : Value := .agg #[.int .i64 o.1, .int .i64 o.2]
theorem ofV_hour (o : Int × Int) : T.ofV (vHour o) = .agg [vi o.1, vi o.2] := rfl

theorem flat_len {α : Type} (g : Nat → List α) (n : Nat) (hg : ∀ i, (g i).length = n) : ∀ m, ((List.range m).flatMap g).length = m * n
  | 0 => by simp
  | m + 1 => by rw [List.range_succ, List.flatMap_append, List.length_append, flat_len g n hg m]; simp [hg, Nat.succ_mul]
theorem flat_get {α : Type} (g : Nat → List α) (n : Nat) (hg : ∀ i, (g i).length = n) : ∀ (m i j : Nat), i < m → j < n → ((List.range m).flatMap g)[i * n + j]? = (g i)[j]?
  | m + 1, i, j, hi, hj => by
    rw [List.range_succ, List.flatMap_append]
    have hl := flat_len g n hg m
    by_cases c : i < m
    · have : (i + 1) * n ≤ m * n := Nat.mul_le_mul_right n (by omega)
      rw [Nat.succ_mul] at this
      rw [List.getElem?_append_left (by omega)]
      exact flat_get g n hg m i j c hj
    · have : i = m := by omega
      subst this
      rw [List.getElem?_append_right (by omega), hl, show i * n + j - i * n = j by omega]
      simp
theorem hourRow_len (x y : Sp) (i : Nat) : (hourRow x y i).length = numS y := by simp [hourRow]
theorem hoursP_len (x y : Sp) : (hoursP x y).length = numS x * numS y := flat_len _ _ (hourRow_len x y) _
theorem hoursP_at (x y : Sp) {i j : Nat} (hi : i < numS x) (hj : j < numS y) : (hoursP x y)[i * numS y + j]? = some (x.1 + i, y.1 + j) := by
  unfold hoursP
  rw [flat_get _ _ (hourRow_len x y) _ _ _ hi hj]
  unfold hourRow
  rw [List.getElem?_map, List.getElem?_range hj]
  rfl

/-- The surf as it is read alone. -/
abbrev seaT (s : Su) (m : T) : T := .ptr (.agg [vi s.rows, vi s.step, .slice 2 (s.water.map tSp), .slice 2 (s.waves.map tSp), .slice 3 (s.huts.map tHu), m]) 0

set_option maxRecDepth 8000 in
set_option maxHeartbeats 4000000 in
theorem hours_gen (s : Su) (m : T) (h : Nat) (hh : h < 9223372036854775808) (x y : Sp) (hx : s.water[h]? = some x) (hy : s.waves[h]? = some y) (bx : Near x 30) (by_ : Near y 10) :
    AGen Tryd.prog 90 [.yld, .t (.ptr (.agg [seaT s m]) 0), .t (.ptr (.agg [vi h]) 0)] ((hoursP x y).map vHour) := by
  refine AGen.walk k90 ?_
  unfold c90
  have hh0 : (0 ≤ (h : Int)) = True := by simp
  have hlen := hoursP_len x y
  have hat := fun i j hi hj => hoursP_at x y (i := i) (j := j) hi hj
  have hnx : (numS x : Int) = x.2 - x.1 + 1 := by unfold numS; omega
  have hny : (numS y : Int) = y.2 - y.1 + 1 := by unfold numS; omega
  obtain ⟨xl, xh⟩ := x
  obtain ⟨yl, yh⟩ := y
  simp only at bx by_ hnx hny hat
  generalize hP : hoursP (xl, xh) (yl, yh) = L at *
  generalize numS (xl, xh) = nx at *
  generalize numS (yl, yh) = ny at *
  simp only [go_sem, Nat.reduceEqDiff, Nat.reduceAdd, Nat.reduceSub, Nat.reduceMul, Nat.reduceLT, Nat.reduceLeDiff, Nat.reduceMod, Nat.reduceDiv, Int.reduceToNat, Int.reduceLT, Int.reduceLE, Bool.not_true, Bool.not_false, reduceIte, Int.reduceEq, Int.reduceBEq, Int.reduceBNe, Int.reduceGT, Int.reduceGE, Int.reduceNeg, Int.reduceAdd, Int.reduceSub, Nat.reduceBEq, decide_true, decide_false, undef, beq_self_eq_true, bne_self_eq_false, Bool.and_true, Bool.true_and, Bool.and_false, Bool.false_and, Bool.or_true, Bool.true_or, Bool.or_false, Bool.false_or, List.getElem?_map, hx, hy, Option.map_some, tSp]
  refine awpL_loopK nx (fun i s' => s' = { env := [(4, .t (vi (xl + i))), (0, .yld), (1, .t (.ptr (.agg [seaT s m]) 0)), (2, .t (.ptr (.agg [vi h]) 0))], σ := [], k := i * ny }) ⟨_, Sub.gc [] [4, 0, 1, 2] rfl rfl, by rw [show ((0 : Nat) : Int) = 0 from rfl, Int.add_zero, Nat.zero_mul]; rfl⟩ ?_
  rintro i s' hi rfl
  simp only [go_sem, Nat.reduceEqDiff, Nat.reduceAdd, Nat.reduceSub, Nat.reduceMul, Nat.reduceLT, Nat.reduceLeDiff, Nat.reduceMod, Nat.reduceDiv, Int.reduceToNat, Int.reduceLT, Int.reduceLE, Bool.not_true, Bool.not_false, reduceIte, Int.reduceEq, Int.reduceBEq, Int.reduceBNe, Int.reduceGT, Int.reduceGE, Int.reduceNeg, Int.reduceAdd, Int.reduceSub, Nat.reduceBEq, decide_true, decide_false, undef, beq_self_eq_true, bne_self_eq_false, Bool.and_true, Bool.true_and, Bool.and_false, Bool.false_and, Bool.or_true, Bool.true_or, Bool.or_false, Bool.false_or, undef, List.getElem?_map, hx, hy, Option.map_some, tSp]
  cases g : decide (xl + (i : Int) ≤ xh)
  · have hie : i = nx := by have := of_decide_eq_false g; omega
    simp only [go_sem, Nat.reduceEqDiff, Nat.reduceAdd, Nat.reduceSub, Nat.reduceMul, Nat.reduceLT, Nat.reduceLeDiff, Nat.reduceMod, Nat.reduceDiv, Int.reduceToNat, Int.reduceLT, Int.reduceLE, Bool.not_true, Bool.not_false, reduceIte, Int.reduceEq, Int.reduceBEq, Int.reduceBNe, Int.reduceGT, Int.reduceGE, Int.reduceNeg, Int.reduceAdd, Int.reduceSub, Nat.reduceBEq, decide_true, decide_false, undef, beq_self_eq_true, bne_self_eq_false, Bool.and_true, Bool.true_and, Bool.and_false, Bool.false_and, Bool.or_true, Bool.true_or, Bool.or_false, Bool.false_or, undef, g]
    refine finL_ret [] ⟨rfl, ?_, rfl, rfl, _, rfl, ⟨_, rfl⟩⟩
    rw [List.length_map, hlen, hie]
  have hil : i < nx := by have := of_decide_eq_true g; omega
  have hwi : IntKind.i64.wrap (xl + (i : Int) + 1) = xl + ((i + 1 : Nat) : Int) := by rw [wrap_id (by omega) (by omega)]; omega
  simp only [go_sem, Nat.reduceEqDiff, Nat.reduceAdd, Nat.reduceSub, Nat.reduceMul, Nat.reduceLT, Nat.reduceLeDiff, Nat.reduceMod, Nat.reduceDiv, Int.reduceToNat, Int.reduceLT, Int.reduceLE, Bool.not_true, Bool.not_false, reduceIte, Int.reduceEq, Int.reduceBEq, Int.reduceBNe, Int.reduceGT, Int.reduceGE, Int.reduceNeg, Int.reduceAdd, Int.reduceSub, Nat.reduceBEq, decide_true, decide_false, undef, beq_self_eq_true, bne_self_eq_false, Bool.and_true, Bool.true_and, Bool.and_false, Bool.false_and, Bool.or_true, Bool.true_or, Bool.or_false, Bool.false_or, undef, List.getElem?_map, hx, hy, Option.map_some, tSp, g]
  refine awpL_loopK ny (fun j s' => s' = { env := [(5, .t (vi (yl + j))), (4, .t (vi (xl + i))), (0, .yld), (1, .t (.ptr (.agg [seaT s m]) 0)), (2, .t (.ptr (.agg [vi h]) 0))], σ := [], k := i * ny + j }) ⟨_, Sub.gc [] [5, 4, 0, 1, 2] rfl rfl, by rw [show ((0 : Nat) : Int) = 0 from rfl, Int.add_zero, Nat.add_zero]; rfl⟩ ?_
  rintro j s' hj rfl
  simp only [go_sem, Nat.reduceEqDiff, Nat.reduceAdd, Nat.reduceSub, Nat.reduceMul, Nat.reduceLT, Nat.reduceLeDiff, Nat.reduceMod, Nat.reduceDiv, Int.reduceToNat, Int.reduceLT, Int.reduceLE, Bool.not_true, Bool.not_false, reduceIte, Int.reduceEq, Int.reduceBEq, Int.reduceBNe, Int.reduceGT, Int.reduceGE, Int.reduceNeg, Int.reduceAdd, Int.reduceSub, Nat.reduceBEq, decide_true, decide_false, undef, beq_self_eq_true, bne_self_eq_false, Bool.and_true, Bool.true_and, Bool.and_false, Bool.false_and, Bool.or_true, Bool.true_or, Bool.or_false, Bool.false_or, undef, List.getElem?_map, hx, hy, Option.map_some, tSp]
  cases g2 : decide (yl + (j : Int) ≤ yh)
  · have hje : j = ny := by have := of_decide_eq_false g2; omega
    simp only [go_sem, Nat.reduceEqDiff, Nat.reduceAdd, Nat.reduceSub, Nat.reduceMul, Nat.reduceLT, Nat.reduceLeDiff, Nat.reduceMod, Nat.reduceDiv, Int.reduceToNat, Int.reduceLT, Int.reduceLE, Bool.not_true, Bool.not_false, reduceIte, Int.reduceEq, Int.reduceBEq, Int.reduceBNe, Int.reduceGT, Int.reduceGE, Int.reduceNeg, Int.reduceAdd, Int.reduceSub, Nat.reduceBEq, decide_true, decide_false, undef, beq_self_eq_true, bne_self_eq_false, Bool.and_true, Bool.true_and, Bool.and_false, Bool.false_and, Bool.or_true, Bool.true_or, Bool.or_false, Bool.false_or, undef, g2, hwi]
    refine ⟨hil, _, Sub.gc [] [4, 0, 1, 2] rfl rfl, ?_⟩
    rw [hje, show i * ny + ny = (i + 1) * ny by rw [Nat.succ_mul]]
    rfl
  have hjl : j < ny := by have := of_decide_eq_true g2; omega
  have hwj : IntKind.i64.wrap (yl + (j : Int) + 1) = yl + ((j + 1 : Nat) : Int) := by rw [wrap_id (by omega) (by omega)]; omega
  simp only [go_sem, Nat.reduceEqDiff, Nat.reduceAdd, Nat.reduceSub, Nat.reduceMul, Nat.reduceLT, Nat.reduceLeDiff, Nat.reduceMod, Nat.reduceDiv, Int.reduceToNat, Int.reduceLT, Int.reduceLE, Bool.not_true, Bool.not_false, reduceIte, Int.reduceEq, Int.reduceBEq, Int.reduceBNe, Int.reduceGT, Int.reduceGE, Int.reduceNeg, Int.reduceAdd, Int.reduceSub, Nat.reduceBEq, decide_true, decide_false, undef, beq_self_eq_true, bne_self_eq_false, Bool.and_true, Bool.true_and, Bool.and_false, Bool.false_and, Bool.or_true, Bool.true_or, Bool.or_false, Bool.false_or, undef, g2, hwj]
  refine ⟨by rw [hat i j hil hjl]; rfl, hjl, _, Sub.gc [] [5, 4, 0, 1, 2] rfl rfl, ?_⟩
  rfl

theorem hours_ok (s : Su) (h : Nat) (ks : List (Nat × List Int)) (xs : List T) (clk : Nat) : ACall Tryd.prog 88 [seaE s 0, .t (vi h)] [.map shN ks xs clk] (fun o σ' => o = .ret (.fn (.func 90) [] [.vp [seaE s 0] 0, .t (.ptr (.agg [vi h]) 0)]) ∧ σ' = [.map shN ks xs clk]) := by
  refine ACall.walk k88 ?_
  unfold c88
  simp only [go_sem, Nat.reduceEqDiff, Nat.reduceAdd, Nat.reduceSub, Nat.reduceMul, Nat.reduceLT, Nat.reduceLeDiff, Nat.reduceMod, Nat.reduceDiv, Int.reduceToNat, Int.reduceLT, Int.reduceLE, Bool.not_true, Bool.not_false, reduceIte, Int.reduceEq, Int.reduceBEq, Int.reduceBNe, Int.reduceGT, Int.reduceGE, Int.reduceNeg, Int.reduceAdd, Int.reduceSub, Nat.reduceBEq, decide_true, decide_false, undef, beq_self_eq_true, bne_self_eq_false, Bool.and_true, Bool.true_and, Bool.and_false, Bool.false_and, Bool.or_true, Bool.true_or, Bool.or_false, Bool.false_or]
  exact finL_ret [0] ⟨rfl, rfl, rfl, rfl, _, rfl, rfl, rfl⟩

/-! ### Calls over a store that holds the memo -/
theorem lend1 {f : Nat} {args0 : List E} {a : AO} {R0 : Out → AO → Prop} (h : ACall Tryd.prog f args0 [a] (fun o σ' => ∃ a', R0 o a' ∧ σ' = [a'])) {m : Nat} {σ : List AO} {b : AO} (hm : σ[m]? = some b) (hb : b = a.ren (lendR [m] σ.length))
    {args : List E} (hargs : args = E.rens (lendR [m] σ.length) args0) {R : Lz (Out → List AO → Prop)}
    (hk : ∀ o a', R0 o a' → R.get (o.ren (lendR [m] σ.length)) (σ.set m (a'.ren (lendR [m] σ.length)))) : @ACallL Tryd.prog f args σ R := by
  have hml := (List.getElem?_eq_some_iff.1 hm).1
  have e0 : lendR [m] σ.length 0 = m := rfl
  refine ACall.mono (ACall.lend [m] h (by simp) (by simpa using hml) rfl (fun j o ho => ?_) hargs) ?_
  · match j, ho with
    | 0, ho => simp at ho; subst ho; rw [e0, hm, hb]
  · rintro o σ1 ⟨o0, σ0, ⟨a', hR, rfl⟩, _, rfl, rfl⟩
    have := hk o0 a' hR
    have hs : lendB σ [m] ([a'].map (AO.ren (lendR [m] σ.length))) = σ.set m (a'.ren (lendR [m] σ.length)) := by
      apply List.ext_getElem?
      intro i
      by_cases hi : i = m
      · subst hi
        rw [lendB_kept (j := 0) (by simp) (by simp) (by simpa using hml) rfl, List.getElem?_set_self hml]
        rfl
      · by_cases hil : i < σ.length
        · rw [lendB_other hil (by simpa using hi), List.getElem?_set_ne (Ne.symm hi)]
        · rw [List.getElem?_eq_none (by rw [lendB_length (by simp)]; simp; omega), List.getElem?_eq_none (by rw [List.length_set]; omega)]
    rw [hs]
    exact this
theorem lend2 {f : Nat} {args0 : List E} {a c : AO} {R0 : Out → AO → AO → Prop} (h : ACall Tryd.prog f args0 [a, c] (fun o σ' => ∃ a' c', R0 o a' c' ∧ σ' = [a', c'])) {m g : Nat} {σ : List AO} {b d : AO} (hmg : m ≠ g) (hm : σ[m]? = some b) (hg : σ[g]? = some d)
    (hb : b = a.ren (lendR [m, g] σ.length)) (hd : d = c.ren (lendR [m, g] σ.length))
    {args : List E} (hargs : args = E.rens (lendR [m, g] σ.length) args0) {R : Lz (Out → List AO → Prop)}
    (hk : ∀ o a' c', R0 o a' c' → R.get (o.ren (lendR [m, g] σ.length)) ((σ.set m (a'.ren (lendR [m, g] σ.length))).set g (c'.ren (lendR [m, g] σ.length)))) : @ACallL Tryd.prog f args σ R := by
  have hml := (List.getElem?_eq_some_iff.1 hm).1
  have hgl := (List.getElem?_eq_some_iff.1 hg).1
  have e0 : lendR [m, g] σ.length 0 = m := rfl
  have e1 : lendR [m, g] σ.length 1 = g := rfl
  have hnd : [m, g].Nodup := by simp [hmg]
  have hlt : ∀ k ∈ [m, g], k < σ.length := by simp; omega
  refine ACall.mono (ACall.lend [m, g] h hnd hlt rfl (fun j o ho => ?_) hargs) ?_
  · match j, ho with
    | 0, ho => simp at ho; subst ho; rw [e0, hm, hb]
    | 1, ho => simp at ho; subst ho; rw [e1, hg, hd]
  · rintro o σ1 ⟨o0, σ0, ⟨a', c', hR, rfl⟩, _, rfl, rfl⟩
    have := hk o0 a' c' hR
    have hs : lendB σ [m, g] ([a', c'].map (AO.ren (lendR [m, g] σ.length))) = (σ.set m (a'.ren (lendR [m, g] σ.length))).set g (c'.ren (lendR [m, g] σ.length)) := by
      apply List.ext_getElem?
      intro i
      by_cases hi : i = g
      · subst hi
        rw [lendB_kept (j := 1) (by simp) hnd hlt rfl, List.getElem?_set_self (by rw [List.length_set]; exact hgl)]
        rfl
      · by_cases hi2 : i = m
        · subst hi2
          rw [lendB_kept (j := 0) (by simp) hnd hlt rfl, List.getElem?_set_ne (Ne.symm hi), List.getElem?_set_self hml]
          rfl
        · by_cases hil : i < σ.length
          · rw [lendB_other hil (by simp [hi, hi2]), List.getElem?_set_ne (Ne.symm hi), List.getElem?_set_ne (Ne.symm hi2)]
          · rw [List.getElem?_eq_none (by rw [lendB_length (by simp)]; simp; omega), List.getElem?_eq_none (by rw [List.length_set, List.length_set]; omega)]
    rw [hs]
    exact this
end Go.Proofs.YtmahocdmkpigjaaDoor

/- A hut is looked at in all places, and all that an hour can be. -/
namespace Go.Proofs.YtmahocdmkpigjaaDoor
open Go Go.Ab

/-- What is gone through: the places of a set, and all that can be in an hour. -/
def foldP {α : Type} (f : Nat → α → Int × Int → α) (L : List (Int × Int)) (frm : Nat) (x : α) : Nat → α
  | 0 => x
  | j + 1 => if frm.testBit j then L.foldl (f j) (foldP f L frm x j) else foldP f L frm x j
def stG (s : Su) (h : Hu) (k : Nat) (acc : Nat) (o : Int × Int) : Nat := acc ||| nextP s.step h o.1 o.2 k
def stT (s : Su) (h : Hu) (k : Nat) (t : Tl) (o : Int × Int) : Tl := seeF t (liftK s.step h.floor o.1 o.2 k)
theorem foldG_lt (s : Su) (h : Hu) {k : Nat} (hk : k < 8) : ∀ (L : List (Int × Int)) (x : Nat), x < 256 → L.foldl (stG s h k) x < 256
  | [], _, hx => hx
  | o :: L, x, hx => foldG_lt s h hk L _ (Nat.or_lt_two_pow (n := 8) hx (nextP_lt _ _ _ _ hk))
theorem foldPG_lt (s : Su) (h : Hu) (L : List (Int × Int)) (frm x : Nat) (hx : x < 256) : ∀ j, j ≤ 8 → foldP (stG s h) L frm x j < 256
  | 0, _ => hx
  | j + 1, hj => by
    have ih := foldPG_lt s h L frm x hx j (by omega)
    simp only [foldP]
    split
    · exact foldG_lt s h (by omega) L _ ih
    · exact ih
theorem foldP_end {α : Type} (f : Nat → α → Int × Int → α) (L : List (Int × Int)) {frm : Nat} (x : α) {j : Nat} (hj : frm < 2 ^ j) : ∀ d, foldP f L frm x (j + d) = foldP f L frm x j
  | 0 => rfl
  | d + 1 => by
    have : frm.testBit (j + d) = false := Nat.testBit_lt_two_pow (Nat.lt_of_lt_of_le hj (Nat.pow_le_pow_right (by decide) (by omega)))
    show (if frm.testBit (j + d) then _ else _) = _
    rw [this, if_neg (by simp)]
    exact foldP_end f L x hj d
theorem take_foldl {α β : Type} (f : α → β → α) (x : α) (L : List β) {j : Nat} {o : β} (h : L[j]? = some o) : (L.take (j + 1)).foldl f x = f ((L.take j).foldl f x) o := by
  obtain ⟨hk, e⟩ := List.getElem?_eq_some_iff.1 h
  rw [List.take_succ_eq_append_getElem hk, List.foldl_append, e]
  rfl
theorem and_pow (j frm : Nat) (hj : j < 8) (hf : frm < 256) : (bits .and .u64 ((2 ^ j : Nat) : Int) (frm : Int) == 0) = !frm.testBit j := by
  have hp : 2 ^ j ≤ 128 := Nat.pow_le_pow_right (n := 2) (by decide) (show j ≤ 7 by omega)
  have := Nat.two_pow_pos j
  have h2 : 2 ^ j &&& frm = if frm.testBit j then 2 ^ j else 0 := by
    apply Nat.eq_of_testBit_eq
    intro i
    rw [Nat.testBit_and, Nat.testBit_two_pow]
    by_cases e : j = i
    · subst e; cases hb : frm.testBit j <;> simp
    · cases frm.testBit j <;> simp [e]
  rw [ubits_and (by omega) (by omega), h2]
  cases frm.testBit j
  · rfl
  · simp only [if_true, Bool.not_true, beq_eq_false_iff_ne]; omega
theorem ushl1 (j : Nat) (hj : j < 9) : IntKind.u64.wrap (((2 ^ j : Nat) : Int) * 2 ^ (min 1 64)) = ((2 ^ (j + 1) : Nat) : Int) :=
  dec7 (p := fun j => IntKind.u64.wrap (((2 ^ j : Nat) : Int) * 2 ^ (min 1 64)) = ((2 ^ (j + 1) : Nat) : Int)) (by decide +kernel) j hj
theorem hoursP_bnd {x y : Sp} (bx : Near x 30) (by_ : Near y 10) {o : Int × Int} (h : o ∈ hoursP x y) : (x.1 ≤ o.1 ∧ o.1 ≤ x.2) ∧ y.1 ≤ o.2 ∧ o.2 ≤ y.2 := by
  unfold hoursP hourRow at h
  simp only [List.mem_flatMap, List.mem_map, List.mem_range] at h
  obtain ⟨i, hi, j, hj, rfl⟩ := h
  unfold numS at hi hj
  simp only
  omega
theorem seaCall (s : Su) (hs : 0 ≤ s.step ∧ s.step ≤ 4) (h : Hu) (w v : Int) (hw : 0 ≤ w ∧ w ≤ 100) (hv : 0 ≤ v ∧ v ≤ 100) (k : Nat) (hk : k < 8) {ks : List (Nat × List Int)} {xs : List T} {clk : Nat} (M : MapOK s ks xs) :
    ACall Tryd.prog 89 [seaE s 0, .t (tNow h w v (2 ^ k : Nat))] [.map shN ks xs clk] (fun o σ' => ∃ a', (o = .ret (.t (vb (liftK s.step h.floor w v k))) ∧ Memo s a') ∧ σ' = [a']) :=
  (floats_ok s hs h w v hw hv k hk M).mono fun _ _ ⟨h1, a, h2, h3⟩ => ⟨a, ⟨h1, h2⟩, h3⟩

set_option maxRecDepth 8000 in
set_option maxHeartbeats 8000000 in
theorem lookG_ok (s : Su) (hs : s.OK) (h : Hu) (frm : Nat) (hf : frm < 256) (hr : Nat) (x y : Sp) (hx : s.water[hr]? = some x) (hy : s.waves[hr]? = some y) (to : Nat) (ht : to < 256) {ks : List (Nat × List Int)} {xs : List T} {clk : Nat} (M : MapOK s ks xs) :
    ACall Tryd.prog 80 [seaE s 0, .t (tHu h), .t (vu frm), .t (vi hr), .iface 120 (.ptr 1 0)] [.map shN ks xs clk, .cells [.t (vu to)]] (fun o σ' => ∃ a c, (o = .ret (.tup []) ∧ Memo s a ∧ c = .cells [.t (vu ((foldP (stG s h) (hoursP x y) frm to 8 : Nat) : Int))]) ∧ σ' = [a, c]) := by
  refine ACall.walk k80 ?_
  unfold c80 tHu
  have hst := hs.step
  have hrl : hr < 9 := by have := (List.getElem?_eq_some_iff.1 hx).1; have := hs.nw; omega
  have bx := hs.water _ (List.mem_of_getElem? hx)
  have by_ := hs.waves _ (List.mem_of_getElem? hy)
  have hgen := fun m => hours_gen s m hr (by omega) x y hx hy bx by_
  have hbnd := fun o h => hoursP_bnd bx by_ (o := o) h
  generalize hoursP x y = L at *
  skip
  obtain ⟨fh, bh, rh⟩ := h
  simp only [go_sem, Nat.reduceEqDiff, Nat.reduceAdd, Nat.reduceSub, Nat.reduceMul, Nat.reduceLT, Nat.reduceLeDiff, Nat.reduceMod, Nat.reduceDiv, Int.reduceToNat, Int.reduceLT, Int.reduceLE, Bool.not_true, Bool.not_false, reduceIte, Int.reduceEq, Int.reduceBEq, Int.reduceBNe, Int.reduceGT, Int.reduceGE, Int.reduceNeg, Int.reduceAdd, Int.reduceSub, Nat.reduceBEq, decide_true, decide_false, undef, beq_self_eq_true, bne_self_eq_false, Bool.and_true, Bool.true_and, Bool.and_false, Bool.false_and, Bool.or_true, Bool.true_or, Bool.or_false, Bool.false_or]
  refine awpL_loopK 8 (fun j s' => ∃ ks xs clk d, MapOK s ks xs ∧ s' = { env := [(2, .t (vu frm)), (3, .t (vi hr)), (5, .vp [seaE s 0] 0), (6, .t (.ptr (tHu ⟨fh, bh, rh⟩) 0)), (9, .vp [.iface 120 (.ptr 1 0)] 0), (10, .ptr 2 0)], σ := [.map shN ks xs clk, .cells [.t (vu ((foldP (stG s ⟨fh, bh, rh⟩) L frm to j : Nat) : Int))], .cells [.t (vu (2 ^ j : Nat))]], df := List.replicate d .mark }) ⟨_, Sub.gc [0, 1, 5] [2, 3, 5, 6, 9, 10] rfl rfl, ks, xs, clk, 0, M, rfl⟩ ?_
  rintro j s' hj ⟨ks, xs, clk, d, M, rfl⟩
  have hX := foldPG_lt s ⟨fh, bh, rh⟩ L frm to ht j hj
  have hsucc : foldP (stG s ⟨fh, bh, rh⟩) L frm to (j + 1) = if frm.testBit j then L.foldl (stG s ⟨fh, bh, rh⟩ j) (foldP (stG s ⟨fh, bh, rh⟩) L frm to j) else foldP (stG s ⟨fh, bh, rh⟩) L frm to j := rfl
  have hend := fun hlt => foldP_end (stG s ⟨fh, bh, rh⟩) L (frm := frm) to (j := j) hlt (8 - j)
  rw [show j + (8 - j) = 8 by omega] at hend
  have hsh := ushl1 j (by omega)
  generalize foldP (stG s ⟨fh, bh, rh⟩) L frm to j = X at *
  simp only [go_sem, Nat.reduceEqDiff, Nat.reduceAdd, Nat.reduceSub, Nat.reduceMul, Nat.reduceLT, Nat.reduceLeDiff, Nat.reduceMod, Nat.reduceDiv, Int.reduceToNat, Int.reduceLT, Int.reduceLE, Bool.not_true, Bool.not_false, reduceIte, Int.reduceEq, Int.reduceBEq, Int.reduceBNe, Int.reduceGT, Int.reduceGE, Int.reduceNeg, Int.reduceAdd, Int.reduceSub, Nat.reduceBEq, decide_true, decide_false, undef, beq_self_eq_true, bne_self_eq_false, Bool.and_true, Bool.true_and, Bool.and_false, Bool.false_and, Bool.or_true, Bool.true_or, Bool.or_false, Bool.false_or, undef]
  cases g : decide (((2 ^ j : Nat) : Int) ≤ (frm : Int))
  · have hlt : frm < 2 ^ j := by have := of_decide_eq_false g; omega
    simp only [go_sem, Nat.reduceEqDiff, Nat.reduceAdd, Nat.reduceSub, Nat.reduceMul, Nat.reduceLT, Nat.reduceLeDiff, Nat.reduceMod, Nat.reduceDiv, Int.reduceToNat, Int.reduceLT, Int.reduceLE, Bool.not_true, Bool.not_false, reduceIte, Int.reduceEq, Int.reduceBEq, Int.reduceBNe, Int.reduceGT, Int.reduceGE, Int.reduceNeg, Int.reduceAdd, Int.reduceSub, Nat.reduceBEq, decide_true, decide_false, undef, beq_self_eq_true, bne_self_eq_false, Bool.and_true, Bool.true_and, Bool.and_false, Bool.false_and, Bool.or_true, Bool.true_or, Bool.or_false, Bool.false_or, undef, g]
    refine finL_ret [0, 1] ⟨by simp, rfl, rfl, rfl, _, rfl, _, _, ⟨by simp [E.gc], ⟨_, _, _, M, rfl⟩, ?_⟩, rfl⟩
    rw [hend hlt]
    rfl
  have hle : 2 ^ j ≤ frm := by have := of_decide_eq_true g; omega
  have hj8 : j < 8 := by
    apply Classical.byContradiction
    intro c
    have : j = 8 := by omega
    subst this
    omega
  have hap := and_pow j frm hj8 hf
  simp only [go_sem, Nat.reduceEqDiff, Nat.reduceAdd, Nat.reduceSub, Nat.reduceMul, Nat.reduceLT, Nat.reduceLeDiff, Nat.reduceMod, Nat.reduceDiv, Int.reduceToNat, Int.reduceLT, Int.reduceLE, Bool.not_true, Bool.not_false, reduceIte, Int.reduceEq, Int.reduceBEq, Int.reduceBNe, Int.reduceGT, Int.reduceGE, Int.reduceNeg, Int.reduceAdd, Int.reduceSub, Nat.reduceBEq, decide_true, decide_false, undef, beq_self_eq_true, bne_self_eq_false, Bool.and_true, Bool.true_and, Bool.and_false, Bool.false_and, Bool.or_true, Bool.true_or, Bool.or_false, Bool.false_or, undef, g, hap]
  cases hb : frm.testBit j
  · rw [hb, if_neg (by simp)] at hsucc
    simp only [go_sem, Nat.reduceEqDiff, Nat.reduceAdd, Nat.reduceSub, Nat.reduceMul, Nat.reduceLT, Nat.reduceLeDiff, Nat.reduceMod, Nat.reduceDiv, Int.reduceToNat, Int.reduceLT, Int.reduceLE, Bool.not_true, Bool.not_false, reduceIte, Int.reduceEq, Int.reduceBEq, Int.reduceBNe, Int.reduceGT, Int.reduceGE, Int.reduceNeg, Int.reduceAdd, Int.reduceSub, Nat.reduceBEq, decide_true, decide_false, undef, beq_self_eq_true, bne_self_eq_false, Bool.and_true, Bool.true_and, Bool.and_false, Bool.false_and, Bool.or_true, Bool.true_or, Bool.or_false, Bool.false_or, undef, hb, hsh]
    refine ⟨hj8, _, Sub.gc [0, 1, 3] [2, 3, 5, 6, 9, 10] rfl rfl, ks, xs, clk, d, M, ?_⟩
    rw [hsucc]
    exact St.gc_mk rfl rfl (by simp [Df.gc, List.replicate_succ]) rfl
  rw [hb, if_pos rfl] at hsucc
  simp only [go_sem, Nat.reduceEqDiff, Nat.reduceAdd, Nat.reduceSub, Nat.reduceMul, Nat.reduceLT, Nat.reduceLeDiff, Nat.reduceMod, Nat.reduceDiv, Int.reduceToNat, Int.reduceLT, Int.reduceLE, Bool.not_true, Bool.not_false, reduceIte, Int.reduceEq, Int.reduceBEq, Int.reduceBNe, Int.reduceGT, Int.reduceGE, Int.reduceNeg, Int.reduceAdd, Int.reduceSub, Nat.reduceBEq, decide_true, decide_false, undef, beq_self_eq_true, bne_self_eq_false, Bool.and_true, Bool.true_and, Bool.and_false, Bool.false_and, Bool.or_true, Bool.true_or, Bool.or_false, Bool.false_or, undef, hb]
  refine lend1 (m := 0) ((hours_ok s hr ks xs clk).mono fun o σ' h => (⟨_, ⟨h.1, rfl⟩, h.2⟩ : ∃ a', (o = _ ∧ a' = AO.map shN ks xs clk) ∧ σ' = [a'])) rfl rfl (by simp [E.rens, E.ren]; rfl) ?_
  rintro o a' ⟨rfl, rfl⟩
  simp only [go_sem, Nat.reduceEqDiff, Nat.reduceAdd, Nat.reduceSub, Nat.reduceMul, Nat.reduceLT, Nat.reduceLeDiff, Nat.reduceMod, Nat.reduceDiv, Int.reduceToNat, Int.reduceLT, Int.reduceLE, Bool.not_true, Bool.not_false, reduceIte, Int.reduceEq, Int.reduceBEq, Int.reduceBNe, Int.reduceGT, Int.reduceGE, Int.reduceNeg, Int.reduceAdd, Int.reduceSub, Nat.reduceBEq, decide_true, decide_false, undef, beq_self_eq_true, bne_self_eq_false, Bool.and_true, Bool.true_and, Bool.and_false, Bool.false_and, Bool.or_true, Bool.true_or, Bool.or_false, Bool.false_or, undef, Out.ren, E.ren, E.rens, AO.ren]
  refine awpL_gcpS (Sub.wk 24) ?_
  simp only [go_sem, Nat.reduceEqDiff, Nat.reduceAdd, Nat.reduceSub, Nat.reduceMul, Nat.reduceLT, Nat.reduceLeDiff, Nat.reduceMod, Nat.reduceDiv, Int.reduceToNat, Int.reduceLT, Int.reduceLE, Bool.not_true, Bool.not_false, reduceIte, Int.reduceEq, Int.reduceBEq, Int.reduceBNe, Int.reduceGT, Int.reduceGE, Int.reduceNeg, Int.reduceAdd, Int.reduceSub, Nat.reduceBEq, decide_true, decide_false, undef, beq_self_eq_true, bne_self_eq_false, Bool.and_true, Bool.true_and, Bool.and_false, Bool.false_and, Bool.or_true, Bool.true_or, Bool.or_false, Bool.false_or, undef, E.wk, E.wks, show lendR [0] 3 0 = 0 from rfl, List.length_cons, List.length_nil]
  refine awpL_rangeF2 (f := 90) (fs := []) (cs := [.ptr (.agg [seaT s .hole]) 0, .ptr (.agg [vi hr]) 0]) (L.map vHour) (fun i σ => ∃ ks xs clk, MapOK s ks xs ∧ σ = [.map shN ks xs clk, .cells [.t (vu (((L.take i).foldl (stG s ⟨fh, bh, rh⟩ j) X : Nat) : Int))], .cells [.t (vu (2 ^ j : Nat))]]) [0, 1, 2] [2, 3, 5, 6, 9, 10]
    [(2, .t (vu frm)), (3, .t (vi hr)), (5, .vp [seaE s 0] 0), (6, .t (.ptr (tHu ⟨fh, bh, rh⟩) 0)), (9, .vp [.iface 120 (.ptr 1 0)] 0), (10, .ptr 2 0)] (List.replicate d .mark) rfl (by simp [St.gc, Df.gc]) rfl rfl (hgen .hole) rfl rfl ⟨ks, xs, clk, M, rfl⟩ ?_ ?_
  · rintro l i v σ hv ⟨ks, xs, clk, M, rfl⟩
    rw [List.getElem?_map] at hv
    obtain ⟨o, ho, rfl⟩ := Option.map_eq_some_iff.1 hv
    have hob := hbnd o (List.mem_of_getElem? ho)
    have htk := take_foldl (stG s ⟨fh, bh, rh⟩ j) X L ho
    have hY := foldG_lt s ⟨fh, bh, rh⟩ hj8 (L.take i) X hX
    generalize (L.take i).foldl (stG s ⟨fh, bh, rh⟩ j) X = Y at *
    obtain ⟨w, v⟩ := o
    simp only at hob
    have h89 := seaCall s hst ⟨fh, bh, rh⟩ w v (by omega) (by omega) j hj8 (clk := clk) M
    have h109 := seeG_ok ⟨fh, bh, rh⟩ w v (liftK s.step fh w v j) j hj8 Y hY
    simp only [ofV_hour]
    simp only [go_sem, Nat.reduceEqDiff, Nat.reduceAdd, Nat.reduceSub, Nat.reduceMul, Nat.reduceLT, Nat.reduceLeDiff, Nat.reduceMod, Nat.reduceDiv, Int.reduceToNat, Int.reduceLT, Int.reduceLE, Bool.not_true, Bool.not_false, reduceIte, Int.reduceEq, Int.reduceBEq, Int.reduceBNe, Int.reduceGT, Int.reduceGE, Int.reduceNeg, Int.reduceAdd, Int.reduceSub, Nat.reduceBEq, decide_true, decide_false, undef, beq_self_eq_true, bne_self_eq_false, Bool.and_true, Bool.true_and, Bool.and_false, Bool.false_and, Bool.or_true, Bool.true_or, Bool.or_false, Bool.false_or, undef, tHu, mfind, Option.isSome_some]
    refine lend1 (m := 0) h89 rfl rfl rfl ?_
    rintro o a' ⟨rfl, ks2, xs2, clk2, M2, rfl⟩
    simp only [go_sem, Nat.reduceEqDiff, Nat.reduceAdd, Nat.reduceSub, Nat.reduceMul, Nat.reduceLT, Nat.reduceLeDiff, Nat.reduceMod, Nat.reduceDiv, Int.reduceToNat, Int.reduceLT, Int.reduceLE, Bool.not_true, Bool.not_false, reduceIte, Int.reduceEq, Int.reduceBEq, Int.reduceBNe, Int.reduceGT, Int.reduceGE, Int.reduceNeg, Int.reduceAdd, Int.reduceSub, Nat.reduceBEq, decide_true, decide_false, undef, beq_self_eq_true, bne_self_eq_false, Bool.and_true, Bool.true_and, Bool.and_false, Bool.false_and, Bool.or_true, Bool.true_or, Bool.or_false, Bool.false_or, undef, Out.ren, E.ren, E.rens, AO.ren, mfind, Option.isSome_some]
    refine lend1 (m := 1) (h109.mono fun o σ' h => (⟨_, ⟨h.1, rfl⟩, h.2⟩ : ∃ a', (o = .ret (.tup []) ∧ a' = AO.cells [.t (vu ((stG s ⟨fh, bh, rh⟩ j Y (w, v) : Nat) : Int))]) ∧ σ' = [a'])) rfl rfl rfl ?_
    rintro o a' ⟨rfl, rfl⟩
    simp only [go_sem, Nat.reduceEqDiff, Nat.reduceAdd, Nat.reduceSub, Nat.reduceMul, Nat.reduceLT, Nat.reduceLeDiff, Nat.reduceMod, Nat.reduceDiv, Int.reduceToNat, Int.reduceLT, Int.reduceLE, Bool.not_true, Bool.not_false, reduceIte, Int.reduceEq, Int.reduceBEq, Int.reduceBNe, Int.reduceGT, Int.reduceGE, Int.reduceNeg, Int.reduceAdd, Int.reduceSub, Nat.reduceBEq, decide_true, decide_false, undef, beq_self_eq_true, bne_self_eq_false, Bool.and_true, Bool.true_and, Bool.and_false, Bool.false_and, Bool.or_true, Bool.true_or, Bool.or_false, Bool.false_or, undef, Out.ren, E.ren, E.rens, AO.ren, mfind, Option.isSome_some]
    refine ⟨[0, 1, 2], rfl, rfl, ks2, xs2, clk2, M2, ?_⟩
    rw [htk]
    rfl
  · rintro σ ⟨ks, xs, clk, M, rfl⟩
    rw [List.length_map, List.take_length, ← hsucc]
    simp only [go_sem, Nat.reduceEqDiff, Nat.reduceAdd, Nat.reduceSub, Nat.reduceMul, Nat.reduceLT, Nat.reduceLeDiff, Nat.reduceMod, Nat.reduceDiv, Int.reduceToNat, Int.reduceLT, Int.reduceLE, Bool.not_true, Bool.not_false, reduceIte, Int.reduceEq, Int.reduceBEq, Int.reduceBNe, Int.reduceGT, Int.reduceGE, Int.reduceNeg, Int.reduceAdd, Int.reduceSub, Nat.reduceBEq, decide_true, decide_false, undef, beq_self_eq_true, bne_self_eq_false, Bool.and_true, Bool.true_and, Bool.and_false, Bool.false_and, Bool.or_true, Bool.true_or, Bool.or_false, Bool.false_or, undef, hsh]
    refine ⟨hj8, _, Sub.gc [0, 1, 3] [2, 3, 5, 6, 9, 10] rfl rfl, ks, xs, clk, d + 1, M, ?_⟩
    exact St.gc_mk rfl rfl (by simp [Df.gc, List.replicate_succ]) rfl

set_option maxRecDepth 8000 in
set_option maxHeartbeats 8000000 in
theorem lookT_ok (s : Su) (hs : s.OK) (h : Hu) (frm : Nat) (hf : frm < 256) (hr : Nat) (x y : Sp) (hx : s.water[hr]? = some x) (hy : s.waves[hr]? = some y) (ts : List Tl) (i0 : Nat) (t : Tl) (hi : ts[i0]? = some t) {ks : List (Nat × List Int)} {xs : List T} {clk : Nat} (M : MapOK s ks xs) :
    ACall Tryd.prog 80 [seaE s 0, .t (tHu h), .t (vu frm), .t (vi hr), .iface 123 (.elt 1 ts.length 2 i0 0)] [.map shN ks xs clk, .row 2 ((ts.map tTl).map .t)] (fun o σ' => ∃ a c, (o = .ret (.tup []) ∧ Memo s a ∧ c = .row 2 (((ts.set i0 (foldP (stT s h) (hoursP x y) frm t 8)).map tTl).map .t)) ∧ σ' = [a, c]) := by
  refine ACall.walk k80 ?_
  unfold c80 tHu
  have hst := hs.step
  have hrl : hr < 9 := by have := (List.getElem?_eq_some_iff.1 hx).1; have := hs.nw; omega
  have bx := hs.water _ (List.mem_of_getElem? hx)
  have by_ := hs.waves _ (List.mem_of_getElem? hy)
  have hgen := fun m => hours_gen s m hr (by omega) x y hx hy bx by_
  have hbnd := fun o h => hoursP_bnd bx by_ (o := o) h
  generalize hoursP x y = L at *
  have hts : ts.set i0 t = ts := by
    obtain ⟨hl, e⟩ := List.getElem?_eq_some_iff.1 hi
    rw [← e]; exact List.set_getElem_self hl
  have hset : ∀ X : Tl, (ts.set i0 X)[i0]? = some X := fun X => List.getElem?_set_self (List.getElem?_eq_some_iff.1 hi).1
  obtain ⟨fh, bh, rh⟩ := h
  simp only [go_sem, Nat.reduceEqDiff, Nat.reduceAdd, Nat.reduceSub, Nat.reduceMul, Nat.reduceLT, Nat.reduceLeDiff, Nat.reduceMod, Nat.reduceDiv, Int.reduceToNat, Int.reduceLT, Int.reduceLE, Bool.not_true, Bool.not_false, reduceIte, Int.reduceEq, Int.reduceBEq, Int.reduceBNe, Int.reduceGT, Int.reduceGE, Int.reduceNeg, Int.reduceAdd, Int.reduceSub, Nat.reduceBEq, decide_true, decide_false, undef, beq_self_eq_true, bne_self_eq_false, Bool.and_true, Bool.true_and, Bool.and_false, Bool.false_and, Bool.or_true, Bool.true_or, Bool.or_false, Bool.false_or]
  refine awpL_loopK 8 (fun j s' => ∃ ks xs clk d, MapOK s ks xs ∧ s' = { env := [(2, .t (vu frm)), (3, .t (vi hr)), (5, .vp [seaE s 0] 0), (6, .t (.ptr (tHu ⟨fh, bh, rh⟩) 0)), (9, .vp [.iface 123 (.elt 1 ts.length 2 i0 0)] 0), (10, .ptr 2 0)], σ := [.map shN ks xs clk, .row 2 (((ts.set i0 (foldP (stT s ⟨fh, bh, rh⟩) L frm t j)).map tTl).map .t), .cells [.t (vu (2 ^ j : Nat))]], df := List.replicate d .mark }) ⟨_, Sub.gc [0, 1, 5] [2, 3, 5, 6, 9, 10] rfl rfl, ks, xs, clk, 0, M, by rw [show foldP (stT s ⟨fh, bh, rh⟩) L frm t 0 = t from rfl, hts]; exact St.gc_mk rfl (by show [AO.map _ _ _ _, AO.row 2 ((List.map E.t _).map (E.gc _ _ _)), AO.cells _] = _; rw [gc_row]; rfl) rfl rfl⟩ ?_
  rintro j s' hj ⟨ks, xs, clk, d, M, rfl⟩
  skip
  have hsucc : foldP (stT s ⟨fh, bh, rh⟩) L frm t (j + 1) = if frm.testBit j then L.foldl (stT s ⟨fh, bh, rh⟩ j) (foldP (stT s ⟨fh, bh, rh⟩) L frm t j) else foldP (stT s ⟨fh, bh, rh⟩) L frm t j := rfl
  have hend := fun hlt => foldP_end (stT s ⟨fh, bh, rh⟩) L (frm := frm) t (j := j) hlt (8 - j)
  rw [show j + (8 - j) = 8 by omega] at hend
  have hsh := ushl1 j (by omega)
  generalize foldP (stT s ⟨fh, bh, rh⟩) L frm t j = X at *
  simp only [go_sem, Nat.reduceEqDiff, Nat.reduceAdd, Nat.reduceSub, Nat.reduceMul, Nat.reduceLT, Nat.reduceLeDiff, Nat.reduceMod, Nat.reduceDiv, Int.reduceToNat, Int.reduceLT, Int.reduceLE, Bool.not_true, Bool.not_false, reduceIte, Int.reduceEq, Int.reduceBEq, Int.reduceBNe, Int.reduceGT, Int.reduceGE, Int.reduceNeg, Int.reduceAdd, Int.reduceSub, Nat.reduceBEq, decide_true, decide_false, undef, beq_self_eq_true, bne_self_eq_false, Bool.and_true, Bool.true_and, Bool.and_false, Bool.false_and, Bool.or_true, Bool.true_or, Bool.or_false, Bool.false_or, undef]
  cases g : decide (((2 ^ j : Nat) : Int) ≤ (frm : Int))
  · have hlt : frm < 2 ^ j := by have := of_decide_eq_false g; omega
    simp only [go_sem, Nat.reduceEqDiff, Nat.reduceAdd, Nat.reduceSub, Nat.reduceMul, Nat.reduceLT, Nat.reduceLeDiff, Nat.reduceMod, Nat.reduceDiv, Int.reduceToNat, Int.reduceLT, Int.reduceLE, Bool.not_true, Bool.not_false, reduceIte, Int.reduceEq, Int.reduceBEq, Int.reduceBNe, Int.reduceGT, Int.reduceGE, Int.reduceNeg, Int.reduceAdd, Int.reduceSub, Nat.reduceBEq, decide_true, decide_false, undef, beq_self_eq_true, bne_self_eq_false, Bool.and_true, Bool.true_and, Bool.and_false, Bool.false_and, Bool.or_true, Bool.true_or, Bool.or_false, Bool.false_or, undef, g]
    refine finL_ret [0, 1] ⟨by simp, rfl, rfl, rfl, _, rfl, _, _, ⟨by simp [E.gc], ⟨_, _, _, M, rfl⟩, ?_⟩, rfl⟩
    rw [hend hlt]
    show AO.row 2 ((List.map E.t _).map (E.gc _ _ _)) = _; rw [gc_row]
  have hle : 2 ^ j ≤ frm := by have := of_decide_eq_true g; omega
  have hj8 : j < 8 := by
    apply Classical.byContradiction
    intro c
    have : j = 8 := by omega
    subst this
    omega
  have hap := and_pow j frm hj8 hf
  simp only [go_sem, Nat.reduceEqDiff, Nat.reduceAdd, Nat.reduceSub, Nat.reduceMul, Nat.reduceLT, Nat.reduceLeDiff, Nat.reduceMod, Nat.reduceDiv, Int.reduceToNat, Int.reduceLT, Int.reduceLE, Bool.not_true, Bool.not_false, reduceIte, Int.reduceEq, Int.reduceBEq, Int.reduceBNe, Int.reduceGT, Int.reduceGE, Int.reduceNeg, Int.reduceAdd, Int.reduceSub, Nat.reduceBEq, decide_true, decide_false, undef, beq_self_eq_true, bne_self_eq_false, Bool.and_true, Bool.true_and, Bool.and_false, Bool.false_and, Bool.or_true, Bool.true_or, Bool.or_false, Bool.false_or, undef, g, hap]
  cases hb : frm.testBit j
  · rw [hb, if_neg (by simp)] at hsucc
    simp only [go_sem, Nat.reduceEqDiff, Nat.reduceAdd, Nat.reduceSub, Nat.reduceMul, Nat.reduceLT, Nat.reduceLeDiff, Nat.reduceMod, Nat.reduceDiv, Int.reduceToNat, Int.reduceLT, Int.reduceLE, Bool.not_true, Bool.not_false, reduceIte, Int.reduceEq, Int.reduceBEq, Int.reduceBNe, Int.reduceGT, Int.reduceGE, Int.reduceNeg, Int.reduceAdd, Int.reduceSub, Nat.reduceBEq, decide_true, decide_false, undef, beq_self_eq_true, bne_self_eq_false, Bool.and_true, Bool.true_and, Bool.and_false, Bool.false_and, Bool.or_true, Bool.true_or, Bool.or_false, Bool.false_or, undef, hb, hsh]
    refine ⟨hj8, _, Sub.gc [0, 1, 3] [2, 3, 5, 6, 9, 10] rfl rfl, ks, xs, clk, d, M, ?_⟩
    rw [hsucc]
    exact St.gc_mk rfl (by show [AO.map _ _ _ _, AO.row 2 ((List.map E.t _).map (E.gc _ _ _)), AO.cells _] = _; rw [gc_row]; rfl) (by simp [Df.gc, List.replicate_succ]) rfl
  rw [hb, if_pos rfl] at hsucc
  simp only [go_sem, Nat.reduceEqDiff, Nat.reduceAdd, Nat.reduceSub, Nat.reduceMul, Nat.reduceLT, Nat.reduceLeDiff, Nat.reduceMod, Nat.reduceDiv, Int.reduceToNat, Int.reduceLT, Int.reduceLE, Bool.not_true, Bool.not_false, reduceIte, Int.reduceEq, Int.reduceBEq, Int.reduceBNe, Int.reduceGT, Int.reduceGE, Int.reduceNeg, Int.reduceAdd, Int.reduceSub, Nat.reduceBEq, decide_true, decide_false, undef, beq_self_eq_true, bne_self_eq_false, Bool.and_true, Bool.true_and, Bool.and_false, Bool.false_and, Bool.or_true, Bool.true_or, Bool.or_false, Bool.false_or, undef, hb]
  refine lend1 (m := 0) ((hours_ok s hr ks xs clk).mono fun o σ' h => (⟨_, ⟨h.1, rfl⟩, h.2⟩ : ∃ a', (o = _ ∧ a' = AO.map shN ks xs clk) ∧ σ' = [a'])) rfl rfl (by simp [E.rens, E.ren]; rfl) ?_
  rintro o a' ⟨rfl, rfl⟩
  simp only [go_sem, Nat.reduceEqDiff, Nat.reduceAdd, Nat.reduceSub, Nat.reduceMul, Nat.reduceLT, Nat.reduceLeDiff, Nat.reduceMod, Nat.reduceDiv, Int.reduceToNat, Int.reduceLT, Int.reduceLE, Bool.not_true, Bool.not_false, reduceIte, Int.reduceEq, Int.reduceBEq, Int.reduceBNe, Int.reduceGT, Int.reduceGE, Int.reduceNeg, Int.reduceAdd, Int.reduceSub, Nat.reduceBEq, decide_true, decide_false, undef, beq_self_eq_true, bne_self_eq_false, Bool.and_true, Bool.true_and, Bool.and_false, Bool.false_and, Bool.or_true, Bool.true_or, Bool.or_false, Bool.false_or, undef, Out.ren, E.ren, E.rens, AO.ren]
  refine awpL_gcpS (Sub.wk 24) ?_
  simp only [go_sem, Nat.reduceEqDiff, Nat.reduceAdd, Nat.reduceSub, Nat.reduceMul, Nat.reduceLT, Nat.reduceLeDiff, Nat.reduceMod, Nat.reduceDiv, Int.reduceToNat, Int.reduceLT, Int.reduceLE, Bool.not_true, Bool.not_false, reduceIte, Int.reduceEq, Int.reduceBEq, Int.reduceBNe, Int.reduceGT, Int.reduceGE, Int.reduceNeg, Int.reduceAdd, Int.reduceSub, Nat.reduceBEq, decide_true, decide_false, undef, beq_self_eq_true, bne_self_eq_false, Bool.and_true, Bool.true_and, Bool.and_false, Bool.false_and, Bool.or_true, Bool.true_or, Bool.or_false, Bool.false_or, undef, E.wk, E.wks, show lendR [0] 3 0 = 0 from rfl, List.length_cons, List.length_nil]
  refine awpL_rangeF2 (f := 90) (fs := []) (cs := [.ptr (.agg [seaT s .hole]) 0, .ptr (.agg [vi hr]) 0]) (L.map vHour) (fun i σ => ∃ ks xs clk, MapOK s ks xs ∧ σ = [.map shN ks xs clk, .row 2 (((ts.set i0 ((L.take i).foldl (stT s ⟨fh, bh, rh⟩ j) X)).map tTl).map .t), .cells [.t (vu (2 ^ j : Nat))]]) [0, 1, 2] [2, 3, 5, 6, 9, 10]
    [(2, .t (vu frm)), (3, .t (vi hr)), (5, .vp [seaE s 0] 0), (6, .t (.ptr (tHu ⟨fh, bh, rh⟩) 0)), (9, .vp [.iface 123 (.elt 1 ts.length 2 i0 0)] 0), (10, .ptr 2 0)] (List.replicate d .mark) rfl (by simp [St.gc, Df.gc]) rfl rfl (hgen .hole) rfl rfl ⟨ks, xs, clk, M, by rw [show (List.take 0 L).foldl (stT s ⟨fh, bh, rh⟩ j) X = X from rfl]; show [AO.map _ _ _ _, AO.row 2 ((List.map E.t _).map (E.gc _ _ _)), AO.cells _] = _; rw [gc_row]; rfl⟩ ?_ ?_
  · rintro l i v σ hv ⟨ks, xs, clk, M, rfl⟩
    rw [List.getElem?_map] at hv
    obtain ⟨o, ho, rfl⟩ := Option.map_eq_some_iff.1 hv
    have hob := hbnd o (List.mem_of_getElem? ho)
    have htk := take_foldl (stT s ⟨fh, bh, rh⟩ j) X L ho
    skip
    generalize (L.take i).foldl (stT s ⟨fh, bh, rh⟩ j) X = Y at *
    obtain ⟨w, v⟩ := o
    simp only at hob
    have h89 := seaCall s hst ⟨fh, bh, rh⟩ w v (by omega) (by omega) j hj8 (clk := clk) M
    have h112 := seeT_ok [vi fh, vi bh, vi rh, vi w, vi v, vu (2 ^ j : Nat)] (liftK s.step fh w v j) (ts.set i0 Y) i0 Y (hset Y)
    rw [List.length_set, List.set_set] at h112
    simp only [ofV_hour]
    simp only [go_sem, Nat.reduceEqDiff, Nat.reduceAdd, Nat.reduceSub, Nat.reduceMul, Nat.reduceLT, Nat.reduceLeDiff, Nat.reduceMod, Nat.reduceDiv, Int.reduceToNat, Int.reduceLT, Int.reduceLE, Bool.not_true, Bool.not_false, reduceIte, Int.reduceEq, Int.reduceBEq, Int.reduceBNe, Int.reduceGT, Int.reduceGE, Int.reduceNeg, Int.reduceAdd, Int.reduceSub, Nat.reduceBEq, decide_true, decide_false, undef, beq_self_eq_true, bne_self_eq_false, Bool.and_true, Bool.true_and, Bool.and_false, Bool.false_and, Bool.or_true, Bool.true_or, Bool.or_false, Bool.false_or, undef, tHu, mfind, Option.isSome_some]
    refine lend1 (m := 0) h89 rfl rfl rfl ?_
    rintro o a' ⟨rfl, ks2, xs2, clk2, M2, rfl⟩
    simp only [go_sem, Nat.reduceEqDiff, Nat.reduceAdd, Nat.reduceSub, Nat.reduceMul, Nat.reduceLT, Nat.reduceLeDiff, Nat.reduceMod, Nat.reduceDiv, Int.reduceToNat, Int.reduceLT, Int.reduceLE, Bool.not_true, Bool.not_false, reduceIte, Int.reduceEq, Int.reduceBEq, Int.reduceBNe, Int.reduceGT, Int.reduceGE, Int.reduceNeg, Int.reduceAdd, Int.reduceSub, Nat.reduceBEq, decide_true, decide_false, undef, beq_self_eq_true, bne_self_eq_false, Bool.and_true, Bool.true_and, Bool.and_false, Bool.false_and, Bool.or_true, Bool.true_or, Bool.or_false, Bool.false_or, undef, Out.ren, E.ren, E.rens, AO.ren, mfind, Option.isSome_some]
    refine lend1 (m := 1) (h112.mono fun o σ' h => (⟨_, ⟨h.1, rfl⟩, h.2⟩ : ∃ a', (o = .ret (.tup []) ∧ a' = AO.row 2 (((ts.set i0 (seeF Y (liftK s.step fh w v j))).map tTl).map .t)) ∧ σ' = [a'])) rfl (by simp only [AO.ren, E.rens_map, List.map_map]; rfl) rfl ?_
    rintro o a' ⟨rfl, rfl⟩
    simp only [go_sem, Nat.reduceEqDiff, Nat.reduceAdd, Nat.reduceSub, Nat.reduceMul, Nat.reduceLT, Nat.reduceLeDiff, Nat.reduceMod, Nat.reduceDiv, Int.reduceToNat, Int.reduceLT, Int.reduceLE, Bool.not_true, Bool.not_false, reduceIte, Int.reduceEq, Int.reduceBEq, Int.reduceBNe, Int.reduceGT, Int.reduceGE, Int.reduceNeg, Int.reduceAdd, Int.reduceSub, Nat.reduceBEq, decide_true, decide_false, undef, beq_self_eq_true, bne_self_eq_false, Bool.and_true, Bool.true_and, Bool.and_false, Bool.false_and, Bool.or_true, Bool.true_or, Bool.or_false, Bool.false_or, undef, Out.ren, E.ren, E.rens, AO.ren, mfind, Option.isSome_some]
    refine ⟨[0, 1, 2], rfl, rfl, ks2, xs2, clk2, M2, ?_⟩
    rw [htk]
    show [AO.map _ _ _ _, AO.row 2 (((E.rens _ (List.map E.t _))).map (E.gc _ _ _)), AO.cells _] = _; rw [E.rens_map, List.map_map, List.map_map]; rfl
  · rintro σ ⟨ks, xs, clk, M, rfl⟩
    rw [List.length_map, List.take_length, ← hsucc]
    simp only [go_sem, Nat.reduceEqDiff, Nat.reduceAdd, Nat.reduceSub, Nat.reduceMul, Nat.reduceLT, Nat.reduceLeDiff, Nat.reduceMod, Nat.reduceDiv, Int.reduceToNat, Int.reduceLT, Int.reduceLE, Bool.not_true, Bool.not_false, reduceIte, Int.reduceEq, Int.reduceBEq, Int.reduceBNe, Int.reduceGT, Int.reduceGE, Int.reduceNeg, Int.reduceAdd, Int.reduceSub, Nat.reduceBEq, decide_true, decide_false, undef, beq_self_eq_true, bne_self_eq_false, Bool.and_true, Bool.true_and, Bool.and_false, Bool.false_and, Bool.or_true, Bool.true_or, Bool.or_false, Bool.false_or, undef, hsh]
    refine ⟨hj8, _, Sub.gc [0, 1, 3] [2, 3, 5, 6, 9, 10] rfl rfl, ks, xs, clk, d + 1, M, ?_⟩
    exact St.gc_mk rfl (by show [AO.map _ _ _ _, AO.row 2 ((List.map E.t _).map (E.gc _ _ _)), AO.cells _] = _; rw [gc_row]; rfl) (by simp [Df.gc, List.replicate_succ]) rfl
end Go.Proofs.YtmahocdmkpigjaaDoor
