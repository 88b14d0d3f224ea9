/- Proved here: laws that the statements need (BoXH). No conditions but those that each law states. -/
import Derived.Test.YtafcdpmcmmfbhaaDoorBV

set_option linter.unusedSimpArgs false
set_option linter.unusedVariables false

/- BoatSteps. -/
namespace Go.Proofs.YtafcdpmcmmfbhaaDoor
open Go Go.Ab

theorem far_ok_of {b : Bo} (h : farB b = false) (hk : b.ok = true) : fineB b = true := by unfold fineB; rw [h, hk]; rfl
abbrev closT : E := .fn (.func 38) [] [.ptr 0 0]
def plT (b : Bo) (n m : Nat) : List Nat := placesL (canM b n m) b.N
def St1 (b : Bo) (n m : Nat) (st : St) : Prop := lk st.env 3 = .ptr 0 0 ∧ lk st.env 20 = .t (vi n) ∧ lk st.env 21 = .t (vi m) ∧ lk st.env 22 = .t (tN (plT b n m)) ∧ lk st.env 23 = .t (vb true) ∧ lk st.env 28 = closT ∧ (∃ x, st.σ = [.cells ((bo5 b).map .t), x]) ∧ st.df = [] ∧ st.k = 0
def St2 (b : Bo) (n m : Nat) (tb ta : T) (st : St) : Prop := lk st.env 3 = .ptr 0 0 ∧ lk st.env 20 = .t (vi n) ∧ lk st.env 21 = .t (vi m) ∧ lk st.env 22 = .t (tN (plT b n m)) ∧ lk st.env 28 = closT ∧ lk st.env 29 = .t tb ∧ lk st.env 30 = .t ta ∧ (∃ x, st.σ = [.cells ((bo5 b).map .t), x]) ∧ st.df = [] ∧ st.k = 0
def tbT (b : Bo) (n m : Nat) : T := if m = 0 then .lit (.slice none 0 0) else tN (plT b n (m - 1))
def taT (b : Bo) (n m : Nat) : T := if m = b.L then .lit (.slice none 0 0) else tN (plT b n (m + 1))
theorem set_ok' (b : Bo) (hl : Lens b) (hb : b.OK) (boat m : Nat) (hB : boat < b.seen.length) (hm : m ≤ b.L) (hT : isT b boat = true) : ACall Tryd.prog 37 [.t (.agg (bo5 b)), .t (vi boat), .t (vi m)] [] (res (.ret (.tup [.t (tN (plT b boat m)), .t (vb true)]))) := by
  have := set_ok b hl hb boat m hB hm
  unfold canN at this
  rw [hT] at this
  exact this
abbrev shB : Sh := (none, some IntKind.i64)
def St3 (b : Bo) (n m : Nat) (tb ta : T) (st : St) : Prop := lk st.env 3 = .ptr 0 0 ∧ lk st.env 20 = .t (vi n) ∧ lk st.env 21 = .t (vi m) ∧ lk st.env 28 = closT ∧ lk st.env 29 = .t tb ∧ lk st.env 30 = .t ta ∧ lk st.env 31 = .map 1 ∧ (∃ M clk, InOK M clk (plT b n m) ∧ st.σ = [.cells ((bo5 b).map .t), .map shB (mks M) (mvs M) clk]) ∧ st.df = [] ∧ st.k = 0
set_option maxRecDepth 8000 in
set_option maxHeartbeats 8000000 in
theorem BoatSteps_ok (b : Bo) (hL : Lens b) (p : Nat) (hp : p < 256) (w : Nat) (hw : w < 256) : ACall Tryd.prog 7 [.t (.agg (bo5 b)), .t (.lit (.int .u8 p)), .t (.lit (.int .u8 w))] [] (res (.ret (.t (vb true)))) := by
  refine ACall.walk k7 ?_
  unfold c7
  refine awpL_chop 13 (c1 := ?a1) (c2 := ?a2) (fun st => b.OK ∧ ∃ n m, n < b.seen.length ∧ m ≤ b.L ∧ isT b n = true ∧ St1 b n m st) ?hc ?_ ?_
  case hc => simp only [chop]; rfl
  · have h14 := far_ok b hL
    have h36 := rboats_ok b hL
    have h16 := Can_ok b hL
    have h24 := Met_ok b hL 0 0
    have h18 := Rows_ok b hL
    have h26 := Who_ok b hL
    have h22 := Broke_ok b hL
    have h35 := places_ok b
    have hok := b.ok_iff
    cases hF : farB b
    rotate_left
    · rw [hF] at h14
      simp only [bo5] at h14
      unfold bo5
      simp only [go_sem, Nat.reduceEqDiff, Nat.reduceAdd, Nat.reduceSub, Nat.reduceMul, Nat.reduceLT, Nat.reduceLeDiff, Nat.reduceMod, Nat.reduceDiv, Int.reduceToNat, Int.reduceLT, Int.reduceLE, Bool.not_true, Bool.not_false, reduceIte, Int.reduceEq, Int.reduceBEq, Int.reduceBNe, Int.reduceGT, Int.reduceGE, Int.reduceNeg, Int.reduceAdd, Int.reduceSub, Nat.reduceBEq, decide_true, decide_false, undef, beq_self_eq_true, bne_self_eq_false, Bool.and_true, Bool.true_and, Bool.and_false, Bool.false_and, Bool.or_true, Bool.true_or, Bool.or_false, Bool.false_or]
      refine ACallL.quiet1 h14 rfl rfl rfl ?_
      simp only [go_sem, Nat.reduceEqDiff, Nat.reduceAdd, Nat.reduceSub, Nat.reduceMul, Nat.reduceLT, Nat.reduceLeDiff, Nat.reduceMod, Nat.reduceDiv, Int.reduceToNat, Int.reduceLT, Int.reduceLE, Bool.not_true, Bool.not_false, reduceIte, Int.reduceEq, Int.reduceBEq, Int.reduceBNe, Int.reduceGT, Int.reduceGE, Int.reduceNeg, Int.reduceAdd, Int.reduceSub, Nat.reduceBEq, decide_true, decide_false, undef, beq_self_eq_true, bne_self_eq_false, Bool.and_true, Bool.true_and, Bool.and_false, Bool.false_and, Bool.or_true, Bool.true_or, Bool.or_false, Bool.false_or, undef]
      refine ACallL.quiet1 awake_ok rfl rfl rfl ?_
      simp only [go_sem, Nat.reduceEqDiff, Nat.reduceAdd, Nat.reduceSub, Nat.reduceMul, Nat.reduceLT, Nat.reduceLeDiff, Nat.reduceMod, Nat.reduceDiv, Int.reduceToNat, Int.reduceLT, Int.reduceLE, Bool.not_true, Bool.not_false, reduceIte, Int.reduceEq, Int.reduceBEq, Int.reduceBNe, Int.reduceGT, Int.reduceGE, Int.reduceNeg, Int.reduceAdd, Int.reduceSub, Nat.reduceBEq, decide_true, decide_false, undef, beq_self_eq_true, bne_self_eq_false, Bool.and_true, Bool.true_and, Bool.and_false, Bool.false_and, Bool.or_true, Bool.true_or, Bool.or_false, Bool.false_or, undef]
      exact finL_ret [] ⟨rfl, rfl, rfl, rfl, _, rfl, res_mk rfl⟩
    cases hk : b.ok
    · have e1 : specCan b 0 0 = (0, 1) := by unfold specCan; rw [hk]; rfl
      have e2 : specMet b 0 0 = (0, 1) := by unfold specMet; rw [hk]; rfl
      have h16 := h16 0 0
      rw [e1] at h16
      rw [e2] at h24
      rw [hF] at h14
      rw [hk] at h36
      simp only [bo5, oneE] at h14 h16 h24 h36
      unfold bo5
      simp only [go_sem, Nat.reduceEqDiff, Nat.reduceAdd, Nat.reduceSub, Nat.reduceMul, Nat.reduceLT, Nat.reduceLeDiff, Nat.reduceMod, Nat.reduceDiv, Int.reduceToNat, Int.reduceLT, Int.reduceLE, Bool.not_true, Bool.not_false, reduceIte, Int.reduceEq, Int.reduceBEq, Int.reduceBNe, Int.reduceGT, Int.reduceGE, Int.reduceNeg, Int.reduceAdd, Int.reduceSub, Nat.reduceBEq, decide_true, decide_false, undef, beq_self_eq_true, bne_self_eq_false, Bool.and_true, Bool.true_and, Bool.and_false, Bool.false_and, Bool.or_true, Bool.true_or, Bool.or_false, Bool.false_or]
      refine ACallL.quiet1 h14 rfl rfl rfl ?_
      simp only [go_sem, Nat.reduceEqDiff, Nat.reduceAdd, Nat.reduceSub, Nat.reduceMul, Nat.reduceLT, Nat.reduceLeDiff, Nat.reduceMod, Nat.reduceDiv, Int.reduceToNat, Int.reduceLT, Int.reduceLE, Bool.not_true, Bool.not_false, reduceIte, Int.reduceEq, Int.reduceBEq, Int.reduceBNe, Int.reduceGT, Int.reduceGE, Int.reduceNeg, Int.reduceAdd, Int.reduceSub, Nat.reduceBEq, decide_true, decide_false, undef, beq_self_eq_true, bne_self_eq_false, Bool.and_true, Bool.true_and, Bool.and_false, Bool.false_and, Bool.or_true, Bool.true_or, Bool.or_false, Bool.false_or, undef]
      refine ACallL.quiet1 h36 rfl rfl rfl ?_
      simp only [go_sem, Nat.reduceEqDiff, Nat.reduceAdd, Nat.reduceSub, Nat.reduceMul, Nat.reduceLT, Nat.reduceLeDiff, Nat.reduceMod, Nat.reduceDiv, Int.reduceToNat, Int.reduceLT, Int.reduceLE, Bool.not_true, Bool.not_false, reduceIte, Int.reduceEq, Int.reduceBEq, Int.reduceBNe, Int.reduceGT, Int.reduceGE, Int.reduceNeg, Int.reduceAdd, Int.reduceSub, Nat.reduceBEq, decide_true, decide_false, undef, beq_self_eq_true, bne_self_eq_false, Bool.and_true, Bool.true_and, Bool.and_false, Bool.false_and, Bool.or_true, Bool.true_or, Bool.or_false, Bool.false_or, undef]
      refine ACallL.quiet1 h16 rfl rfl rfl ?_
      simp only [go_sem, Nat.reduceEqDiff, Nat.reduceAdd, Nat.reduceSub, Nat.reduceMul, Nat.reduceLT, Nat.reduceLeDiff, Nat.reduceMod, Nat.reduceDiv, Int.reduceToNat, Int.reduceLT, Int.reduceLE, Bool.not_true, Bool.not_false, reduceIte, Int.reduceEq, Int.reduceBEq, Int.reduceBNe, Int.reduceGT, Int.reduceGE, Int.reduceNeg, Int.reduceAdd, Int.reduceSub, Nat.reduceBEq, decide_true, decide_false, undef, beq_self_eq_true, bne_self_eq_false, Bool.and_true, Bool.true_and, Bool.and_false, Bool.false_and, Bool.or_true, Bool.true_or, Bool.or_false, Bool.false_or, undef]
      refine ACallL.quiet1 h24 rfl rfl rfl ?_
      simp only [go_sem, Nat.reduceEqDiff, Nat.reduceAdd, Nat.reduceSub, Nat.reduceMul, Nat.reduceLT, Nat.reduceLeDiff, Nat.reduceMod, Nat.reduceDiv, Int.reduceToNat, Int.reduceLT, Int.reduceLE, Bool.not_true, Bool.not_false, reduceIte, Int.reduceEq, Int.reduceBEq, Int.reduceBNe, Int.reduceGT, Int.reduceGE, Int.reduceNeg, Int.reduceAdd, Int.reduceSub, Nat.reduceBEq, decide_true, decide_false, undef, beq_self_eq_true, bne_self_eq_false, Bool.and_true, Bool.true_and, Bool.and_false, Bool.false_and, Bool.or_true, Bool.true_or, Bool.or_false, Bool.false_or, undef]
      refine ACallL.quiet1 awake_ok rfl rfl rfl ?_
      simp only [go_sem, Nat.reduceEqDiff, Nat.reduceAdd, Nat.reduceSub, Nat.reduceMul, Nat.reduceLT, Nat.reduceLeDiff, Nat.reduceMod, Nat.reduceDiv, Int.reduceToNat, Int.reduceLT, Int.reduceLE, Bool.not_true, Bool.not_false, reduceIte, Int.reduceEq, Int.reduceBEq, Int.reduceBNe, Int.reduceGT, Int.reduceGE, Int.reduceNeg, Int.reduceAdd, Int.reduceSub, Nat.reduceBEq, decide_true, decide_false, undef, beq_self_eq_true, bne_self_eq_false, Bool.and_true, Bool.true_and, Bool.and_false, Bool.false_and, Bool.or_true, Bool.true_or, Bool.or_false, Bool.false_or, undef]
      exact finL_ret [] ⟨rfl, rfl, rfl, rfl, _, rfl, res_mk rfl⟩
    have hb := hok.1 hk
    have hnh := hb.num
    have hLb := hb.L
    have hNb := hb.N
    have hDb := hb.D
    have w2 : IntKind.i64.wrap (b.last + 1) = b.last + 1 := wrap_id (by omega) (by omega)
    have w3 : IntKind.i64.wrap (b.deep + 1) = b.deep + 1 := wrap_id (by omega) (by omega)
    have e1 : specCan b b.seen.length 0 = (0, 2) := by
      have : b.isBoat b.seen.length = false := by rw [← Bool.not_eq_true, isBoat_iff]; omega
      unfold specCan; rw [hk, this]; rfl
    have e2 : specRows b 0 (b.last + 1) = ((0, 0), 2) := by
      have : b.isMinute (b.last + 1) = false := by rw [← Bool.not_eq_true, isMinute_iff]; omega
      unfold specRows; rw [hk, this, Bool.and_false]; rfl
    have e3 : specWho b 0 (b.wide * b.deep) = (0, 0, 2) := by
      have : wI (b.wide * b.deep) 0 (b.wide * b.deep - 1) = false := by rw [← Bool.not_eq_true, wI_iff]; omega
      unfold specWho; rw [hk, this, Bool.and_false]; rfl
    have e4 : specBroke b 0 (b.deep + 1) = (0, 2) := by
      have : wI (b.deep + 1) 0 b.deep = false := by rw [← Bool.not_eq_true, wI_iff]; omega
      unfold specBroke; rw [hk, this, Bool.and_false]; rfl
    have f1 := h16 b.seen.length 0
    have f2 := h18 0 (b.last + 1)
    have f3 := h26 0 (b.wide * b.deep)
    have f4 := h22 0 (b.deep + 1)
    rw [e1] at f1
    rw [e2] at f2
    rw [e3] at f3
    rw [e4] at f4
    rw [hF] at h14
    rw [hk] at h36
    rw [wrap_id (n := b.wide * b.deep) (by omega) (by omega)] at h35
    clear e1 e2 e3 e4
    cases h0 : ((b.seen.length : Int) == 0)
    · have n0 : ¬ ((b.seen.length : Int) = 0) := by simpa using h0
      have ha : p % b.seen.length < b.seen.length := Nat.mod_lt _ (by omega)
      have hm : w % (b.L + 1) ≤ b.L := by have := Nat.mod_lt w (show 0 < b.L + 1 by omega); omega
      have t1 := mod_nat p b.seen.length
      have t2 := mod_nat w (b.L + 1)
      have w0 : IntKind.i64.wrap (p : Int) = p := wrap_id (by omega) (by omega)
      have w1 : IntKind.i64.wrap (w : Int) = w := wrap_id (by omega) (by omega)
      have t2' : (w : Int).tmod (b.last + 1) = ((w % (b.L + 1) : Nat) : Int) := by rw [show b.last + 1 = ((b.L + 1 : Nat) : Int) by omega]; exact t2
      have n1 : ¬ (b.last + 1 = 0) := by omega
      have h37 := set_ok b hL hb (p % b.seen.length) (w % (b.L + 1)) ha hm
      have h16 := h16 (p % b.seen.length : Nat) (w % (b.L + 1) : Nat)
      rw [specCan_ok hk ha hm hb] at h16
      have h30 := Wrong_ok b hL (p % b.seen.length : Nat)
      rw [specWrong_ok hb ha] at h30
      have hz := wrong_zero hb ha
      generalize p % b.seen.length = n at *
      generalize w % (b.L + 1) = m at *
      have hpl : isT b n = true → placesL (canN b n m) b.N = plT b n m := fun h => by unfold canN plT; rw [h]; rfl
      have hz' : decide (wrongR b n = 0) = isT b n := hz
      unfold canN at h16
      unfold wrongV at h30
      unfold canN at h37 hpl
      generalize hT : isT b n = is at *
      simp only [bo5, oneE, twoE, spanE, tSp] at h14 h16 h24 h36 h37 h35 f1 f2 f3 f4 h30
      unfold bo5
      simp only [go_sem, Nat.reduceEqDiff, Nat.reduceAdd, Nat.reduceSub, Nat.reduceMul, Nat.reduceLT, Nat.reduceLeDiff, Nat.reduceMod, Nat.reduceDiv, Int.reduceToNat, Int.reduceLT, Int.reduceLE, Bool.not_true, Bool.not_false, reduceIte, Int.reduceEq, Int.reduceBEq, Int.reduceBNe, Int.reduceGT, Int.reduceGE, Int.reduceNeg, Int.reduceAdd, Int.reduceSub, Nat.reduceBEq, decide_true, decide_false, undef, beq_self_eq_true, bne_self_eq_false, Bool.and_true, Bool.true_and, Bool.and_false, Bool.false_and, Bool.or_true, Bool.true_or, Bool.or_false, Bool.false_or]
      refine ACallL.quiet1 h14 rfl rfl rfl ?_
      simp only [go_sem, Nat.reduceEqDiff, Nat.reduceAdd, Nat.reduceSub, Nat.reduceMul, Nat.reduceLT, Nat.reduceLeDiff, Nat.reduceMod, Nat.reduceDiv, Int.reduceToNat, Int.reduceLT, Int.reduceLE, Bool.not_true, Bool.not_false, reduceIte, Int.reduceEq, Int.reduceBEq, Int.reduceBNe, Int.reduceGT, Int.reduceGE, Int.reduceNeg, Int.reduceAdd, Int.reduceSub, Nat.reduceBEq, decide_true, decide_false, undef, beq_self_eq_true, bne_self_eq_false, Bool.and_true, Bool.true_and, Bool.and_false, Bool.false_and, Bool.or_true, Bool.true_or, Bool.or_false, Bool.false_or, undef]
      refine ACallL.quiet1 h36 rfl rfl rfl ?_
      simp only [go_sem, Nat.reduceEqDiff, Nat.reduceAdd, Nat.reduceSub, Nat.reduceMul, Nat.reduceLT, Nat.reduceLeDiff, Nat.reduceMod, Nat.reduceDiv, Int.reduceToNat, Int.reduceLT, Int.reduceLE, Bool.not_true, Bool.not_false, reduceIte, Int.reduceEq, Int.reduceBEq, Int.reduceBNe, Int.reduceGT, Int.reduceGE, Int.reduceNeg, Int.reduceAdd, Int.reduceSub, Nat.reduceBEq, decide_true, decide_false, undef, beq_self_eq_true, bne_self_eq_false, Bool.and_true, Bool.true_and, Bool.and_false, Bool.false_and, Bool.or_true, Bool.true_or, Bool.or_false, Bool.false_or, undef, List.length_map]
      refine ACallL.quiet1 f1 rfl rfl rfl ?_
      simp only [go_sem, Nat.reduceEqDiff, Nat.reduceAdd, Nat.reduceSub, Nat.reduceMul, Nat.reduceLT, Nat.reduceLeDiff, Nat.reduceMod, Nat.reduceDiv, Int.reduceToNat, Int.reduceLT, Int.reduceLE, Bool.not_true, Bool.not_false, reduceIte, Int.reduceEq, Int.reduceBEq, Int.reduceBNe, Int.reduceGT, Int.reduceGE, Int.reduceNeg, Int.reduceAdd, Int.reduceSub, Nat.reduceBEq, decide_true, decide_false, undef, beq_self_eq_true, bne_self_eq_false, Bool.and_true, Bool.true_and, Bool.and_false, Bool.false_and, Bool.or_true, Bool.true_or, Bool.or_false, Bool.false_or, undef, w2]
      refine ACallL.quiet1 f2 rfl rfl rfl ?_
      simp only [go_sem, Nat.reduceEqDiff, Nat.reduceAdd, Nat.reduceSub, Nat.reduceMul, Nat.reduceLT, Nat.reduceLeDiff, Nat.reduceMod, Nat.reduceDiv, Int.reduceToNat, Int.reduceLT, Int.reduceLE, Bool.not_true, Bool.not_false, reduceIte, Int.reduceEq, Int.reduceBEq, Int.reduceBNe, Int.reduceGT, Int.reduceGE, Int.reduceNeg, Int.reduceAdd, Int.reduceSub, Nat.reduceBEq, decide_true, decide_false, undef, beq_self_eq_true, bne_self_eq_false, Bool.and_true, Bool.true_and, Bool.and_false, Bool.false_and, Bool.or_true, Bool.true_or, Bool.or_false, Bool.false_or, undef]
      refine ACallL.quiet1 h35 rfl rfl rfl ?_
      simp only [go_sem, Nat.reduceEqDiff, Nat.reduceAdd, Nat.reduceSub, Nat.reduceMul, Nat.reduceLT, Nat.reduceLeDiff, Nat.reduceMod, Nat.reduceDiv, Int.reduceToNat, Int.reduceLT, Int.reduceLE, Bool.not_true, Bool.not_false, reduceIte, Int.reduceEq, Int.reduceBEq, Int.reduceBNe, Int.reduceGT, Int.reduceGE, Int.reduceNeg, Int.reduceAdd, Int.reduceSub, Nat.reduceBEq, decide_true, decide_false, undef, beq_self_eq_true, bne_self_eq_false, Bool.and_true, Bool.true_and, Bool.and_false, Bool.false_and, Bool.or_true, Bool.true_or, Bool.or_false, Bool.false_or, undef]
      refine ACallL.quiet1 f3 rfl rfl rfl ?_
      simp only [go_sem, Nat.reduceEqDiff, Nat.reduceAdd, Nat.reduceSub, Nat.reduceMul, Nat.reduceLT, Nat.reduceLeDiff, Nat.reduceMod, Nat.reduceDiv, Int.reduceToNat, Int.reduceLT, Int.reduceLE, Bool.not_true, Bool.not_false, reduceIte, Int.reduceEq, Int.reduceBEq, Int.reduceBNe, Int.reduceGT, Int.reduceGE, Int.reduceNeg, Int.reduceAdd, Int.reduceSub, Nat.reduceBEq, decide_true, decide_false, undef, beq_self_eq_true, bne_self_eq_false, Bool.and_true, Bool.true_and, Bool.and_false, Bool.false_and, Bool.or_true, Bool.true_or, Bool.or_false, Bool.false_or, undef, w3]
      refine ACallL.quiet1 f4 rfl rfl rfl ?_
      simp only [go_sem, Nat.reduceEqDiff, Nat.reduceAdd, Nat.reduceSub, Nat.reduceMul, Nat.reduceLT, Nat.reduceLeDiff, Nat.reduceMod, Nat.reduceDiv, Int.reduceToNat, Int.reduceLT, Int.reduceLE, Bool.not_true, Bool.not_false, reduceIte, Int.reduceEq, Int.reduceBEq, Int.reduceBNe, Int.reduceGT, Int.reduceGE, Int.reduceNeg, Int.reduceAdd, Int.reduceSub, Nat.reduceBEq, decide_true, decide_false, undef, beq_self_eq_true, bne_self_eq_false, Bool.and_true, Bool.true_and, Bool.and_false, Bool.false_and, Bool.or_true, Bool.true_or, Bool.or_false, Bool.false_or, undef, List.length_map, h0, n0, w0, w1, w2, n1, t1, t2']
      repeat' (first | refine AndL.mk ?_ ?_ | simp only [go_sem, Nat.reduceEqDiff, Nat.reduceAdd, Nat.reduceSub, Nat.reduceMul, Nat.reduceLT, Nat.reduceLeDiff, Nat.reduceMod, Nat.reduceDiv, Int.reduceToNat, Int.reduceLT, Int.reduceLE, Bool.not_true, Bool.not_false, reduceIte, Int.reduceEq, Int.reduceBEq, Int.reduceBNe, Int.reduceGT, Int.reduceGE, Int.reduceNeg, Int.reduceAdd, Int.reduceSub, Nat.reduceBEq, decide_true, decide_false, undef, beq_self_eq_true, bne_self_eq_false, Bool.and_true, Bool.true_and, Bool.and_false, Bool.false_and, Bool.or_true, Bool.true_or, Bool.or_false, Bool.false_or, undef, List.length_map, h0, n0, w0, w1, w2, n1, t1, t2'])
      refine ACallL.fresh1 h37 rfl ?_
      cases is
      · have hr : ¬ wrongR b n = 0 := of_decide_eq_false hz'
        simp only [if_neg hr, Bool.false_eq_true, if_false] at h16 h30
        simp only [go_sem, Nat.reduceEqDiff, Nat.reduceAdd, Nat.reduceSub, Nat.reduceMul, Nat.reduceLT, Nat.reduceLeDiff, Nat.reduceMod, Nat.reduceDiv, Int.reduceToNat, Int.reduceLT, Int.reduceLE, Bool.not_true, Bool.not_false, reduceIte, Int.reduceEq, Int.reduceBEq, Int.reduceBNe, Int.reduceGT, Int.reduceGE, Int.reduceNeg, Int.reduceAdd, Int.reduceSub, Nat.reduceBEq, decide_true, decide_false, undef, beq_self_eq_true, bne_self_eq_false, Bool.and_true, Bool.true_and, Bool.and_false, Bool.false_and, Bool.or_true, Bool.true_or, Bool.or_false, Bool.false_or, undef]
        refine ACallL.quiet1 h16 rfl rfl rfl ?_
        simp only [go_sem, Nat.reduceEqDiff, Nat.reduceAdd, Nat.reduceSub, Nat.reduceMul, Nat.reduceLT, Nat.reduceLeDiff, Nat.reduceMod, Nat.reduceDiv, Int.reduceToNat, Int.reduceLT, Int.reduceLE, Bool.not_true, Bool.not_false, reduceIte, Int.reduceEq, Int.reduceBEq, Int.reduceBNe, Int.reduceGT, Int.reduceGE, Int.reduceNeg, Int.reduceAdd, Int.reduceSub, Nat.reduceBEq, decide_true, decide_false, undef, beq_self_eq_true, bne_self_eq_false, Bool.and_true, Bool.true_and, Bool.and_false, Bool.false_and, Bool.or_true, Bool.true_or, Bool.or_false, Bool.false_or, undef]
        refine ACallL.quiet1 h30 rfl rfl rfl ?_
        simp only [go_sem, Nat.reduceEqDiff, Nat.reduceAdd, Nat.reduceSub, Nat.reduceMul, Nat.reduceLT, Nat.reduceLeDiff, Nat.reduceMod, Nat.reduceDiv, Int.reduceToNat, Int.reduceLT, Int.reduceLE, Bool.not_true, Bool.not_false, reduceIte, Int.reduceEq, Int.reduceBEq, Int.reduceBNe, Int.reduceGT, Int.reduceGE, Int.reduceNeg, Int.reduceAdd, Int.reduceSub, Nat.reduceBEq, decide_true, decide_false, undef, beq_self_eq_true, bne_self_eq_false, Bool.and_true, Bool.true_and, Bool.and_false, Bool.false_and, Bool.or_true, Bool.true_or, Bool.or_false, Bool.false_or, undef]
        refine ACallL.quiet1 awake_ok rfl rfl rfl ?_
        simp only [go_sem, Nat.reduceEqDiff, Nat.reduceAdd, Nat.reduceSub, Nat.reduceMul, Nat.reduceLT, Nat.reduceLeDiff, Nat.reduceMod, Nat.reduceDiv, Int.reduceToNat, Int.reduceLT, Int.reduceLE, Bool.not_true, Bool.not_false, reduceIte, Int.reduceEq, Int.reduceBEq, Int.reduceBNe, Int.reduceGT, Int.reduceGE, Int.reduceNeg, Int.reduceAdd, Int.reduceSub, Nat.reduceBEq, decide_true, decide_false, undef, beq_self_eq_true, bne_self_eq_false, Bool.and_true, Bool.true_and, Bool.and_false, Bool.false_and, Bool.or_true, Bool.true_or, Bool.or_false, Bool.false_or, undef]
        exact finL_ret [] ⟨rfl, rfl, rfl, rfl, _, rfl, res_mk rfl⟩
      · simp only [go_sem, Nat.reduceEqDiff, Nat.reduceAdd, Nat.reduceSub, Nat.reduceMul, Nat.reduceLT, Nat.reduceLeDiff, Nat.reduceMod, Nat.reduceDiv, Int.reduceToNat, Int.reduceLT, Int.reduceLE, Bool.not_true, Bool.not_false, reduceIte, Int.reduceEq, Int.reduceBEq, Int.reduceBNe, Int.reduceGT, Int.reduceGE, Int.reduceNeg, Int.reduceAdd, Int.reduceSub, Nat.reduceBEq, decide_true, decide_false, undef, beq_self_eq_true, bne_self_eq_false, Bool.and_true, Bool.true_and, Bool.and_false, Bool.false_and, Bool.or_true, Bool.true_or, Bool.or_false, Bool.false_or, undef]
        exact ⟨hb, n, m, ha, hm, hT, rfl, rfl, rfl, rfl, rfl, rfl, ⟨_, rfl⟩, rfl, rfl⟩
    · simp only [bo5, oneE, twoE, spanE, tSp] at h14 h36 h35 f1 f2 f3 f4
      unfold bo5
      simp only [go_sem, Nat.reduceEqDiff, Nat.reduceAdd, Nat.reduceSub, Nat.reduceMul, Nat.reduceLT, Nat.reduceLeDiff, Nat.reduceMod, Nat.reduceDiv, Int.reduceToNat, Int.reduceLT, Int.reduceLE, Bool.not_true, Bool.not_false, reduceIte, Int.reduceEq, Int.reduceBEq, Int.reduceBNe, Int.reduceGT, Int.reduceGE, Int.reduceNeg, Int.reduceAdd, Int.reduceSub, Nat.reduceBEq, decide_true, decide_false, undef, beq_self_eq_true, bne_self_eq_false, Bool.and_true, Bool.true_and, Bool.and_false, Bool.false_and, Bool.or_true, Bool.true_or, Bool.or_false, Bool.false_or]
      refine ACallL.quiet1 h14 rfl rfl rfl ?_
      simp only [go_sem, Nat.reduceEqDiff, Nat.reduceAdd, Nat.reduceSub, Nat.reduceMul, Nat.reduceLT, Nat.reduceLeDiff, Nat.reduceMod, Nat.reduceDiv, Int.reduceToNat, Int.reduceLT, Int.reduceLE, Bool.not_true, Bool.not_false, reduceIte, Int.reduceEq, Int.reduceBEq, Int.reduceBNe, Int.reduceGT, Int.reduceGE, Int.reduceNeg, Int.reduceAdd, Int.reduceSub, Nat.reduceBEq, decide_true, decide_false, undef, beq_self_eq_true, bne_self_eq_false, Bool.and_true, Bool.true_and, Bool.and_false, Bool.false_and, Bool.or_true, Bool.true_or, Bool.or_false, Bool.false_or, undef]
      refine ACallL.quiet1 h36 rfl rfl rfl ?_
      simp only [go_sem, Nat.reduceEqDiff, Nat.reduceAdd, Nat.reduceSub, Nat.reduceMul, Nat.reduceLT, Nat.reduceLeDiff, Nat.reduceMod, Nat.reduceDiv, Int.reduceToNat, Int.reduceLT, Int.reduceLE, Bool.not_true, Bool.not_false, reduceIte, Int.reduceEq, Int.reduceBEq, Int.reduceBNe, Int.reduceGT, Int.reduceGE, Int.reduceNeg, Int.reduceAdd, Int.reduceSub, Nat.reduceBEq, decide_true, decide_false, undef, beq_self_eq_true, bne_self_eq_false, Bool.and_true, Bool.true_and, Bool.and_false, Bool.false_and, Bool.or_true, Bool.true_or, Bool.or_false, Bool.false_or, undef, List.length_map]
      refine ACallL.quiet1 f1 rfl rfl rfl ?_
      simp only [go_sem, Nat.reduceEqDiff, Nat.reduceAdd, Nat.reduceSub, Nat.reduceMul, Nat.reduceLT, Nat.reduceLeDiff, Nat.reduceMod, Nat.reduceDiv, Int.reduceToNat, Int.reduceLT, Int.reduceLE, Bool.not_true, Bool.not_false, reduceIte, Int.reduceEq, Int.reduceBEq, Int.reduceBNe, Int.reduceGT, Int.reduceGE, Int.reduceNeg, Int.reduceAdd, Int.reduceSub, Nat.reduceBEq, decide_true, decide_false, undef, beq_self_eq_true, bne_self_eq_false, Bool.and_true, Bool.true_and, Bool.and_false, Bool.false_and, Bool.or_true, Bool.true_or, Bool.or_false, Bool.false_or, undef, w2]
      refine ACallL.quiet1 f2 rfl rfl rfl ?_
      simp only [go_sem, Nat.reduceEqDiff, Nat.reduceAdd, Nat.reduceSub, Nat.reduceMul, Nat.reduceLT, Nat.reduceLeDiff, Nat.reduceMod, Nat.reduceDiv, Int.reduceToNat, Int.reduceLT, Int.reduceLE, Bool.not_true, Bool.not_false, reduceIte, Int.reduceEq, Int.reduceBEq, Int.reduceBNe, Int.reduceGT, Int.reduceGE, Int.reduceNeg, Int.reduceAdd, Int.reduceSub, Nat.reduceBEq, decide_true, decide_false, undef, beq_self_eq_true, bne_self_eq_false, Bool.and_true, Bool.true_and, Bool.and_false, Bool.false_and, Bool.or_true, Bool.true_or, Bool.or_false, Bool.false_or, undef]
      refine ACallL.quiet1 h35 rfl rfl rfl ?_
      simp only [go_sem, Nat.reduceEqDiff, Nat.reduceAdd, Nat.reduceSub, Nat.reduceMul, Nat.reduceLT, Nat.reduceLeDiff, Nat.reduceMod, Nat.reduceDiv, Int.reduceToNat, Int.reduceLT, Int.reduceLE, Bool.not_true, Bool.not_false, reduceIte, Int.reduceEq, Int.reduceBEq, Int.reduceBNe, Int.reduceGT, Int.reduceGE, Int.reduceNeg, Int.reduceAdd, Int.reduceSub, Nat.reduceBEq, decide_true, decide_false, undef, beq_self_eq_true, bne_self_eq_false, Bool.and_true, Bool.true_and, Bool.and_false, Bool.false_and, Bool.or_true, Bool.true_or, Bool.or_false, Bool.false_or, undef]
      refine ACallL.quiet1 f3 rfl rfl rfl ?_
      simp only [go_sem, Nat.reduceEqDiff, Nat.reduceAdd, Nat.reduceSub, Nat.reduceMul, Nat.reduceLT, Nat.reduceLeDiff, Nat.reduceMod, Nat.reduceDiv, Int.reduceToNat, Int.reduceLT, Int.reduceLE, Bool.not_true, Bool.not_false, reduceIte, Int.reduceEq, Int.reduceBEq, Int.reduceBNe, Int.reduceGT, Int.reduceGE, Int.reduceNeg, Int.reduceAdd, Int.reduceSub, Nat.reduceBEq, decide_true, decide_false, undef, beq_self_eq_true, bne_self_eq_false, Bool.and_true, Bool.true_and, Bool.and_false, Bool.false_and, Bool.or_true, Bool.true_or, Bool.or_false, Bool.false_or, undef, w3]
      refine ACallL.quiet1 f4 rfl rfl rfl ?_
      simp only [go_sem, Nat.reduceEqDiff, Nat.reduceAdd, Nat.reduceSub, Nat.reduceMul, Nat.reduceLT, Nat.reduceLeDiff, Nat.reduceMod, Nat.reduceDiv, Int.reduceToNat, Int.reduceLT, Int.reduceLE, Bool.not_true, Bool.not_false, reduceIte, Int.reduceEq, Int.reduceBEq, Int.reduceBNe, Int.reduceGT, Int.reduceGE, Int.reduceNeg, Int.reduceAdd, Int.reduceSub, Nat.reduceBEq, decide_true, decide_false, undef, beq_self_eq_true, bne_self_eq_false, Bool.and_true, Bool.true_and, Bool.and_false, Bool.false_and, Bool.or_true, Bool.true_or, Bool.or_false, Bool.false_or, undef, List.length_map, h0]
      refine ACallL.quiet1 awake_ok rfl rfl rfl ?_
      simp only [go_sem, Nat.reduceEqDiff, Nat.reduceAdd, Nat.reduceSub, Nat.reduceMul, Nat.reduceLT, Nat.reduceLeDiff, Nat.reduceMod, Nat.reduceDiv, Int.reduceToNat, Int.reduceLT, Int.reduceLE, Bool.not_true, Bool.not_false, reduceIte, Int.reduceEq, Int.reduceBEq, Int.reduceBNe, Int.reduceGT, Int.reduceGE, Int.reduceNeg, Int.reduceAdd, Int.reduceSub, Nat.reduceBEq, decide_true, decide_false, undef, beq_self_eq_true, bne_self_eq_false, Bool.and_true, Bool.true_and, Bool.and_false, Bool.false_and, Bool.or_true, Bool.true_or, Bool.or_false, Bool.false_or, undef]
      exact finL_ret [] ⟨rfl, rfl, rfl, rfl, _, rfl, res_mk rfl⟩
  rintro ⟨env, σ, df, k⟩ ⟨hb, n, m, hn, hm, hT, q3, q20, q21, q22, q23, q28, ⟨x, hσ⟩, hdf, hk⟩
  simp only at q3 q20 q21 q22 q23 q28 hσ hdf hk
  subst hσ hdf hk
  have hLb := hb.L
  have hNb := hb.N
  refine awpL_chop 4 (c1 := ?b1) (c2 := ?b2) (St2 b n m (tbT b n m) (taT b n m)) ?hc2 ?_ ?_
  case hc2 => simp only [chop]; rfl
  · have h1 := fun (h : m ≠ 0) => set_ok' b hL hb n (m - 1) hn (by omega) hT
    have h2 := fun (h : m ≠ b.L) => set_ok' b hL hb n (m + 1) hn (by omega) hT
    have w1 : m ≠ 0 → IntKind.i64.wrap ((m : Int) - 1) = ((m - 1 : Nat) : Int) := fun h => by rw [wrap_id (by omega) (by omega)]; omega
    have w2 : IntKind.i64.wrap ((m : Int) + 1) = ((m + 1 : Nat) : Int) := by rw [wrap_id (by omega) (by omega)]; omega
    simp only [bo5] at h1 h2
    unfold bo5
    by_cases c1 : m = 0
    · have d1 : decide ((m : Int) > 0) = false := by simp; omega
      by_cases c2 : m = b.L
      · have d2 : decide ((m : Int) < b.last) = false := by simp; omega
        simp only [go_sem, Nat.reduceEqDiff, Nat.reduceAdd, Nat.reduceSub, Nat.reduceMul, Nat.reduceLT, Nat.reduceLeDiff, Nat.reduceMod, Nat.reduceDiv, Int.reduceToNat, Int.reduceLT, Int.reduceLE, Bool.not_true, Bool.not_false, reduceIte, Int.reduceEq, Int.reduceBEq, Int.reduceBNe, Int.reduceGT, Int.reduceGE, Int.reduceNeg, Int.reduceAdd, Int.reduceSub, Nat.reduceBEq, decide_true, decide_false, undef, beq_self_eq_true, bne_self_eq_false, Bool.and_true, Bool.true_and, Bool.and_false, Bool.false_and, Bool.or_true, Bool.true_or, Bool.or_false, Bool.false_or, undef, q3, q20, q21, q22, q23, q28, d1, d2, w2]
        refine ⟨q3, q20, q21, q22, q28, ?_, ?_, ⟨_, rfl⟩, rfl, rfl⟩
        · unfold tbT; rw [if_pos c1]; rfl
        · unfold taT; rw [if_pos c2]; rfl
      · have d2 : decide ((m : Int) < b.last) = true := by simp; omega
        simp only [go_sem, Nat.reduceEqDiff, Nat.reduceAdd, Nat.reduceSub, Nat.reduceMul, Nat.reduceLT, Nat.reduceLeDiff, Nat.reduceMod, Nat.reduceDiv, Int.reduceToNat, Int.reduceLT, Int.reduceLE, Bool.not_true, Bool.not_false, reduceIte, Int.reduceEq, Int.reduceBEq, Int.reduceBNe, Int.reduceGT, Int.reduceGE, Int.reduceNeg, Int.reduceAdd, Int.reduceSub, Nat.reduceBEq, decide_true, decide_false, undef, beq_self_eq_true, bne_self_eq_false, Bool.and_true, Bool.true_and, Bool.and_false, Bool.false_and, Bool.or_true, Bool.true_or, Bool.or_false, Bool.false_or, undef, q3, q20, q21, q22, q23, q28, d1, d2, w2]
        refine ACallL.fresh1 (h2 c2) rfl ?_
        simp only [go_sem, Nat.reduceEqDiff, Nat.reduceAdd, Nat.reduceSub, Nat.reduceMul, Nat.reduceLT, Nat.reduceLeDiff, Nat.reduceMod, Nat.reduceDiv, Int.reduceToNat, Int.reduceLT, Int.reduceLE, Bool.not_true, Bool.not_false, reduceIte, Int.reduceEq, Int.reduceBEq, Int.reduceBNe, Int.reduceGT, Int.reduceGE, Int.reduceNeg, Int.reduceAdd, Int.reduceSub, Nat.reduceBEq, decide_true, decide_false, undef, beq_self_eq_true, bne_self_eq_false, Bool.and_true, Bool.true_and, Bool.and_false, Bool.false_and, Bool.or_true, Bool.true_or, Bool.or_false, Bool.false_or, undef, q3, q20, q21, q22, q23, q28, d1, d2, w2]
        refine ⟨q3, q20, q21, q22, q28, ?_, ?_, ⟨_, rfl⟩, rfl, rfl⟩
        · unfold tbT; rw [if_pos c1]; rfl
        · unfold taT; rw [if_neg c2]; rfl
    · have d1 : decide ((m : Int) > 0) = true := by simp; omega
      have w1 := w1 c1
      by_cases c2 : m = b.L
      · have d2 : decide ((m : Int) < b.last) = false := by simp; omega
        simp only [go_sem, Nat.reduceEqDiff, Nat.reduceAdd, Nat.reduceSub, Nat.reduceMul, Nat.reduceLT, Nat.reduceLeDiff, Nat.reduceMod, Nat.reduceDiv, Int.reduceToNat, Int.reduceLT, Int.reduceLE, Bool.not_true, Bool.not_false, reduceIte, Int.reduceEq, Int.reduceBEq, Int.reduceBNe, Int.reduceGT, Int.reduceGE, Int.reduceNeg, Int.reduceAdd, Int.reduceSub, Nat.reduceBEq, decide_true, decide_false, undef, beq_self_eq_true, bne_self_eq_false, Bool.and_true, Bool.true_and, Bool.and_false, Bool.false_and, Bool.or_true, Bool.true_or, Bool.or_false, Bool.false_or, undef, q3, q20, q21, q22, q23, q28, d1, d2, w1, w2]
        refine ACallL.fresh1 (h1 c1) rfl ?_
        simp only [go_sem, Nat.reduceEqDiff, Nat.reduceAdd, Nat.reduceSub, Nat.reduceMul, Nat.reduceLT, Nat.reduceLeDiff, Nat.reduceMod, Nat.reduceDiv, Int.reduceToNat, Int.reduceLT, Int.reduceLE, Bool.not_true, Bool.not_false, reduceIte, Int.reduceEq, Int.reduceBEq, Int.reduceBNe, Int.reduceGT, Int.reduceGE, Int.reduceNeg, Int.reduceAdd, Int.reduceSub, Nat.reduceBEq, decide_true, decide_false, undef, beq_self_eq_true, bne_self_eq_false, Bool.and_true, Bool.true_and, Bool.and_false, Bool.false_and, Bool.or_true, Bool.true_or, Bool.or_false, Bool.false_or, undef, q3, q20, q21, q22, q23, q28, d1, d2, w1, w2]
        refine ⟨q3, q20, q21, q22, q28, ?_, ?_, ⟨_, rfl⟩, rfl, rfl⟩
        · unfold tbT; rw [if_neg c1]; rfl
        · unfold taT; rw [if_pos c2]; rfl
      · have d2 : decide ((m : Int) < b.last) = true := by simp; omega
        simp only [go_sem, Nat.reduceEqDiff, Nat.reduceAdd, Nat.reduceSub, Nat.reduceMul, Nat.reduceLT, Nat.reduceLeDiff, Nat.reduceMod, Nat.reduceDiv, Int.reduceToNat, Int.reduceLT, Int.reduceLE, Bool.not_true, Bool.not_false, reduceIte, Int.reduceEq, Int.reduceBEq, Int.reduceBNe, Int.reduceGT, Int.reduceGE, Int.reduceNeg, Int.reduceAdd, Int.reduceSub, Nat.reduceBEq, decide_true, decide_false, undef, beq_self_eq_true, bne_self_eq_false, Bool.and_true, Bool.true_and, Bool.and_false, Bool.false_and, Bool.or_true, Bool.true_or, Bool.or_false, Bool.false_or, undef, q3, q20, q21, q22, q23, q28, d1, d2, w1, w2]
        refine ACallL.fresh1 (h1 c1) rfl ?_
        simp only [go_sem, Nat.reduceEqDiff, Nat.reduceAdd, Nat.reduceSub, Nat.reduceMul, Nat.reduceLT, Nat.reduceLeDiff, Nat.reduceMod, Nat.reduceDiv, Int.reduceToNat, Int.reduceLT, Int.reduceLE, Bool.not_true, Bool.not_false, reduceIte, Int.reduceEq, Int.reduceBEq, Int.reduceBNe, Int.reduceGT, Int.reduceGE, Int.reduceNeg, Int.reduceAdd, Int.reduceSub, Nat.reduceBEq, decide_true, decide_false, undef, beq_self_eq_true, bne_self_eq_false, Bool.and_true, Bool.true_and, Bool.and_false, Bool.false_and, Bool.or_true, Bool.true_or, Bool.or_false, Bool.false_or, undef, q3, q20, q21, q22, q23, q28, d1, d2, w1, w2]
        refine ACallL.fresh1 (h2 c2) rfl ?_
        simp only [go_sem, Nat.reduceEqDiff, Nat.reduceAdd, Nat.reduceSub, Nat.reduceMul, Nat.reduceLT, Nat.reduceLeDiff, Nat.reduceMod, Nat.reduceDiv, Int.reduceToNat, Int.reduceLT, Int.reduceLE, Bool.not_true, Bool.not_false, reduceIte, Int.reduceEq, Int.reduceBEq, Int.reduceBNe, Int.reduceGT, Int.reduceGE, Int.reduceNeg, Int.reduceAdd, Int.reduceSub, Nat.reduceBEq, decide_true, decide_false, undef, beq_self_eq_true, bne_self_eq_false, Bool.and_true, Bool.true_and, Bool.and_false, Bool.false_and, Bool.or_true, Bool.true_or, Bool.or_false, Bool.false_or, undef, q3, q20, q21, q22, q23, q28, d1, d2, w1, w2]
        refine ⟨q3, q20, q21, q22, q28, ?_, ?_, ⟨_, rfl⟩, rfl, rfl⟩
        · unfold tbT; rw [if_neg c1]; rfl
        · unfold taT; rw [if_neg c2]; rfl
  clear q3 q20 q21 q22 q23 q28
  rintro ⟨env, σ, df, k⟩ ⟨q3, q20, q21, q22, q28, q29, q30, ⟨x, hσ⟩, hdf, hk⟩
  simp only at q3 q20 q21 q22 q28 q29 q30 hσ hdf hk
  subst hσ hdf hk
  refine awpL_chop 2 (c1 := ?d1) (c2 := ?d2) (St3 b n m (tbT b n m) (taT b n m)) ?hc3 ?_ ?_
  case hc3 => simp only [chop]; rfl
  · have hlen : (plT b n m).length ≤ b.N := by unfold plT placesL; exact Nat.le_trans (List.length_filter_le _ _) (by simp)
    generalize hl : plT b n m = l at *
    generalize tbT b n m = tb at *
    generalize taT b n m = ta at *
    have hz : zeroT (.bool false) = .lit (.bool false) := rfl
    simp only [go_sem, Nat.reduceEqDiff, Nat.reduceAdd, Nat.reduceSub, Nat.reduceMul, Nat.reduceLT, Nat.reduceLeDiff, Nat.reduceMod, Nat.reduceDiv, Int.reduceToNat, Int.reduceLT, Int.reduceLE, Bool.not_true, Bool.not_false, reduceIte, Int.reduceEq, Int.reduceBEq, Int.reduceBNe, Int.reduceGT, Int.reduceGE, Int.reduceNeg, Int.reduceAdd, Int.reduceSub, Nat.reduceBEq, decide_true, decide_false, undef, beq_self_eq_true, bne_self_eq_false, Bool.and_true, Bool.true_and, Bool.and_false, Bool.false_and, Bool.or_true, Bool.true_or, Bool.or_false, Bool.false_or, undef, q3, q20, q21, q22, q28, q29, q30, List.length_map]
    refine awpL_for (i := 200) (L := 199) l.length (fun j st => ∃ M clk, InOK M clk (l.take j) ∧ st = { env := [(200, .t (vi j)), (199, .t (vi l.length)), (198, .t (tN l)), (3, .ptr 0 0), (20, .t (vi n)), (21, .t (vi m)), (28, closT), (29, .t tb), (30, .t ta), (31, .map 1)], σ := [.cells ((bo5 b).map .t), .map shB (mks M) (mvs M) clk] }) ?_ ⟨_, Sub.gc [0, 2] [200, 199, 198, 3, 20, 21, 28, 29, 30, 31] rfl rfl, [], 0, InOK.nil, ?_⟩ ?_ ?_
    · rintro k st ⟨_, _, _, rfl⟩; exact ⟨rfl, rfl⟩
    · exact St.gc_mk (by simp only [List.map_cons, List.map_nil, lk, Nat.reduceEqDiff, reduceIte, q3, q20, q21, q22, q28, q29, q30]; rfl) rfl rfl rfl
    · rintro j st hj ⟨M, clk, hM, rfl⟩
      have hx : l[j]? = some l[j] := List.getElem?_eq_getElem hj
      have hwj : IntKind.i64.wrap ((j : Int) + 1) = ((j + 1 : Nat) : Int) := by rw [wrap_id (by omega) (by omega)]; omega
      have htk : l.take (j + 1) = l.take j ++ [l[j]] := List.take_succ_eq_append_getElem hj
      have hP := hM.put l[j]
      rw [← htk] at hP
      have hk1 : toKey shB (.t (vi (l[j] : Int))) = some [(l[j] : Int)] := rfl
      rcases hM.look l[j] with ⟨k1, _⟩ | ⟨i, k1, _, _⟩
      · simp only [go_sem, Nat.reduceEqDiff, Nat.reduceAdd, Nat.reduceSub, Nat.reduceMul, Nat.reduceLT, Nat.reduceLeDiff, Nat.reduceMod, Nat.reduceDiv, Int.reduceToNat, Int.reduceLT, Int.reduceLE, Bool.not_true, Bool.not_false, reduceIte, Int.reduceEq, Int.reduceBEq, Int.reduceBNe, Int.reduceGT, Int.reduceGE, Int.reduceNeg, Int.reduceAdd, Int.reduceSub, Nat.reduceBEq, decide_true, decide_false, undef, beq_self_eq_true, bne_self_eq_false, Bool.and_true, Bool.true_and, Bool.and_false, Bool.false_and, Bool.or_true, Bool.true_or, Bool.or_false, Bool.false_or, undef, List.length_map, List.getElem?_map, hx, Option.map_some, hwj, hk1, k1]
        rw [hM.put_none (vb true) k1]
        exact ⟨_, Sub.gc [0, 1] [200, 199, 198, 3, 20, 21, 28, 29, 30, 31] rfl rfl, _, _, hP, rfl⟩
      · simp only [go_sem, Nat.reduceEqDiff, Nat.reduceAdd, Nat.reduceSub, Nat.reduceMul, Nat.reduceLT, Nat.reduceLeDiff, Nat.reduceMod, Nat.reduceDiv, Int.reduceToNat, Int.reduceLT, Int.reduceLE, Bool.not_true, Bool.not_false, reduceIte, Int.reduceEq, Int.reduceBEq, Int.reduceBNe, Int.reduceGT, Int.reduceGE, Int.reduceNeg, Int.reduceAdd, Int.reduceSub, Nat.reduceBEq, decide_true, decide_false, undef, beq_self_eq_true, bne_self_eq_false, Bool.and_true, Bool.true_and, Bool.and_false, Bool.false_and, Bool.or_true, Bool.true_or, Bool.or_false, Bool.false_or, undef, List.length_map, List.getElem?_map, hx, Option.map_some, hwj, hk1, k1]
        rw [hM.put_some (vb true) k1]
        exact ⟨_, Sub.gc [0, 1] [200, 199, 198, 3, 20, 21, 28, 29, 30, 31] rfl rfl, _, _, hP, rfl⟩
    · rintro st ⟨M, clk, hM, rfl⟩
      rw [List.take_length] at hM
      simp only [go_sem, Nat.reduceEqDiff, Nat.reduceAdd, Nat.reduceSub, Nat.reduceMul, Nat.reduceLT, Nat.reduceLeDiff, Nat.reduceMod, Nat.reduceDiv, Int.reduceToNat, Int.reduceLT, Int.reduceLE, Bool.not_true, Bool.not_false, reduceIte, Int.reduceEq, Int.reduceBEq, Int.reduceBNe, Int.reduceGT, Int.reduceGE, Int.reduceNeg, Int.reduceAdd, Int.reduceSub, Nat.reduceBEq, decide_true, decide_false, undef, beq_self_eq_true, bne_self_eq_false, Bool.and_true, Bool.true_and, Bool.and_false, Bool.false_and, Bool.or_true, Bool.true_or, Bool.or_false, Bool.false_or, undef]
      exact ⟨rfl, rfl, rfl, rfl, rfl, rfl, rfl, ⟨M, clk, hl ▸ hM, rfl⟩, rfl, rfl⟩
  clear q3 q20 q21 q22 q28 q29 q30
  rintro ⟨env, σ, df, k⟩ ⟨q3, q20, q21, q28, q29, q30, q31, ⟨M, clk, hM, hσ⟩, hdf, hk⟩
  simp only at q3 q20 q21 q28 q29 q30 q31 hσ hdf hk
  subst hσ hdf hk
  have h35 := places_ok b
  rw [hNb.2.2, wrap_id (n := (b.N : Int)) (by omega) (by omega)] at h35
  have hlaw := fun p (hp : p < b.N) => steps_law hb hm (i := n) hp
  have hsn := seenOf_at hn
  have hnl : (n : Int) < b.seen.length := by omega
  have h5 := hb.lens _ (seenOf_mem hn)
  have hsi := fun s hs => hb.si (seenOf_mem hn) (s := s) hs
  generalize hl : seenOf b n = l at *
  have hrb : ∀ p, p < b.N → m ≠ 0 → ACall Tryd.prog 38 [.t (vi p), .t (tbT b n m), .t (.ptr (.agg (bo5 b)) 0)] [] (ret (vb (reachB b p (plT b n (m - 1))))) := fun p hp h => by
    unfold tbT
    rw [if_neg h]
    refine reach_ok b hb p (by omega) _ (fun q hq => ?_) ?_
    · have := (mem_places.1 hq).1; omega
    · unfold plT placesL
      exact Nat.lt_of_le_of_lt (List.length_filter_le _ _) (by simp; omega)
  have hra : ∀ p, p < b.N → m ≠ b.L → ACall Tryd.prog 38 [.t (vi p), .t (taT b n m), .t (.ptr (.agg (bo5 b)) 0)] [] (ret (vb (reachB b p (plT b n (m + 1))))) := fun p hp h => by
    unfold taT
    rw [if_neg h]
    refine reach_ok b hb p (by omega) _ (fun q hq => ?_) ?_
    · have := (mem_places.1 hq).1; omega
    · unfold plT placesL
      exact Nat.lt_of_le_of_lt (List.length_filter_le _ _) (by simp; omega)
  have hin : ∀ p, p < b.N → ∀ s ∈ l, ACall Tryd.prog 40 [.t (.agg (bo5 b)), .t (tSi s), .t (vi p)] [] (ret (vb (inB b s p))) := fun p hp s hs => rwithin_ok b hb s (hsi s hs) p (by omega)
  generalize tbT b n m = tb at *
  generalize taT b n m = ta at *
  change ∀ p, p < b.N → (p ∈ plT b n m ↔ (m = 0 ∨ reachB b p (plT b n (m - 1)) = true) ∧ (m = b.L ∨ reachB b p (plT b n (m + 1)) = true) ∧ _) at hlaw
  generalize plT b n m = pl at *
  generalize plT b n (m - 1) = pb at *
  generalize plT b n (m + 1) = pa at *
  simp only [bo5] at h35 hrb hra hin
  simp only [bo5, go_sem, Nat.reduceEqDiff, Nat.reduceAdd, Nat.reduceSub, Nat.reduceMul, Nat.reduceLT, Nat.reduceLeDiff, Nat.reduceMod, Nat.reduceDiv, Int.reduceToNat, Int.reduceLT, Int.reduceLE, Bool.not_true, Bool.not_false, reduceIte, Int.reduceEq, Int.reduceBEq, Int.reduceBNe, Int.reduceGT, Int.reduceGE, Int.reduceNeg, Int.reduceAdd, Int.reduceSub, Nat.reduceBEq, decide_true, decide_false, undef, beq_self_eq_true, bne_self_eq_false, Bool.and_true, Bool.true_and, Bool.and_false, Bool.false_and, Bool.or_true, Bool.true_or, Bool.or_false, Bool.false_or, undef, q3, q20, q21, q28, q29, q30, q31]
  refine ACallL.quiet1 h35 rfl rfl rfl ?_
  simp only [bo5, go_sem, Nat.reduceEqDiff, Nat.reduceAdd, Nat.reduceSub, Nat.reduceMul, Nat.reduceLT, Nat.reduceLeDiff, Nat.reduceMod, Nat.reduceDiv, Int.reduceToNat, Int.reduceLT, Int.reduceLE, Bool.not_true, Bool.not_false, reduceIte, Int.reduceEq, Int.reduceBEq, Int.reduceBNe, Int.reduceGT, Int.reduceGE, Int.reduceNeg, Int.reduceAdd, Int.reduceSub, Nat.reduceBEq, decide_true, decide_false, undef, beq_self_eq_true, bne_self_eq_false, Bool.and_true, Bool.true_and, Bool.and_false, Bool.false_and, Bool.or_true, Bool.true_or, Bool.or_false, Bool.false_or, undef, q3, q20, q21, q28, q29, q30, q31]
  refine awpL_for (i := 209) (L := 208) b.N (fun j st => st = { env := [(209, .t (vi j)), (208, .t (vi b.N)), (3, .ptr 0 0), (20, .t (vi n)), (21, .t (vi m)), (28, closT), (29, .t tb), (30, .t ta), (31, .map 1)], σ := [.cells ((bo5 b).map .t), .map shB (mks M) (mvs M) clk] }) ?_ ⟨_, Sub.gc [0, 1] [209, 208, 3, 20, 21, 28, 29, 30, 31] rfl rfl, ?_⟩ ?_ ?_
  · rintro k st rfl; exact ⟨rfl, rfl⟩
  · exact St.gc_mk (by simp only [List.map_cons, List.map_nil, lk, Nat.reduceEqDiff, reduceIte, q3, q20, q21, q28, q29, q30, q31]; rfl) rfl rfl rfl
  · rintro j st hj rfl
    have hwj : IntKind.i64.wrap ((j : Int) + 1) = ((j + 1 : Nat) : Int) := by rw [wrap_id (by omega) (by omega)]; omega
    have hrb := hrb j hj
    have hra := hra j hj
    have hin := hin j hj
    have hlaw := hlaw j hj
    have hlk := hM.look j
    have hk1 : toKey shB (.t (vi (j : Int))) = some [(j : Int)] := rfl
    have hz : zeroT (.bool false) = .lit (.bool false) := rfl
    have g1 : ((m : Int) == 0) = decide (m = 0) := by rw [Bool.eq_iff_iff]; simp
    have g2 : ((m : Int) == b.last) = decide (m = b.L) := by rw [Bool.eq_iff_iff]; simp; omega
    have hbase : ∃ B1 B2 : Bool, (B1 = true ↔ (m = 0 ∨ reachB b j pb = true)) ∧ (B2 = true ↔ (m = b.L ∨ reachB b j pa = true)) := ⟨decide (m = 0) || reachB b j pb, decide (m = b.L) || reachB b j pa, by simp, by simp⟩
    obtain ⟨B1, B2, hB1, hB2⟩ := hbase
    rw [← hB1, ← hB2] at hlaw
    rw [awpL_seq, awpL_block]
    refine awpL_chop 2 (c1 := ?e1) (c2 := ?e2) (fun st => lk st.env 209 = .t (vi j) ∧ lk st.env 208 = .t (vi b.N) ∧ lk st.env 3 = .ptr 0 0 ∧ lk st.env 20 = .t (vi n) ∧ lk st.env 21 = .t (vi m) ∧ lk st.env 28 = closT ∧ lk st.env 29 = .t tb ∧ lk st.env 30 = .t ta ∧ lk st.env 31 = .map 1 ∧ lk st.env 34 = .t (vi j) ∧ lk st.env 35 = .t (vb (B1 && B2)) ∧ st.σ = [.cells ((bo5 b).map .t), .map shB (mks M) (mvs M) clk] ∧ st.df = [] ∧ st.k = 0) ?hc5 ?_ ?_
    case hc5 => simp only [chop]; rfl
    · by_cases c1 : m = 0
      · have hB1' : B1 = true := hB1.2 (.inl c1)
        subst hB1'
        by_cases c2 : m = b.L
        · have hB2' : B2 = true := hB2.2 (.inl c2)
          subst hB2'
          simp only [bo5, tSis, tSi, go_sem, Nat.reduceEqDiff, Nat.reduceAdd, Nat.reduceSub, Nat.reduceMul, Nat.reduceLT, Nat.reduceLeDiff, Nat.reduceMod, Nat.reduceDiv, Int.reduceToNat, Int.reduceLT, Int.reduceLE, Bool.not_true, Bool.not_false, reduceIte, Int.reduceEq, Int.reduceBEq, Int.reduceBNe, Int.reduceGT, Int.reduceGE, Int.reduceNeg, Int.reduceAdd, Int.reduceSub, Nat.reduceBEq, decide_true, decide_false, undef, beq_self_eq_true, bne_self_eq_false, Bool.and_true, Bool.true_and, Bool.and_false, Bool.false_and, Bool.or_true, Bool.true_or, Bool.or_false, Bool.false_or, undef, hwj, hk1, hz, g1, g2, decide_eq_true c1, decide_eq_true c2]
        · have hra := hra c2
          have hB2' : B2 = reachB b j pa := by rw [Bool.eq_iff_iff, hB2]; simp [c2]
          rw [← hB2'] at hra
          simp only [bo5, tSis, tSi, go_sem, Nat.reduceEqDiff, Nat.reduceAdd, Nat.reduceSub, Nat.reduceMul, Nat.reduceLT, Nat.reduceLeDiff, Nat.reduceMod, Nat.reduceDiv, Int.reduceToNat, Int.reduceLT, Int.reduceLE, Bool.not_true, Bool.not_false, reduceIte, Int.reduceEq, Int.reduceBEq, Int.reduceBNe, Int.reduceGT, Int.reduceGE, Int.reduceNeg, Int.reduceAdd, Int.reduceSub, Nat.reduceBEq, decide_true, decide_false, undef, beq_self_eq_true, bne_self_eq_false, Bool.and_true, Bool.true_and, Bool.and_false, Bool.false_and, Bool.or_true, Bool.true_or, Bool.or_false, Bool.false_or, undef, hwj, hk1, hz, g1, g2, decide_eq_true c1, decide_eq_false c2]
          refine ACallL.quiet1 hra rfl rfl rfl ?_
          simp only [bo5, tSis, tSi, go_sem, Nat.reduceEqDiff, Nat.reduceAdd, Nat.reduceSub, Nat.reduceMul, Nat.reduceLT, Nat.reduceLeDiff, Nat.reduceMod, Nat.reduceDiv, Int.reduceToNat, Int.reduceLT, Int.reduceLE, Bool.not_true, Bool.not_false, reduceIte, Int.reduceEq, Int.reduceBEq, Int.reduceBNe, Int.reduceGT, Int.reduceGE, Int.reduceNeg, Int.reduceAdd, Int.reduceSub, Nat.reduceBEq, decide_true, decide_false, undef, beq_self_eq_true, bne_self_eq_false, Bool.and_true, Bool.true_and, Bool.and_false, Bool.false_and, Bool.or_true, Bool.true_or, Bool.or_false, Bool.false_or, undef, hwj, hk1, hz, g1, g2, decide_eq_true c1, decide_eq_false c2]
      · have hrb := hrb c1
        have hB1' : B1 = reachB b j pb := by rw [Bool.eq_iff_iff, hB1]; simp [c1]
        rw [← hB1'] at hrb
        clear hB1 hB1'
        cases B1
        · simp only [bo5, tSis, tSi, go_sem, Nat.reduceEqDiff, Nat.reduceAdd, Nat.reduceSub, Nat.reduceMul, Nat.reduceLT, Nat.reduceLeDiff, Nat.reduceMod, Nat.reduceDiv, Int.reduceToNat, Int.reduceLT, Int.reduceLE, Bool.not_true, Bool.not_false, reduceIte, Int.reduceEq, Int.reduceBEq, Int.reduceBNe, Int.reduceGT, Int.reduceGE, Int.reduceNeg, Int.reduceAdd, Int.reduceSub, Nat.reduceBEq, decide_true, decide_false, undef, beq_self_eq_true, bne_self_eq_false, Bool.and_true, Bool.true_and, Bool.and_false, Bool.false_and, Bool.or_true, Bool.true_or, Bool.or_false, Bool.false_or, undef, hwj, hk1, hz, g1, g2, decide_eq_false c1]
          refine ACallL.quiet1 hrb rfl rfl rfl ?_
          simp only [bo5, tSis, tSi, go_sem, Nat.reduceEqDiff, Nat.reduceAdd, Nat.reduceSub, Nat.reduceMul, Nat.reduceLT, Nat.reduceLeDiff, Nat.reduceMod, Nat.reduceDiv, Int.reduceToNat, Int.reduceLT, Int.reduceLE, Bool.not_true, Bool.not_false, reduceIte, Int.reduceEq, Int.reduceBEq, Int.reduceBNe, Int.reduceGT, Int.reduceGE, Int.reduceNeg, Int.reduceAdd, Int.reduceSub, Nat.reduceBEq, decide_true, decide_false, undef, beq_self_eq_true, bne_self_eq_false, Bool.and_true, Bool.true_and, Bool.and_false, Bool.false_and, Bool.or_true, Bool.true_or, Bool.or_false, Bool.false_or, undef, hwj, hk1, hz, g1, g2, decide_eq_false c1]
        · by_cases c2 : m = b.L
          · have hB2' : B2 = true := hB2.2 (.inl c2)
            subst hB2'
            simp only [bo5, tSis, tSi, go_sem, Nat.reduceEqDiff, Nat.reduceAdd, Nat.reduceSub, Nat.reduceMul, Nat.reduceLT, Nat.reduceLeDiff, Nat.reduceMod, Nat.reduceDiv, Int.reduceToNat, Int.reduceLT, Int.reduceLE, Bool.not_true, Bool.not_false, reduceIte, Int.reduceEq, Int.reduceBEq, Int.reduceBNe, Int.reduceGT, Int.reduceGE, Int.reduceNeg, Int.reduceAdd, Int.reduceSub, Nat.reduceBEq, decide_true, decide_false, undef, beq_self_eq_true, bne_self_eq_false, Bool.and_true, Bool.true_and, Bool.and_false, Bool.false_and, Bool.or_true, Bool.true_or, Bool.or_false, Bool.false_or, undef, hwj, hk1, hz, g1, g2, decide_eq_false c1, decide_eq_true c2]
            refine ACallL.quiet1 hrb rfl rfl rfl ?_
            simp only [bo5, tSis, tSi, go_sem, Nat.reduceEqDiff, Nat.reduceAdd, Nat.reduceSub, Nat.reduceMul, Nat.reduceLT, Nat.reduceLeDiff, Nat.reduceMod, Nat.reduceDiv, Int.reduceToNat, Int.reduceLT, Int.reduceLE, Bool.not_true, Bool.not_false, reduceIte, Int.reduceEq, Int.reduceBEq, Int.reduceBNe, Int.reduceGT, Int.reduceGE, Int.reduceNeg, Int.reduceAdd, Int.reduceSub, Nat.reduceBEq, decide_true, decide_false, undef, beq_self_eq_true, bne_self_eq_false, Bool.and_true, Bool.true_and, Bool.and_false, Bool.false_and, Bool.or_true, Bool.true_or, Bool.or_false, Bool.false_or, undef, hwj, hk1, hz, g1, g2, decide_eq_false c1, decide_eq_true c2]
          · have hra := hra c2
            have hB2' : B2 = reachB b j pa := by rw [Bool.eq_iff_iff, hB2]; simp [c2]
            rw [← hB2'] at hra
            simp only [bo5, tSis, tSi, go_sem, Nat.reduceEqDiff, Nat.reduceAdd, Nat.reduceSub, Nat.reduceMul, Nat.reduceLT, Nat.reduceLeDiff, Nat.reduceMod, Nat.reduceDiv, Int.reduceToNat, Int.reduceLT, Int.reduceLE, Bool.not_true, Bool.not_false, reduceIte, Int.reduceEq, Int.reduceBEq, Int.reduceBNe, Int.reduceGT, Int.reduceGE, Int.reduceNeg, Int.reduceAdd, Int.reduceSub, Nat.reduceBEq, decide_true, decide_false, undef, beq_self_eq_true, bne_self_eq_false, Bool.and_true, Bool.true_and, Bool.and_false, Bool.false_and, Bool.or_true, Bool.true_or, Bool.or_false, Bool.false_or, undef, hwj, hk1, hz, g1, g2, decide_eq_false c1, decide_eq_false c2]
            refine ACallL.quiet1 hrb rfl rfl rfl ?_
            simp only [bo5, tSis, tSi, go_sem, Nat.reduceEqDiff, Nat.reduceAdd, Nat.reduceSub, Nat.reduceMul, Nat.reduceLT, Nat.reduceLeDiff, Nat.reduceMod, Nat.reduceDiv, Int.reduceToNat, Int.reduceLT, Int.reduceLE, Bool.not_true, Bool.not_false, reduceIte, Int.reduceEq, Int.reduceBEq, Int.reduceBNe, Int.reduceGT, Int.reduceGE, Int.reduceNeg, Int.reduceAdd, Int.reduceSub, Nat.reduceBEq, decide_true, decide_false, undef, beq_self_eq_true, bne_self_eq_false, Bool.and_true, Bool.true_and, Bool.and_false, Bool.false_and, Bool.or_true, Bool.true_or, Bool.or_false, Bool.false_or, undef, hwj, hk1, hz, g1, g2, decide_eq_false c1, decide_eq_false c2]
            refine ACallL.quiet1 hra rfl rfl rfl ?_
            simp only [bo5, tSis, tSi, go_sem, Nat.reduceEqDiff, Nat.reduceAdd, Nat.reduceSub, Nat.reduceMul, Nat.reduceLT, Nat.reduceLeDiff, Nat.reduceMod, Nat.reduceDiv, Int.reduceToNat, Int.reduceLT, Int.reduceLE, Bool.not_true, Bool.not_false, reduceIte, Int.reduceEq, Int.reduceBEq, Int.reduceBNe, Int.reduceGT, Int.reduceGE, Int.reduceNeg, Int.reduceAdd, Int.reduceSub, Nat.reduceBEq, decide_true, decide_false, undef, beq_self_eq_true, bne_self_eq_false, Bool.and_true, Bool.true_and, Bool.and_false, Bool.false_and, Bool.or_true, Bool.true_or, Bool.or_false, Bool.false_or, undef, hwj, hk1, hz, g1, g2, decide_eq_false c1, decide_eq_false c2]
    clear hra hrb
    rintro ⟨env, σ, df, k⟩ ⟨q209, q208, q3, q20, q21, q28, q29, q30, q31, q34, q35, hσ, hdf, hk⟩
    simp only at q209 q208 q3 q20 q21 q28 q29 q30 q31 q34 q35 hσ hdf hk
    subst hσ hdf hk
    have hP : decide (j ∈ pl) = ((B1 && B2) && l.all fun s => decide (s.minute ≠ m) || inB b s j) := by
      rw [Bool.eq_iff_iff, decide_eq_true_eq, hlaw]
      simp only [Bool.and_eq_true, List.all_eq_true, Bool.or_eq_true, decide_eq_true_eq, and_assoc]
      refine and_congr Iff.rfl (and_congr Iff.rfl (forall_congr' fun s => forall_congr' fun _ => ?_))
      constructor
      · intro h
        by_cases c : s.minute = m
        · exact .inr (h c)
        · exact .inl c
      · rintro (h | h) c
        · exact absurd c h
        · exact h
    generalize (B1 && B2) = B0 at *
    simp only [bo5, tSis, tSi, go_sem, Nat.reduceEqDiff, Nat.reduceAdd, Nat.reduceSub, Nat.reduceMul, Nat.reduceLT, Nat.reduceLeDiff, Nat.reduceMod, Nat.reduceDiv, Int.reduceToNat, Int.reduceLT, Int.reduceLE, Bool.not_true, Bool.not_false, reduceIte, Int.reduceEq, Int.reduceBEq, Int.reduceBNe, Int.reduceGT, Int.reduceGE, Int.reduceNeg, Int.reduceAdd, Int.reduceSub, Nat.reduceBEq, decide_true, decide_false, undef, beq_self_eq_true, bne_self_eq_false, Bool.and_true, Bool.true_and, Bool.and_false, Bool.false_and, Bool.or_true, Bool.true_or, Bool.or_false, Bool.false_or, undef, hwj, hk1, hz, g1, g2, q209, q208, q3, q20, q21, q28, q29, q30, q31, q34, q35, List.length_map, List.getElem?_map, hsn, Option.map_some, hnl]
    refine awpL_for (i := 238) (L := 237) l.length (fun i st => st = { env := [(238, .t (vi i)), (237, .t (vi l.length)), (236, .t (.slice 5 (l.map tSi))), (209, .t (vi j)), (208, .t (vi b.N)), (3, .ptr 0 0), (20, .t (vi n)), (21, .t (vi m)), (28, closT), (29, .t tb), (30, .t ta), (31, .map 1), (34, .t (vi j)), (35, .t (vb (B0 && (l.take i).all fun s => decide (s.minute ≠ m) || inB b s j)))], σ := [.cells ((bo5 b).map .t), .map shB (mks M) (mvs M) clk] }) ?_ ⟨_, Sub.gc [0, 1] [238, 237, 236, 209, 208, 3, 20, 21, 28, 29, 30, 31, 34, 35] rfl rfl, ?_⟩ ?_ ?_
    · rintro k st rfl; exact ⟨rfl, rfl⟩
    · exact St.gc_mk (by simp only [List.map_cons, List.map_nil, lk, Nat.reduceEqDiff, reduceIte, q209, q208, q3, q20, q21, q28, q29, q30, q31, q34, q35, List.take_zero, List.all_nil, Bool.and_true]; rfl) rfl rfl rfl
    · rintro i st hi rfl
      have hx : l[i]? = some l[i] := List.getElem?_eq_getElem hi
      have hwi : IntKind.i64.wrap ((i : Int) + 1) = ((i + 1 : Nat) : Int) := by rw [wrap_id (by omega) (by omega)]; omega
      have htk : l.take (i + 1) = l.take i ++ [l[i]] := List.take_succ_eq_append_getElem hi
      have hv : (B0 && (l.take (i + 1)).all fun s => decide (s.minute ≠ m) || inB b s j) = ((B0 && (l.take i).all fun s => decide (s.minute ≠ m) || inB b s j) && (decide (l[i].minute ≠ m) || inB b l[i] j)) := by
        rw [htk, List.all_append, List.all_cons, List.all_nil, Bool.and_true, Bool.and_assoc]
      have h40 := hin _ (List.getElem_mem hi)
      generalize (B0 && (l.take (i + 1)).all fun s => decide (s.minute ≠ m) || inB b s j) = V1 at *
      generalize (B0 && (l.take i).all fun s => decide (s.minute ≠ m) || inB b s j) = V0 at *
      generalize l[i] = y at *
      generalize inB b y j = I at *
      obtain ⟨y1, y2, y3, y4, y5⟩ := y
      have hne : ((y1 : Int) != (m : Int)) = decide (y1 ≠ m) := by rw [Bool.eq_iff_iff]; simp
      simp only at hv
      simp only [tSi] at h40
      cases V0
      · simp only [bo5, tSis, tSi, go_sem, Nat.reduceEqDiff, Nat.reduceAdd, Nat.reduceSub, Nat.reduceMul, Nat.reduceLT, Nat.reduceLeDiff, Nat.reduceMod, Nat.reduceDiv, Int.reduceToNat, Int.reduceLT, Int.reduceLE, Bool.not_true, Bool.not_false, reduceIte, Int.reduceEq, Int.reduceBEq, Int.reduceBNe, Int.reduceGT, Int.reduceGE, Int.reduceNeg, Int.reduceAdd, Int.reduceSub, Nat.reduceBEq, decide_true, decide_false, undef, beq_self_eq_true, bne_self_eq_false, Bool.and_true, Bool.true_and, Bool.and_false, Bool.false_and, Bool.or_true, Bool.true_or, Bool.or_false, Bool.false_or, undef, hwj, hk1, hz, g1, g2, List.length_map, List.getElem?_map, hx, Option.map_some, hwi]
        refine ⟨_, Sub.gc [0, 1] [238, 237, 236, 209, 208, 3, 20, 21, 28, 29, 30, 31, 34, 35] rfl rfl, ?_⟩
        rw [hv]; rfl
      · by_cases c : y1 = m
        · simp only [bo5, tSis, tSi, go_sem, Nat.reduceEqDiff, Nat.reduceAdd, Nat.reduceSub, Nat.reduceMul, Nat.reduceLT, Nat.reduceLeDiff, Nat.reduceMod, Nat.reduceDiv, Int.reduceToNat, Int.reduceLT, Int.reduceLE, Bool.not_true, Bool.not_false, reduceIte, Int.reduceEq, Int.reduceBEq, Int.reduceBNe, Int.reduceGT, Int.reduceGE, Int.reduceNeg, Int.reduceAdd, Int.reduceSub, Nat.reduceBEq, decide_true, decide_false, undef, beq_self_eq_true, bne_self_eq_false, Bool.and_true, Bool.true_and, Bool.and_false, Bool.false_and, Bool.or_true, Bool.true_or, Bool.or_false, Bool.false_or, undef, hwj, hk1, hz, g1, g2, List.length_map, List.getElem?_map, hx, Option.map_some, hwi, hne, decide_eq_false (show ¬ y1 ≠ m from fun h => h c)]
          refine ACallL.quiet1 h40 rfl rfl rfl ?_
          simp only [bo5, tSis, tSi, go_sem, Nat.reduceEqDiff, Nat.reduceAdd, Nat.reduceSub, Nat.reduceMul, Nat.reduceLT, Nat.reduceLeDiff, Nat.reduceMod, Nat.reduceDiv, Int.reduceToNat, Int.reduceLT, Int.reduceLE, Bool.not_true, Bool.not_false, reduceIte, Int.reduceEq, Int.reduceBEq, Int.reduceBNe, Int.reduceGT, Int.reduceGE, Int.reduceNeg, Int.reduceAdd, Int.reduceSub, Nat.reduceBEq, decide_true, decide_false, undef, beq_self_eq_true, bne_self_eq_false, Bool.and_true, Bool.true_and, Bool.and_false, Bool.false_and, Bool.or_true, Bool.true_or, Bool.or_false, Bool.false_or, undef, hwj, hk1, hz, g1, g2, List.length_map, List.getElem?_map, hx, Option.map_some, hwi]
          refine ⟨_, Sub.gc [0, 1] [238, 237, 236, 209, 208, 3, 20, 21, 28, 29, 30, 31, 34, 35] rfl rfl, ?_⟩
          rw [hv, decide_eq_false (show ¬ y1 ≠ m from fun h => h c)]; rfl
        · simp only [bo5, tSis, tSi, go_sem, Nat.reduceEqDiff, Nat.reduceAdd, Nat.reduceSub, Nat.reduceMul, Nat.reduceLT, Nat.reduceLeDiff, Nat.reduceMod, Nat.reduceDiv, Int.reduceToNat, Int.reduceLT, Int.reduceLE, Bool.not_true, Bool.not_false, reduceIte, Int.reduceEq, Int.reduceBEq, Int.reduceBNe, Int.reduceGT, Int.reduceGE, Int.reduceNeg, Int.reduceAdd, Int.reduceSub, Nat.reduceBEq, decide_true, decide_false, undef, beq_self_eq_true, bne_self_eq_false, Bool.and_true, Bool.true_and, Bool.and_false, Bool.false_and, Bool.or_true, Bool.true_or, Bool.or_false, Bool.false_or, undef, hwj, hk1, hz, g1, g2, List.length_map, List.getElem?_map, hx, Option.map_some, hwi, hne, decide_eq_true (show y1 ≠ m from c)]
          refine ⟨_, Sub.gc [0, 1] [238, 237, 236, 209, 208, 3, 20, 21, 28, 29, 30, 31, 34, 35] rfl rfl, ?_⟩
          rw [hv, decide_eq_true (show y1 ≠ m from c)]; rfl
    · rintro st rfl
      rw [List.take_length, ← hP]
      have hwj : IntKind.i64.wrap ((j : Int) + 1) = ((j + 1 : Nat) : Int) := by rw [wrap_id (by omega) (by omega)]; omega
      rcases hlk with ⟨k1, c⟩ | ⟨i, k1, v1, c⟩
      · rw [decide_eq_false c]
        simp only [bo5, tSis, tSi, go_sem, Nat.reduceEqDiff, Nat.reduceAdd, Nat.reduceSub, Nat.reduceMul, Nat.reduceLT, Nat.reduceLeDiff, Nat.reduceMod, Nat.reduceDiv, Int.reduceToNat, Int.reduceLT, Int.reduceLE, Bool.not_true, Bool.not_false, reduceIte, Int.reduceEq, Int.reduceBEq, Int.reduceBNe, Int.reduceGT, Int.reduceGE, Int.reduceNeg, Int.reduceAdd, Int.reduceSub, Nat.reduceBEq, decide_true, decide_false, undef, beq_self_eq_true, bne_self_eq_false, Bool.and_true, Bool.true_and, Bool.and_false, Bool.false_and, Bool.or_true, Bool.true_or, Bool.or_false, Bool.false_or, undef, hwj, hk1, hz, g1, g2, mapOf?, List.getElem?_cons_succ, List.getElem?_cons_zero, k1]
        exact ⟨_, Sub.gc [0, 1] [209, 208, 3, 20, 21, 28, 29, 30, 31] rfl rfl, rfl⟩
      · rw [decide_eq_true c]
        simp only [bo5, tSis, tSi, go_sem, Nat.reduceEqDiff, Nat.reduceAdd, Nat.reduceSub, Nat.reduceMul, Nat.reduceLT, Nat.reduceLeDiff, Nat.reduceMod, Nat.reduceDiv, Int.reduceToNat, Int.reduceLT, Int.reduceLE, Bool.not_true, Bool.not_false, reduceIte, Int.reduceEq, Int.reduceBEq, Int.reduceBNe, Int.reduceGT, Int.reduceGE, Int.reduceNeg, Int.reduceAdd, Int.reduceSub, Nat.reduceBEq, decide_true, decide_false, undef, beq_self_eq_true, bne_self_eq_false, Bool.and_true, Bool.true_and, Bool.and_false, Bool.false_and, Bool.or_true, Bool.true_or, Bool.or_false, Bool.false_or, undef, hwj, hk1, hz, g1, g2, mapOf?, List.getElem?_cons_succ, List.getElem?_cons_zero, k1, v1]
        exact ⟨_, Sub.gc [0, 1] [209, 208, 3, 20, 21, 28, 29, 30, 31] rfl rfl, rfl⟩
  · rintro st rfl
    simp only [bo5, go_sem, Nat.reduceEqDiff, Nat.reduceAdd, Nat.reduceSub, Nat.reduceMul, Nat.reduceLT, Nat.reduceLeDiff, Nat.reduceMod, Nat.reduceDiv, Int.reduceToNat, Int.reduceLT, Int.reduceLE, Bool.not_true, Bool.not_false, reduceIte, Int.reduceEq, Int.reduceBEq, Int.reduceBNe, Int.reduceGT, Int.reduceGE, Int.reduceNeg, Int.reduceAdd, Int.reduceSub, Nat.reduceBEq, decide_true, decide_false, undef, beq_self_eq_true, bne_self_eq_false, Bool.and_true, Bool.true_and, Bool.and_false, Bool.false_and, Bool.or_true, Bool.true_or, Bool.or_false, Bool.false_or, undef]
    refine ACallL.quiet1 awake_ok rfl rfl rfl ?_
    simp only [go_sem, Nat.reduceEqDiff, Nat.reduceAdd, Nat.reduceSub, Nat.reduceMul, Nat.reduceLT, Nat.reduceLeDiff, Nat.reduceMod, Nat.reduceDiv, Int.reduceToNat, Int.reduceLT, Int.reduceLE, Bool.not_true, Bool.not_false, reduceIte, Int.reduceEq, Int.reduceBEq, Int.reduceBNe, Int.reduceGT, Int.reduceGE, Int.reduceNeg, Int.reduceAdd, Int.reduceSub, Nat.reduceBEq, decide_true, decide_false, undef, beq_self_eq_true, bne_self_eq_false, Bool.and_true, Bool.true_and, Bool.and_false, Bool.false_and, Bool.or_true, Bool.true_or, Bool.or_false, Bool.false_or, undef]
    exact finL_ret [] ⟨rfl, rfl, rfl, rfl, _, rfl, res_mk rfl⟩
end Go.Proofs.YtafcdpmcmmfbhaaDoor
