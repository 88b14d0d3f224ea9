/- Proved here: laws that the statements need (SuK, SuC1s, SuL, SuM). No conditions but those that each law states. -/
import Derived.Test.YtmahocdmkpigjaaDoorSC
import Derived.Test.YtmahocdmkpigjaaDoorFL
import Derived.Test.YtmahocdmkpigjaaDoorProg

set_option linter.unusedSimpArgs false
set_option linter.unusedVariables false

/- Package surf: Brake, Floor. -/
namespace Go.Proofs.YtmahocdmkpigjaaDoor
open Go Go.Ab

/-- The least number with which something is fine, or this one. -/
def leastN (p : Nat → Bool) (N : Nat) : Nat := ((List.range N).find? p).getD N
theorem leastN_at {p : Nat → Bool} {N j : Nat} (h : ∀ i < j, p i = false) (hj : p j = true) (hl : j < N) : leastN p N = j := by
  unfold leastN
  have : (List.range N).find? p = some j := by
    rw [List.find?_range_eq_some]
    exact ⟨hj, List.mem_range.2 hl, fun i hi => by rw [h i hi]; rfl⟩
  rw [this]; rfl
theorem leastN_none {p : Nat → Bool} {N : Nat} (h : ∀ i < N, p i = false) : leastN p N = N := by
  unfold leastN
  have : (List.range N).find? p = none := by
    rw [List.find?_eq_none]
    intro i hi
    rw [h i (List.mem_range.1 hi)]; simp
  rw [this]; rfl
def hB (h : Hu) (n : Nat) : Hu := ⟨h.floor, n, h.row⟩
def hF (h : Hu) (n : Nat) : Hu := ⟨n, h.brake, h.row⟩
def holdsB (s : Su) (h : Hu) (n : Nat) : Bool := !(logS s (hB h n) s.water.length).testBit 0
def restsF (s : Su) (h : Hu) (n : Nat) : Bool := decide (firstS s (hF h n) < 0)
theorem withB_ok (h : Hu) (n : Nat) : ACall Tryd.prog 66 [.t (tHu h), .t (vi n)] [] (ret (tHu (hB h n))) := by
  refine ACall.walk k66 ?_
  unfold c66 tHu
  simp only [go_sem, Nat.reduceEqDiff, Nat.reduceAdd, Nat.reduceSub, Nat.reduceMul, Nat.reduceLT, Nat.reduceLeDiff, Nat.reduceMod, Nat.reduceDiv, Int.reduceToNat, Int.reduceLT, Int.reduceLE, Bool.not_true, Bool.not_false, reduceIte, Int.reduceEq, Int.reduceBEq, Int.reduceBNe, Int.reduceGT, Int.reduceGE, Int.reduceNeg, Int.reduceAdd, Int.reduceSub, Nat.reduceBEq, decide_true, decide_false, undef, beq_self_eq_true, bne_self_eq_false, Bool.and_true, Bool.true_and, Bool.and_false, Bool.false_and, Bool.or_true, Bool.true_or, Bool.or_false, Bool.false_or]
  exact finL_ret [] ⟨rfl, rfl, rfl, rfl, _, rfl, res_mk rfl⟩
theorem withF_ok (h : Hu) (n : Nat) : ACall Tryd.prog 69 [.t (tHu h), .t (vi n)] [] (ret (tHu (hF h n))) := by
  refine ACall.walk k69 ?_
  unfold c69 tHu
  simp only [go_sem, Nat.reduceEqDiff, Nat.reduceAdd, Nat.reduceSub, Nat.reduceMul, Nat.reduceLT, Nat.reduceLeDiff, Nat.reduceMod, Nat.reduceDiv, Int.reduceToNat, Int.reduceLT, Int.reduceLE, Bool.not_true, Bool.not_false, reduceIte, Int.reduceEq, Int.reduceBEq, Int.reduceBNe, Int.reduceGT, Int.reduceGE, Int.reduceNeg, Int.reduceAdd, Int.reduceSub, Nat.reduceBEq, decide_true, decide_false, undef, beq_self_eq_true, bne_self_eq_false, Bool.and_true, Bool.true_and, Bool.and_false, Bool.false_and, Bool.or_true, Bool.true_or, Bool.or_false, Bool.false_or]
  exact finL_ret [] ⟨rfl, rfl, rfl, rfl, _, rfl, res_mk rfl⟩
set_option maxRecDepth 8000 in
set_option maxHeartbeats 4000000 in
theorem fineB_ok (s : Su) (hs : s.OK) (h : Hu) (hh : h.OK s.rows) {ks : List (Nat × List Int)} {xs : List T} {clk : Nat} (M : MapOK s ks xs) :
    ACall Tryd.prog 67 [.t (tHu h), .vp [seaE s 0] 0, .t (.ptr (.agg (su5 s)) 0)] [.map shN ks xs clk] (seaCallR s (.ret (.t (vb (!(logS s h s.water.length).testBit 0))))) := by
  refine ACall.walk k67 ?_
  unfold c67
  have h53 := follow_ok s hs h hh M (clk := clk)
  have hrow := hs.rows
  have hnw := hs.nw
  have hlt := logS_lt s h ⟨hh.2.2.2.2.1, by have := hh.2.2.2.2.2; omega⟩ s.water.length
  have hlg := lg_get s h (i := s.water.length) (j := s.water.length) (by omega) (by omega)
  have h54 := lost_ok _ hlt
  have hk9 : (s.water.length : Int) < 9 := by omega
  generalize logS s h s.water.length = m at *
  obtain ⟨f, b, r⟩ := h
  simp only [tHu] at h53
  unfold tHu su5
  simp only [go_sem, Nat.reduceEqDiff, Nat.reduceAdd, Nat.reduceSub, Nat.reduceMul, Nat.reduceLT, Nat.reduceLeDiff, Nat.reduceMod, Nat.reduceDiv, Int.reduceToNat, Int.reduceLT, Int.reduceLE, Bool.not_true, Bool.not_false, reduceIte, Int.reduceEq, Int.reduceBEq, Int.reduceBNe, Int.reduceGT, Int.reduceGE, Int.reduceNeg, Int.reduceAdd, Int.reduceSub, Nat.reduceBEq, decide_true, decide_false, undef, beq_self_eq_true, bne_self_eq_false, Bool.and_true, Bool.true_and, Bool.and_false, Bool.false_and, Bool.or_true, Bool.true_or, Bool.or_false, Bool.false_or, List.length_map]
  refine lend1 (m := 0) h53 rfl rfl rfl ?_
  rintro o a ⟨rfl, ks2, xs2, clk2, M2, rfl⟩
  simp only [go_sem, Nat.reduceEqDiff, Nat.reduceAdd, Nat.reduceSub, Nat.reduceMul, Nat.reduceLT, Nat.reduceLeDiff, Nat.reduceMod, Nat.reduceDiv, Int.reduceToNat, Int.reduceLT, Int.reduceLE, Bool.not_true, Bool.not_false, reduceIte, Int.reduceEq, Int.reduceBEq, Int.reduceBNe, Int.reduceGT, Int.reduceGE, Int.reduceNeg, Int.reduceAdd, Int.reduceSub, Nat.reduceBEq, decide_true, decide_false, undef, beq_self_eq_true, bne_self_eq_false, Bool.and_true, Bool.true_and, Bool.and_false, Bool.false_and, Bool.or_true, Bool.true_or, Bool.or_false, Bool.false_or, undef, Out.ren, E.ren, E.rens, AO.ren, List.length_map, hk9, Nat.mul_one, List.getElem?_map, hlg, Option.map_some]
  refine ACallL.quiet1 h54 rfl rfl rfl ?_
  simp only [go_sem, Nat.reduceEqDiff, Nat.reduceAdd, Nat.reduceSub, Nat.reduceMul, Nat.reduceLT, Nat.reduceLeDiff, Nat.reduceMod, Nat.reduceDiv, Int.reduceToNat, Int.reduceLT, Int.reduceLE, Bool.not_true, Bool.not_false, reduceIte, Int.reduceEq, Int.reduceBEq, Int.reduceBNe, Int.reduceGT, Int.reduceGE, Int.reduceNeg, Int.reduceAdd, Int.reduceSub, Nat.reduceBEq, decide_true, decide_false, undef, beq_self_eq_true, bne_self_eq_false, Bool.and_true, Bool.true_and, Bool.and_false, Bool.false_and, Bool.or_true, Bool.true_or, Bool.or_false, Bool.false_or, undef, List.length_map]
  exact finL_ret [0] ⟨rfl, rfl, rfl, rfl, _, rfl, _, ⟨rfl, ks2, xs2, clk2, M2, rfl⟩, rfl⟩
set_option maxRecDepth 8000 in
set_option maxHeartbeats 4000000 in
theorem fineF_ok (s : Su) (hs : s.OK) (h : Hu) (hh : h.OK s.rows) {ks : List (Nat × List Int)} {xs : List T} {clk : Nat} (M : MapOK s ks xs) :
    ACall Tryd.prog 70 [.t (tHu h), .vp [seaE s 0] 0] [.map shN ks xs clk] (seaCallR s (.ret (.t (vb (decide (firstS s h < 0)))))) := by
  refine ACall.walk k70 ?_
  unfold c70
  have h62 := first_ok s hs h hh M (clk := clk)
  generalize firstS s h = m at *
  obtain ⟨f, b, r⟩ := h
  simp only [tHu] at h62
  unfold tHu
  simp only [go_sem, Nat.reduceEqDiff, Nat.reduceAdd, Nat.reduceSub, Nat.reduceMul, Nat.reduceLT, Nat.reduceLeDiff, Nat.reduceMod, Nat.reduceDiv, Int.reduceToNat, Int.reduceLT, Int.reduceLE, Bool.not_true, Bool.not_false, reduceIte, Int.reduceEq, Int.reduceBEq, Int.reduceBNe, Int.reduceGT, Int.reduceGE, Int.reduceNeg, Int.reduceAdd, Int.reduceSub, Nat.reduceBEq, decide_true, decide_false, undef, beq_self_eq_true, bne_self_eq_false, Bool.and_true, Bool.true_and, Bool.and_false, Bool.false_and, Bool.or_true, Bool.true_or, Bool.or_false, Bool.false_or]
  refine lend1 (m := 0) h62 rfl rfl rfl ?_
  rintro o a ⟨rfl, ks2, xs2, clk2, M2, rfl⟩
  simp only [go_sem, Nat.reduceEqDiff, Nat.reduceAdd, Nat.reduceSub, Nat.reduceMul, Nat.reduceLT, Nat.reduceLeDiff, Nat.reduceMod, Nat.reduceDiv, Int.reduceToNat, Int.reduceLT, Int.reduceLE, Bool.not_true, Bool.not_false, reduceIte, Int.reduceEq, Int.reduceBEq, Int.reduceBNe, Int.reduceGT, Int.reduceGE, Int.reduceNeg, Int.reduceAdd, Int.reduceSub, Nat.reduceBEq, decide_true, decide_false, undef, beq_self_eq_true, bne_self_eq_false, Bool.and_true, Bool.true_and, Bool.and_false, Bool.false_and, Bool.or_true, Bool.true_or, Bool.or_false, Bool.false_or, undef, Out.ren, E.ren, E.rens, AO.ren]
  exact finL_ret [0] ⟨rfl, rfl, rfl, rfl, _, rfl, _, ⟨rfl, ks2, xs2, clk2, M2, rfl⟩, rfl⟩

set_option maxRecDepth 8000 in
set_option maxHeartbeats 8000000 in
theorem leastB_ok (s : Su) (hs : s.OK) (h : Hu) (hh : h.OK s.rows) {ks : List (Nat × List Int)} {xs : List T} {clk : Nat} (M : MapOK s ks xs) :
    ACall Tryd.prog 65 [.t (tHu h), .t (vi 10), .agg [.t (.fn (.func 66) [] []), .fn (.func 67) [] [.vp [seaE s 0] 0, .t (.ptr (.agg (su5 s)) 0)]]] [.map shN ks xs clk] (seaCallR s (.ret (.t (vi (leastN (holdsB s h) 10 : Nat))))) := by
  refine ACall.walk k65 ?_
  unfold c65
  have hw := fun n => withB_ok h n
  have hf := fun (n : Nat) (hn : n < 10) ks xs clk (M : MapOK s ks xs) => fineB_ok s hs (hB h n) (show Hu.OK s.rows _ by simp only [hB, Hu.OK] at hh ⊢; omega) M (clk := clk)
  unfold tHu at hw ⊢
  unfold tHu at hf
  simp only [go_sem, Nat.reduceEqDiff, Nat.reduceAdd, Nat.reduceSub, Nat.reduceMul, Nat.reduceLT, Nat.reduceLeDiff, Nat.reduceMod, Nat.reduceDiv, Int.reduceToNat, Int.reduceLT, Int.reduceLE, Bool.not_true, Bool.not_false, reduceIte, Int.reduceEq, Int.reduceBEq, Int.reduceBNe, Int.reduceGT, Int.reduceGE, Int.reduceNeg, Int.reduceAdd, Int.reduceSub, Nat.reduceBEq, decide_true, decide_false, undef, beq_self_eq_true, bne_self_eq_false, Bool.and_true, Bool.true_and, Bool.and_false, Bool.false_and, Bool.or_true, Bool.true_or, Bool.or_false, Bool.false_or]
  refine awpL_for (i := 9) (L := 8) 10 (fun j st => (∀ i < j, holdsB s h i = false) ∧ ∃ ks xs clk, MapOK s ks xs ∧ st = { env := [(9, .t (vi j)), (8, .t (vi 10)), (1, .t (vi 10)), (3, .t (.ptr (tHu h) 0)), (5, .vp [.t (.fn (.func 66) [] []), .fn (.func 67) [] [.vp [seaE s 0] 0, .t (.ptr (.agg (su5 s)) 0)]] 0)], σ := [.map shN ks xs clk] }) ?_ ⟨_, Sub.gc [0] [9, 8, 1, 3, 5] rfl rfl, by simp, ks, xs, clk, M, rfl⟩ ?_ ?_
  · rintro k st ⟨_, _, _, _, _, rfl⟩; exact ⟨rfl, rfl⟩
  · rintro j st hj ⟨hno, ks, xs, clk, M, rfl⟩
    have hwj : IntKind.i64.wrap ((j : Int) + 1) = ((j + 1 : Nat) : Int) := by rw [wrap_id (by omega) (by omega)]; omega
    have hf := hf j hj ks xs clk M
    have hg : holdsB s h j = !(logS s (hB h j) s.water.length).testBit 0 := rfl
    rw [← hg] at hf
    simp only [tHu, hB, go_sem, Nat.reduceEqDiff, Nat.reduceAdd, Nat.reduceSub, Nat.reduceMul, Nat.reduceLT, Nat.reduceLeDiff, Nat.reduceMod, Nat.reduceDiv, Int.reduceToNat, Int.reduceLT, Int.reduceLE, Bool.not_true, Bool.not_false, reduceIte, Int.reduceEq, Int.reduceBEq, Int.reduceBNe, Int.reduceGT, Int.reduceGE, Int.reduceNeg, Int.reduceAdd, Int.reduceSub, Nat.reduceBEq, decide_true, decide_false, undef, beq_self_eq_true, bne_self_eq_false, Bool.and_true, Bool.true_and, Bool.and_false, Bool.false_and, Bool.or_true, Bool.true_or, Bool.or_false, Bool.false_or, undef]
    refine ACallL.quiet1 (hw j) rfl rfl rfl ?_
    simp only [tHu, hB, go_sem, Nat.reduceEqDiff, Nat.reduceAdd, Nat.reduceSub, Nat.reduceMul, Nat.reduceLT, Nat.reduceLeDiff, Nat.reduceMod, Nat.reduceDiv, Int.reduceToNat, Int.reduceLT, Int.reduceLE, Bool.not_true, Bool.not_false, reduceIte, Int.reduceEq, Int.reduceBEq, Int.reduceBNe, Int.reduceGT, Int.reduceGE, Int.reduceNeg, Int.reduceAdd, Int.reduceSub, Nat.reduceBEq, decide_true, decide_false, undef, beq_self_eq_true, bne_self_eq_false, Bool.and_true, Bool.true_and, Bool.and_false, Bool.false_and, Bool.or_true, Bool.true_or, Bool.or_false, Bool.false_or, undef]
    refine lend1 (m := 0) hf rfl rfl rfl ?_
    rintro o a ⟨rfl, ks2, xs2, clk2, M2, rfl⟩
    cases hb : holdsB s h j
    · simp only [go_sem, Nat.reduceEqDiff, Nat.reduceAdd, Nat.reduceSub, Nat.reduceMul, Nat.reduceLT, Nat.reduceLeDiff, Nat.reduceMod, Nat.reduceDiv, Int.reduceToNat, Int.reduceLT, Int.reduceLE, Bool.not_true, Bool.not_false, reduceIte, Int.reduceEq, Int.reduceBEq, Int.reduceBNe, Int.reduceGT, Int.reduceGE, Int.reduceNeg, Int.reduceAdd, Int.reduceSub, Nat.reduceBEq, decide_true, decide_false, undef, beq_self_eq_true, bne_self_eq_false, Bool.and_true, Bool.true_and, Bool.and_false, Bool.false_and, Bool.or_true, Bool.true_or, Bool.or_false, Bool.false_or, undef, Out.ren, E.ren, E.rens, AO.ren, hwj]
      refine ⟨_, Sub.gc [0] [9, 8, 1, 3, 5] rfl rfl, fun i hi => ?_, ks2, xs2, clk2, M2, rfl⟩
      by_cases c : i < j
      · exact hno i c
      · rw [show i = j by omega]; exact hb
    · simp only [go_sem, Nat.reduceEqDiff, Nat.reduceAdd, Nat.reduceSub, Nat.reduceMul, Nat.reduceLT, Nat.reduceLeDiff, Nat.reduceMod, Nat.reduceDiv, Int.reduceToNat, Int.reduceLT, Int.reduceLE, Bool.not_true, Bool.not_false, reduceIte, Int.reduceEq, Int.reduceBEq, Int.reduceBNe, Int.reduceGT, Int.reduceGE, Int.reduceNeg, Int.reduceAdd, Int.reduceSub, Nat.reduceBEq, decide_true, decide_false, undef, beq_self_eq_true, bne_self_eq_false, Bool.and_true, Bool.true_and, Bool.and_false, Bool.false_and, Bool.or_true, Bool.true_or, Bool.or_false, Bool.false_or, undef, Out.ren, E.ren, E.rens, AO.ren]
      exact finL_ret [0] ⟨rfl, rfl, rfl, rfl, _, rfl, _, ⟨by rw [leastN_at hno hb hj]; rfl, ks2, xs2, clk2, M2, rfl⟩, rfl⟩
  · rintro st ⟨hno, ks, xs, clk, M, rfl⟩
    simp only [go_sem, Nat.reduceEqDiff, Nat.reduceAdd, Nat.reduceSub, Nat.reduceMul, Nat.reduceLT, Nat.reduceLeDiff, Nat.reduceMod, Nat.reduceDiv, Int.reduceToNat, Int.reduceLT, Int.reduceLE, Bool.not_true, Bool.not_false, reduceIte, Int.reduceEq, Int.reduceBEq, Int.reduceBNe, Int.reduceGT, Int.reduceGE, Int.reduceNeg, Int.reduceAdd, Int.reduceSub, Nat.reduceBEq, decide_true, decide_false, undef, beq_self_eq_true, bne_self_eq_false, Bool.and_true, Bool.true_and, Bool.and_false, Bool.false_and, Bool.or_true, Bool.true_or, Bool.or_false, Bool.false_or, undef]
    exact finL_ret [0] ⟨rfl, rfl, rfl, rfl, _, rfl, _, ⟨by rw [leastN_none hno]; rfl, ks, xs, clk, M, rfl⟩, rfl⟩

set_option maxRecDepth 8000 in
set_option maxHeartbeats 8000000 in
theorem Brake_ok (s : Su) (hs : s.OK) (n : Nat) (hu : Hu) (hg : s.huts[n]? = some hu) : ACall Tryd.prog 25 [.t (.agg (su5 s)), .t (vi n)] [] (res (oneE (leastN (holdsB s hu) 10 : Nat) 0)) := by
  refine ACall.walkD k25 ?_
  unfold c25
  obtain ⟨hl, hok, h1, hh⟩ := pre_ok hs hg
  have h52 := isHut_ok s hl n
  rw [h1] at h52
  have h65 := leastB_ok s hs hu hh (MapOK.nil s) (clk := 0)
  have hop := fun (σ : List AO) (R : Lz (Out → List AO → Prop)) h => openL (σ := σ) (R := R) s true hl (fun h => by rw [hok] at h; cases h) (fun _ h => by cases h) h
  generalize leastN (holdsB s hu) 10 = m at *
  obtain ⟨f, b, r⟩ := hu
  simp only [tHu] at h65
  unfold su5 at h52 hop h65 ⊢
  simp only [go_sem, Nat.reduceEqDiff, Nat.reduceAdd, Nat.reduceSub, Nat.reduceMul, Nat.reduceLT, Nat.reduceLeDiff, Nat.reduceMod, Nat.reduceDiv, Int.reduceToNat, Int.reduceLT, Int.reduceLE, Bool.not_true, Bool.not_false, reduceIte, Int.reduceEq, Int.reduceBEq, Int.reduceBNe, Int.reduceGT, Int.reduceGE, Int.reduceNeg, Int.reduceAdd, Int.reduceSub, Nat.reduceBEq, decide_true, decide_false, undef, beq_self_eq_true, bne_self_eq_false, Bool.and_true, Bool.true_and, Bool.and_false, Bool.false_and, Bool.or_true, Bool.true_or, Bool.or_false, Bool.false_or]
  refine AndL.mk ?_ ?_
  · simp only [go_sem, Nat.reduceEqDiff, Nat.reduceAdd, Nat.reduceSub, Nat.reduceMul, Nat.reduceLT, Nat.reduceLeDiff, Nat.reduceMod, Nat.reduceDiv, Int.reduceToNat, Int.reduceLT, Int.reduceLE, Bool.not_true, Bool.not_false, reduceIte, Int.reduceEq, Int.reduceBEq, Int.reduceBNe, Int.reduceGT, Int.reduceGE, Int.reduceNeg, Int.reduceAdd, Int.reduceSub, Nat.reduceBEq, decide_true, decide_false, undef, beq_self_eq_true, bne_self_eq_false, Bool.and_true, Bool.true_and, Bool.and_false, Bool.false_and, Bool.or_true, Bool.true_or, Bool.or_false, Bool.false_or, undef]
    refine ACallL.quiet1 h52 rfl rfl rfl ?_
    simp only [go_sem, Nat.reduceEqDiff, Nat.reduceAdd, Nat.reduceSub, Nat.reduceMul, Nat.reduceLT, Nat.reduceLeDiff, Nat.reduceMod, Nat.reduceDiv, Int.reduceToNat, Int.reduceLT, Int.reduceLE, Bool.not_true, Bool.not_false, reduceIte, Int.reduceEq, Int.reduceBEq, Int.reduceBNe, Int.reduceGT, Int.reduceGE, Int.reduceNeg, Int.reduceAdd, Int.reduceSub, Nat.reduceBEq, decide_true, decide_false, undef, beq_self_eq_true, bne_self_eq_false, Bool.and_true, Bool.true_and, Bool.and_false, Bool.false_and, Bool.or_true, Bool.true_or, Bool.or_false, Bool.false_or, undef]
    refine AndL.mk ?_ ?_
    · simp only [go_sem, Nat.reduceEqDiff, Nat.reduceAdd, Nat.reduceSub, Nat.reduceMul, Nat.reduceLT, Nat.reduceLeDiff, Nat.reduceMod, Nat.reduceDiv, Int.reduceToNat, Int.reduceLT, Int.reduceLE, Bool.not_true, Bool.not_false, reduceIte, Int.reduceEq, Int.reduceBEq, Int.reduceBNe, Int.reduceGT, Int.reduceGE, Int.reduceNeg, Int.reduceAdd, Int.reduceSub, Nat.reduceBEq, decide_true, decide_false, undef, beq_self_eq_true, bne_self_eq_false, Bool.and_true, Bool.true_and, Bool.and_false, Bool.false_and, Bool.or_true, Bool.true_or, Bool.or_false, Bool.false_or, undef]
      refine hop _ _ fun _ _ => ?_
      simp only [go_sem, Nat.reduceEqDiff, Nat.reduceAdd, Nat.reduceSub, Nat.reduceMul, Nat.reduceLT, Nat.reduceLeDiff, Nat.reduceMod, Nat.reduceDiv, Int.reduceToNat, Int.reduceLT, Int.reduceLE, Bool.not_true, Bool.not_false, reduceIte, Int.reduceEq, Int.reduceBEq, Int.reduceBNe, Int.reduceGT, Int.reduceGE, Int.reduceNeg, Int.reduceAdd, Int.reduceSub, Nat.reduceBEq, decide_true, decide_false, undef, beq_self_eq_true, bne_self_eq_false, Bool.and_true, Bool.true_and, Bool.and_false, Bool.false_and, Bool.or_true, Bool.true_or, Bool.or_false, Bool.false_or, undef]
      refine awpL_gcpE [1, 2] [1, 2, 5, 6] { env := [(1, .t (vi n)), (2, .t (.ptr (.agg (su5 s)) 0)), (5, .ptr 0 0), (6, .vp [seaE s 1] 0)], σ := [.cells [.t (vi 0)], .map shN [] [] 0], df := [.call 43 [.ptr 0 0]] } rfl rfl rfl ?_
      simp only [su5, go_sem, Nat.reduceEqDiff, Nat.reduceAdd, Nat.reduceSub, Nat.reduceMul, Nat.reduceLT, Nat.reduceLeDiff, Nat.reduceMod, Nat.reduceDiv, Int.reduceToNat, Int.reduceLT, Int.reduceLE, Bool.not_true, Bool.not_false, reduceIte, Int.reduceEq, Int.reduceBEq, Int.reduceBNe, Int.reduceGT, Int.reduceGE, Int.reduceNeg, Int.reduceAdd, Int.reduceSub, Nat.reduceBEq, decide_true, decide_false, undef, beq_self_eq_true, bne_self_eq_false, Bool.and_true, Bool.true_and, Bool.and_false, Bool.false_and, Bool.or_true, Bool.true_or, Bool.or_false, Bool.false_or, undef, List.getElem?_map, hg, Option.map_some, tHu]
      refine lend1 (m := 1) h65 rfl rfl rfl ?_
      rintro o a ⟨rfl, ks2, xs2, clk2, M2, rfl⟩
      simp only [go_sem, Nat.reduceEqDiff, Nat.reduceAdd, Nat.reduceSub, Nat.reduceMul, Nat.reduceLT, Nat.reduceLeDiff, Nat.reduceMod, Nat.reduceDiv, Int.reduceToNat, Int.reduceLT, Int.reduceLE, Bool.not_true, Bool.not_false, reduceIte, Int.reduceEq, Int.reduceBEq, Int.reduceBNe, Int.reduceGT, Int.reduceGE, Int.reduceNeg, Int.reduceAdd, Int.reduceSub, Nat.reduceBEq, decide_true, decide_false, undef, beq_self_eq_true, bne_self_eq_false, Bool.and_true, Bool.true_and, Bool.and_false, Bool.false_and, Bool.or_true, Bool.true_or, Bool.or_false, Bool.false_or, undef, Out.ren, E.ren, E.rens, AO.ren]
      refine finDL_ret rfl rfl (answer_none.mono fun σ' h => ?_)
      subst h
      exact ⟨_, rfl, [], rfl, rfl, res_mk rfl⟩
    · simp only [go_sem, Nat.reduceEqDiff, Nat.reduceAdd, Nat.reduceSub, Nat.reduceMul, Nat.reduceLT, Nat.reduceLeDiff, Nat.reduceMod, Nat.reduceDiv, Int.reduceToNat, Int.reduceLT, Int.reduceLE, Bool.not_true, Bool.not_false, reduceIte, Int.reduceEq, Int.reduceBEq, Int.reduceBNe, Int.reduceGT, Int.reduceGE, Int.reduceNeg, Int.reduceAdd, Int.reduceSub, Nat.reduceBEq, decide_true, decide_false, undef, beq_self_eq_true, bne_self_eq_false, Bool.and_true, Bool.true_and, Bool.and_false, Bool.false_and, Bool.or_true, Bool.true_or, Bool.or_false, Bool.false_or, undef]
      refine hop _ _ fun _ _ => ?_
      simp only [go_sem, Nat.reduceEqDiff, Nat.reduceAdd, Nat.reduceSub, Nat.reduceMul, Nat.reduceLT, Nat.reduceLeDiff, Nat.reduceMod, Nat.reduceDiv, Int.reduceToNat, Int.reduceLT, Int.reduceLE, Bool.not_true, Bool.not_false, reduceIte, Int.reduceEq, Int.reduceBEq, Int.reduceBNe, Int.reduceGT, Int.reduceGE, Int.reduceNeg, Int.reduceAdd, Int.reduceSub, Nat.reduceBEq, decide_true, decide_false, undef, beq_self_eq_true, bne_self_eq_false, Bool.and_true, Bool.true_and, Bool.and_false, Bool.false_and, Bool.or_true, Bool.true_or, Bool.or_false, Bool.false_or, undef]
      refine awpL_gcpE [1, 3] [1, 2, 5, 6] { env := [(1, .t (vi n)), (2, .t (.ptr (.agg (su5 s)) 0)), (5, .ptr 0 0), (6, .vp [seaE s 1] 0)], σ := [.cells [.t (vi 0)], .map shN [] [] 0], df := [.call 43 [.ptr 0 0]] } rfl rfl rfl ?_
      simp only [su5, go_sem, Nat.reduceEqDiff, Nat.reduceAdd, Nat.reduceSub, Nat.reduceMul, Nat.reduceLT, Nat.reduceLeDiff, Nat.reduceMod, Nat.reduceDiv, Int.reduceToNat, Int.reduceLT, Int.reduceLE, Bool.not_true, Bool.not_false, reduceIte, Int.reduceEq, Int.reduceBEq, Int.reduceBNe, Int.reduceGT, Int.reduceGE, Int.reduceNeg, Int.reduceAdd, Int.reduceSub, Nat.reduceBEq, decide_true, decide_false, undef, beq_self_eq_true, bne_self_eq_false, Bool.and_true, Bool.true_and, Bool.and_false, Bool.false_and, Bool.or_true, Bool.true_or, Bool.or_false, Bool.false_or, undef, List.getElem?_map, hg, Option.map_some, tHu]
      refine lend1 (m := 1) h65 rfl rfl rfl ?_
      rintro o a ⟨rfl, ks2, xs2, clk2, M2, rfl⟩
      simp only [go_sem, Nat.reduceEqDiff, Nat.reduceAdd, Nat.reduceSub, Nat.reduceMul, Nat.reduceLT, Nat.reduceLeDiff, Nat.reduceMod, Nat.reduceDiv, Int.reduceToNat, Int.reduceLT, Int.reduceLE, Bool.not_true, Bool.not_false, reduceIte, Int.reduceEq, Int.reduceBEq, Int.reduceBNe, Int.reduceGT, Int.reduceGE, Int.reduceNeg, Int.reduceAdd, Int.reduceSub, Nat.reduceBEq, decide_true, decide_false, undef, beq_self_eq_true, bne_self_eq_false, Bool.and_true, Bool.true_and, Bool.and_false, Bool.false_and, Bool.or_true, Bool.true_or, Bool.or_false, Bool.false_or, undef, Out.ren, E.ren, E.rens, AO.ren]
      refine finDL_ret rfl rfl (answer_none.mono fun σ' h => ?_)
      subst h
      exact ⟨_, rfl, [], rfl, rfl, res_mk rfl⟩
  · simp only [go_sem, Nat.reduceEqDiff, Nat.reduceAdd, Nat.reduceSub, Nat.reduceMul, Nat.reduceLT, Nat.reduceLeDiff, Nat.reduceMod, Nat.reduceDiv, Int.reduceToNat, Int.reduceLT, Int.reduceLE, Bool.not_true, Bool.not_false, reduceIte, Int.reduceEq, Int.reduceBEq, Int.reduceBNe, Int.reduceGT, Int.reduceGE, Int.reduceNeg, Int.reduceAdd, Int.reduceSub, Nat.reduceBEq, decide_true, decide_false, undef, beq_self_eq_true, bne_self_eq_false, Bool.and_true, Bool.true_and, Bool.and_false, Bool.false_and, Bool.or_true, Bool.true_or, Bool.or_false, Bool.false_or, undef]
    refine ACallL.quiet1 h52 rfl rfl rfl ?_
    simp only [go_sem, Nat.reduceEqDiff, Nat.reduceAdd, Nat.reduceSub, Nat.reduceMul, Nat.reduceLT, Nat.reduceLeDiff, Nat.reduceMod, Nat.reduceDiv, Int.reduceToNat, Int.reduceLT, Int.reduceLE, Bool.not_true, Bool.not_false, reduceIte, Int.reduceEq, Int.reduceBEq, Int.reduceBNe, Int.reduceGT, Int.reduceGE, Int.reduceNeg, Int.reduceAdd, Int.reduceSub, Nat.reduceBEq, decide_true, decide_false, undef, beq_self_eq_true, bne_self_eq_false, Bool.and_true, Bool.true_and, Bool.and_false, Bool.false_and, Bool.or_true, Bool.true_or, Bool.or_false, Bool.false_or, undef]
    refine hop _ _ fun _ _ => ?_
    simp only [go_sem, Nat.reduceEqDiff, Nat.reduceAdd, Nat.reduceSub, Nat.reduceMul, Nat.reduceLT, Nat.reduceLeDiff, Nat.reduceMod, Nat.reduceDiv, Int.reduceToNat, Int.reduceLT, Int.reduceLE, Bool.not_true, Bool.not_false, reduceIte, Int.reduceEq, Int.reduceBEq, Int.reduceBNe, Int.reduceGT, Int.reduceGE, Int.reduceNeg, Int.reduceAdd, Int.reduceSub, Nat.reduceBEq, decide_true, decide_false, undef, beq_self_eq_true, bne_self_eq_false, Bool.and_true, Bool.true_and, Bool.and_false, Bool.false_and, Bool.or_true, Bool.true_or, Bool.or_false, Bool.false_or, undef]
    refine awpL_gcpE [1, 3] [1, 2, 5, 6] { env := [(1, .t (vi n)), (2, .t (.ptr (.agg (su5 s)) 0)), (5, .ptr 0 0), (6, .vp [seaE s 1] 0)], σ := [.cells [.t (vi 0)], .map shN [] [] 0], df := [.call 43 [.ptr 0 0]] } rfl rfl rfl ?_
    simp only [su5, go_sem, Nat.reduceEqDiff, Nat.reduceAdd, Nat.reduceSub, Nat.reduceMul, Nat.reduceLT, Nat.reduceLeDiff, Nat.reduceMod, Nat.reduceDiv, Int.reduceToNat, Int.reduceLT, Int.reduceLE, Bool.not_true, Bool.not_false, reduceIte, Int.reduceEq, Int.reduceBEq, Int.reduceBNe, Int.reduceGT, Int.reduceGE, Int.reduceNeg, Int.reduceAdd, Int.reduceSub, Nat.reduceBEq, decide_true, decide_false, undef, beq_self_eq_true, bne_self_eq_false, Bool.and_true, Bool.true_and, Bool.and_false, Bool.false_and, Bool.or_true, Bool.true_or, Bool.or_false, Bool.false_or, undef, List.getElem?_map, hg, Option.map_some, tHu]
    refine lend1 (m := 1) h65 rfl rfl rfl ?_
    rintro o a ⟨rfl, ks2, xs2, clk2, M2, rfl⟩
    simp only [go_sem, Nat.reduceEqDiff, Nat.reduceAdd, Nat.reduceSub, Nat.reduceMul, Nat.reduceLT, Nat.reduceLeDiff, Nat.reduceMod, Nat.reduceDiv, Int.reduceToNat, Int.reduceLT, Int.reduceLE, Bool.not_true, Bool.not_false, reduceIte, Int.reduceEq, Int.reduceBEq, Int.reduceBNe, Int.reduceGT, Int.reduceGE, Int.reduceNeg, Int.reduceAdd, Int.reduceSub, Nat.reduceBEq, decide_true, decide_false, undef, beq_self_eq_true, bne_self_eq_false, Bool.and_true, Bool.true_and, Bool.and_false, Bool.false_and, Bool.or_true, Bool.true_or, Bool.or_false, Bool.false_or, undef, Out.ren, E.ren, E.rens, AO.ren]
    refine finDL_ret rfl rfl (answer_none.mono fun σ' h => ?_)
    subst h
    exact ⟨_, rfl, [], rfl, rfl, res_mk rfl⟩

set_option maxRecDepth 8000 in
set_option maxHeartbeats 8000000 in
theorem leastF_ok (s : Su) (hs : s.OK) (h : Hu) (hh : h.OK s.rows) {ks : List (Nat × List Int)} {xs : List T} {clk : Nat} (M : MapOK s ks xs) :
    ACall Tryd.prog 65 [.t (tHu h), .t (vi 40), .agg [.t (.fn (.func 69) [] []), .fn (.func 70) [] [.vp [seaE s 0] 0]]] [.map shN ks xs clk] (seaCallR s (.ret (.t (vi (leastN (restsF s h) 40 : Nat))))) := by
  refine ACall.walk k65 ?_
  unfold c65
  have hw := fun n => withF_ok h n
  have hf := fun (n : Nat) (hn : n < 40) ks xs clk (M : MapOK s ks xs) => fineF_ok s hs (hF h n) (show Hu.OK s.rows _ by simp only [hF, Hu.OK] at hh ⊢; omega) M (clk := clk)
  unfold tHu at hw ⊢
  unfold tHu at hf
  simp only [go_sem, Nat.reduceEqDiff, Nat.reduceAdd, Nat.reduceSub, Nat.reduceMul, Nat.reduceLT, Nat.reduceLeDiff, Nat.reduceMod, Nat.reduceDiv, Int.reduceToNat, Int.reduceLT, Int.reduceLE, Bool.not_true, Bool.not_false, reduceIte, Int.reduceEq, Int.reduceBEq, Int.reduceBNe, Int.reduceGT, Int.reduceGE, Int.reduceNeg, Int.reduceAdd, Int.reduceSub, Nat.reduceBEq, decide_true, decide_false, undef, beq_self_eq_true, bne_self_eq_false, Bool.and_true, Bool.true_and, Bool.and_false, Bool.false_and, Bool.or_true, Bool.true_or, Bool.or_false, Bool.false_or]
  refine awpL_for (i := 9) (L := 8) 40 (fun j st => (∀ i < j, restsF s h i = false) ∧ ∃ ks xs clk, MapOK s ks xs ∧ st = { env := [(9, .t (vi j)), (8, .t (vi 40)), (1, .t (vi 40)), (3, .t (.ptr (tHu h) 0)), (5, .vp [.t (.fn (.func 69) [] []), .fn (.func 70) [] [.vp [seaE s 0] 0]] 0)], σ := [.map shN ks xs clk] }) ?_ ⟨_, Sub.gc [0] [9, 8, 1, 3, 5] rfl rfl, by simp, ks, xs, clk, M, rfl⟩ ?_ ?_
  · rintro k st ⟨_, _, _, _, _, rfl⟩; exact ⟨rfl, rfl⟩
  · rintro j st hj ⟨hno, ks, xs, clk, M, rfl⟩
    have hwj : IntKind.i64.wrap ((j : Int) + 1) = ((j + 1 : Nat) : Int) := by rw [wrap_id (by omega) (by omega)]; omega
    have hf := hf j hj ks xs clk M
    have hg : restsF s h j = decide (firstS s (hF h j) < 0) := rfl
    rw [← hg] at hf
    simp only [tHu, hF, go_sem, Nat.reduceEqDiff, Nat.reduceAdd, Nat.reduceSub, Nat.reduceMul, Nat.reduceLT, Nat.reduceLeDiff, Nat.reduceMod, Nat.reduceDiv, Int.reduceToNat, Int.reduceLT, Int.reduceLE, Bool.not_true, Bool.not_false, reduceIte, Int.reduceEq, Int.reduceBEq, Int.reduceBNe, Int.reduceGT, Int.reduceGE, Int.reduceNeg, Int.reduceAdd, Int.reduceSub, Nat.reduceBEq, decide_true, decide_false, undef, beq_self_eq_true, bne_self_eq_false, Bool.and_true, Bool.true_and, Bool.and_false, Bool.false_and, Bool.or_true, Bool.true_or, Bool.or_false, Bool.false_or, undef]
    refine ACallL.quiet1 (hw j) rfl rfl rfl ?_
    simp only [tHu, hF, go_sem, Nat.reduceEqDiff, Nat.reduceAdd, Nat.reduceSub, Nat.reduceMul, Nat.reduceLT, Nat.reduceLeDiff, Nat.reduceMod, Nat.reduceDiv, Int.reduceToNat, Int.reduceLT, Int.reduceLE, Bool.not_true, Bool.not_false, reduceIte, Int.reduceEq, Int.reduceBEq, Int.reduceBNe, Int.reduceGT, Int.reduceGE, Int.reduceNeg, Int.reduceAdd, Int.reduceSub, Nat.reduceBEq, decide_true, decide_false, undef, beq_self_eq_true, bne_self_eq_false, Bool.and_true, Bool.true_and, Bool.and_false, Bool.false_and, Bool.or_true, Bool.true_or, Bool.or_false, Bool.false_or, undef]
    refine lend1 (m := 0) hf rfl rfl rfl ?_
    rintro o a ⟨rfl, ks2, xs2, clk2, M2, rfl⟩
    cases hb : restsF s h j
    · simp only [go_sem, Nat.reduceEqDiff, Nat.reduceAdd, Nat.reduceSub, Nat.reduceMul, Nat.reduceLT, Nat.reduceLeDiff, Nat.reduceMod, Nat.reduceDiv, Int.reduceToNat, Int.reduceLT, Int.reduceLE, Bool.not_true, Bool.not_false, reduceIte, Int.reduceEq, Int.reduceBEq, Int.reduceBNe, Int.reduceGT, Int.reduceGE, Int.reduceNeg, Int.reduceAdd, Int.reduceSub, Nat.reduceBEq, decide_true, decide_false, undef, beq_self_eq_true, bne_self_eq_false, Bool.and_true, Bool.true_and, Bool.and_false, Bool.false_and, Bool.or_true, Bool.true_or, Bool.or_false, Bool.false_or, undef, Out.ren, E.ren, E.rens, AO.ren, hwj]
      refine ⟨_, Sub.gc [0] [9, 8, 1, 3, 5] rfl rfl, fun i hi => ?_, ks2, xs2, clk2, M2, rfl⟩
      by_cases c : i < j
      · exact hno i c
      · rw [show i = j by omega]; exact hb
    · simp only [go_sem, Nat.reduceEqDiff, Nat.reduceAdd, Nat.reduceSub, Nat.reduceMul, Nat.reduceLT, Nat.reduceLeDiff, Nat.reduceMod, Nat.reduceDiv, Int.reduceToNat, Int.reduceLT, Int.reduceLE, Bool.not_true, Bool.not_false, reduceIte, Int.reduceEq, Int.reduceBEq, Int.reduceBNe, Int.reduceGT, Int.reduceGE, Int.reduceNeg, Int.reduceAdd, Int.reduceSub, Nat.reduceBEq, decide_true, decide_false, undef, beq_self_eq_true, bne_self_eq_false, Bool.and_true, Bool.true_and, Bool.and_false, Bool.false_and, Bool.or_true, Bool.true_or, Bool.or_false, Bool.false_or, undef, Out.ren, E.ren, E.rens, AO.ren]
      exact finL_ret [0] ⟨rfl, rfl, rfl, rfl, _, rfl, _, ⟨by rw [leastN_at hno hb hj]; rfl, ks2, xs2, clk2, M2, rfl⟩, rfl⟩
  · rintro st ⟨hno, ks, xs, clk, M, rfl⟩
    simp only [go_sem, Nat.reduceEqDiff, Nat.reduceAdd, Nat.reduceSub, Nat.reduceMul, Nat.reduceLT, Nat.reduceLeDiff, Nat.reduceMod, Nat.reduceDiv, Int.reduceToNat, Int.reduceLT, Int.reduceLE, Bool.not_true, Bool.not_false, reduceIte, Int.reduceEq, Int.reduceBEq, Int.reduceBNe, Int.reduceGT, Int.reduceGE, Int.reduceNeg, Int.reduceAdd, Int.reduceSub, Nat.reduceBEq, decide_true, decide_false, undef, beq_self_eq_true, bne_self_eq_false, Bool.and_true, Bool.true_and, Bool.and_false, Bool.false_and, Bool.or_true, Bool.true_or, Bool.or_false, Bool.false_or, undef]
    exact finL_ret [0] ⟨rfl, rfl, rfl, rfl, _, rfl, _, ⟨by rw [leastN_none hno]; rfl, ks, xs, clk, M, rfl⟩, rfl⟩

set_option maxRecDepth 8000 in
set_option maxHeartbeats 8000000 in
theorem Floor_ok (s : Su) (hs : s.OK) (n : Nat) (hu : Hu) (hg : s.huts[n]? = some hu) : ACall Tryd.prog 27 [.t (.agg (su5 s)), .t (vi n)] [] (res (oneE (leastN (restsF s hu) 40 : Nat) 0)) := by
  refine ACall.walkD k27 ?_
  unfold c27
  obtain ⟨hl, hok, h1, hh⟩ := pre_ok hs hg
  have h52 := isHut_ok s hl n
  rw [h1] at h52
  have h65 := leastF_ok s hs hu hh (MapOK.nil s) (clk := 0)
  have hop := fun (σ : List AO) (R : Lz (Out → List AO → Prop)) h => openL (σ := σ) (R := R) s true hl (fun h => by rw [hok] at h; cases h) (fun _ h => by cases h) h
  generalize leastN (restsF s hu) 40 = m at *
  obtain ⟨f, b, r⟩ := hu
  simp only [tHu] at h65
  unfold su5 at h52 hop ⊢
  simp only [go_sem, Nat.reduceEqDiff, Nat.reduceAdd, Nat.reduceSub, Nat.reduceMul, Nat.reduceLT, Nat.reduceLeDiff, Nat.reduceMod, Nat.reduceDiv, Int.reduceToNat, Int.reduceLT, Int.reduceLE, Bool.not_true, Bool.not_false, reduceIte, Int.reduceEq, Int.reduceBEq, Int.reduceBNe, Int.reduceGT, Int.reduceGE, Int.reduceNeg, Int.reduceAdd, Int.reduceSub, Nat.reduceBEq, decide_true, decide_false, undef, beq_self_eq_true, bne_self_eq_false, Bool.and_true, Bool.true_and, Bool.and_false, Bool.false_and, Bool.or_true, Bool.true_or, Bool.or_false, Bool.false_or]
  refine AndL.mk ?_ ?_
  · simp only [go_sem, Nat.reduceEqDiff, Nat.reduceAdd, Nat.reduceSub, Nat.reduceMul, Nat.reduceLT, Nat.reduceLeDiff, Nat.reduceMod, Nat.reduceDiv, Int.reduceToNat, Int.reduceLT, Int.reduceLE, Bool.not_true, Bool.not_false, reduceIte, Int.reduceEq, Int.reduceBEq, Int.reduceBNe, Int.reduceGT, Int.reduceGE, Int.reduceNeg, Int.reduceAdd, Int.reduceSub, Nat.reduceBEq, decide_true, decide_false, undef, beq_self_eq_true, bne_self_eq_false, Bool.and_true, Bool.true_and, Bool.and_false, Bool.false_and, Bool.or_true, Bool.true_or, Bool.or_false, Bool.false_or, undef]
    refine ACallL.quiet1 h52 rfl rfl rfl ?_
    simp only [go_sem, Nat.reduceEqDiff, Nat.reduceAdd, Nat.reduceSub, Nat.reduceMul, Nat.reduceLT, Nat.reduceLeDiff, Nat.reduceMod, Nat.reduceDiv, Int.reduceToNat, Int.reduceLT, Int.reduceLE, Bool.not_true, Bool.not_false, reduceIte, Int.reduceEq, Int.reduceBEq, Int.reduceBNe, Int.reduceGT, Int.reduceGE, Int.reduceNeg, Int.reduceAdd, Int.reduceSub, Nat.reduceBEq, decide_true, decide_false, undef, beq_self_eq_true, bne_self_eq_false, Bool.and_true, Bool.true_and, Bool.and_false, Bool.false_and, Bool.or_true, Bool.true_or, Bool.or_false, Bool.false_or, undef]
    refine AndL.mk ?_ ?_
    · simp only [go_sem, Nat.reduceEqDiff, Nat.reduceAdd, Nat.reduceSub, Nat.reduceMul, Nat.reduceLT, Nat.reduceLeDiff, Nat.reduceMod, Nat.reduceDiv, Int.reduceToNat, Int.reduceLT, Int.reduceLE, Bool.not_true, Bool.not_false, reduceIte, Int.reduceEq, Int.reduceBEq, Int.reduceBNe, Int.reduceGT, Int.reduceGE, Int.reduceNeg, Int.reduceAdd, Int.reduceSub, Nat.reduceBEq, decide_true, decide_false, undef, beq_self_eq_true, bne_self_eq_false, Bool.and_true, Bool.true_and, Bool.and_false, Bool.false_and, Bool.or_true, Bool.true_or, Bool.or_false, Bool.false_or, undef]
      refine hop _ _ fun _ _ => ?_
      simp only [go_sem, Nat.reduceEqDiff, Nat.reduceAdd, Nat.reduceSub, Nat.reduceMul, Nat.reduceLT, Nat.reduceLeDiff, Nat.reduceMod, Nat.reduceDiv, Int.reduceToNat, Int.reduceLT, Int.reduceLE, Bool.not_true, Bool.not_false, reduceIte, Int.reduceEq, Int.reduceBEq, Int.reduceBNe, Int.reduceGT, Int.reduceGE, Int.reduceNeg, Int.reduceAdd, Int.reduceSub, Nat.reduceBEq, decide_true, decide_false, undef, beq_self_eq_true, bne_self_eq_false, Bool.and_true, Bool.true_and, Bool.and_false, Bool.false_and, Bool.or_true, Bool.true_or, Bool.or_false, Bool.false_or, undef]
      refine awpL_gcpE [1, 2] [1, 2, 5, 6] { env := [(1, .t (vi n)), (2, .t (.ptr (.agg (su5 s)) 0)), (5, .ptr 0 0), (6, .vp [seaE s 1] 0)], σ := [.cells [.t (vi 0)], .map shN [] [] 0], df := [.call 43 [.ptr 0 0]] } rfl rfl rfl ?_
      simp only [su5, go_sem, Nat.reduceEqDiff, Nat.reduceAdd, Nat.reduceSub, Nat.reduceMul, Nat.reduceLT, Nat.reduceLeDiff, Nat.reduceMod, Nat.reduceDiv, Int.reduceToNat, Int.reduceLT, Int.reduceLE, Bool.not_true, Bool.not_false, reduceIte, Int.reduceEq, Int.reduceBEq, Int.reduceBNe, Int.reduceGT, Int.reduceGE, Int.reduceNeg, Int.reduceAdd, Int.reduceSub, Nat.reduceBEq, decide_true, decide_false, undef, beq_self_eq_true, bne_self_eq_false, Bool.and_true, Bool.true_and, Bool.and_false, Bool.false_and, Bool.or_true, Bool.true_or, Bool.or_false, Bool.false_or, undef, List.getElem?_map, hg, Option.map_some, tHu]
      refine lend1 (m := 1) h65 rfl rfl rfl ?_
      rintro o a ⟨rfl, ks2, xs2, clk2, M2, rfl⟩
      simp only [go_sem, Nat.reduceEqDiff, Nat.reduceAdd, Nat.reduceSub, Nat.reduceMul, Nat.reduceLT, Nat.reduceLeDiff, Nat.reduceMod, Nat.reduceDiv, Int.reduceToNat, Int.reduceLT, Int.reduceLE, Bool.not_true, Bool.not_false, reduceIte, Int.reduceEq, Int.reduceBEq, Int.reduceBNe, Int.reduceGT, Int.reduceGE, Int.reduceNeg, Int.reduceAdd, Int.reduceSub, Nat.reduceBEq, decide_true, decide_false, undef, beq_self_eq_true, bne_self_eq_false, Bool.and_true, Bool.true_and, Bool.and_false, Bool.false_and, Bool.or_true, Bool.true_or, Bool.or_false, Bool.false_or, undef, Out.ren, E.ren, E.rens, AO.ren]
      refine finDL_ret rfl rfl (answer_none.mono fun σ' h => ?_)
      subst h
      exact ⟨_, rfl, [], rfl, rfl, res_mk rfl⟩
    · simp only [go_sem, Nat.reduceEqDiff, Nat.reduceAdd, Nat.reduceSub, Nat.reduceMul, Nat.reduceLT, Nat.reduceLeDiff, Nat.reduceMod, Nat.reduceDiv, Int.reduceToNat, Int.reduceLT, Int.reduceLE, Bool.not_true, Bool.not_false, reduceIte, Int.reduceEq, Int.reduceBEq, Int.reduceBNe, Int.reduceGT, Int.reduceGE, Int.reduceNeg, Int.reduceAdd, Int.reduceSub, Nat.reduceBEq, decide_true, decide_false, undef, beq_self_eq_true, bne_self_eq_false, Bool.and_true, Bool.true_and, Bool.and_false, Bool.false_and, Bool.or_true, Bool.true_or, Bool.or_false, Bool.false_or, undef]
      refine hop _ _ fun _ _ => ?_
      simp only [go_sem, Nat.reduceEqDiff, Nat.reduceAdd, Nat.reduceSub, Nat.reduceMul, Nat.reduceLT, Nat.reduceLeDiff, Nat.reduceMod, Nat.reduceDiv, Int.reduceToNat, Int.reduceLT, Int.reduceLE, Bool.not_true, Bool.not_false, reduceIte, Int.reduceEq, Int.reduceBEq, Int.reduceBNe, Int.reduceGT, Int.reduceGE, Int.reduceNeg, Int.reduceAdd, Int.reduceSub, Nat.reduceBEq, decide_true, decide_false, undef, beq_self_eq_true, bne_self_eq_false, Bool.and_true, Bool.true_and, Bool.and_false, Bool.false_and, Bool.or_true, Bool.true_or, Bool.or_false, Bool.false_or, undef]
      refine awpL_gcpE [1, 3] [1, 2, 5, 6] { env := [(1, .t (vi n)), (2, .t (.ptr (.agg (su5 s)) 0)), (5, .ptr 0 0), (6, .vp [seaE s 1] 0)], σ := [.cells [.t (vi 0)], .map shN [] [] 0], df := [.call 43 [.ptr 0 0]] } rfl rfl rfl ?_
      simp only [su5, go_sem, Nat.reduceEqDiff, Nat.reduceAdd, Nat.reduceSub, Nat.reduceMul, Nat.reduceLT, Nat.reduceLeDiff, Nat.reduceMod, Nat.reduceDiv, Int.reduceToNat, Int.reduceLT, Int.reduceLE, Bool.not_true, Bool.not_false, reduceIte, Int.reduceEq, Int.reduceBEq, Int.reduceBNe, Int.reduceGT, Int.reduceGE, Int.reduceNeg, Int.reduceAdd, Int.reduceSub, Nat.reduceBEq, decide_true, decide_false, undef, beq_self_eq_true, bne_self_eq_false, Bool.and_true, Bool.true_and, Bool.and_false, Bool.false_and, Bool.or_true, Bool.true_or, Bool.or_false, Bool.false_or, undef, List.getElem?_map, hg, Option.map_some, tHu]
      refine lend1 (m := 1) h65 rfl rfl rfl ?_
      rintro o a ⟨rfl, ks2, xs2, clk2, M2, rfl⟩
      simp only [go_sem, Nat.reduceEqDiff, Nat.reduceAdd, Nat.reduceSub, Nat.reduceMul, Nat.reduceLT, Nat.reduceLeDiff, Nat.reduceMod, Nat.reduceDiv, Int.reduceToNat, Int.reduceLT, Int.reduceLE, Bool.not_true, Bool.not_false, reduceIte, Int.reduceEq, Int.reduceBEq, Int.reduceBNe, Int.reduceGT, Int.reduceGE, Int.reduceNeg, Int.reduceAdd, Int.reduceSub, Nat.reduceBEq, decide_true, decide_false, undef, beq_self_eq_true, bne_self_eq_false, Bool.and_true, Bool.true_and, Bool.and_false, Bool.false_and, Bool.or_true, Bool.true_or, Bool.or_false, Bool.false_or, undef, Out.ren, E.ren, E.rens, AO.ren]
      refine finDL_ret rfl rfl (answer_none.mono fun σ' h => ?_)
      subst h
      exact ⟨_, rfl, [], rfl, rfl, res_mk rfl⟩
  · simp only [go_sem, Nat.reduceEqDiff, Nat.reduceAdd, Nat.reduceSub, Nat.reduceMul, Nat.reduceLT, Nat.reduceLeDiff, Nat.reduceMod, Nat.reduceDiv, Int.reduceToNat, Int.reduceLT, Int.reduceLE, Bool.not_true, Bool.not_false, reduceIte, Int.reduceEq, Int.reduceBEq, Int.reduceBNe, Int.reduceGT, Int.reduceGE, Int.reduceNeg, Int.reduceAdd, Int.reduceSub, Nat.reduceBEq, decide_true, decide_false, undef, beq_self_eq_true, bne_self_eq_false, Bool.and_true, Bool.true_and, Bool.and_false, Bool.false_and, Bool.or_true, Bool.true_or, Bool.or_false, Bool.false_or, undef]
    refine ACallL.quiet1 h52 rfl rfl rfl ?_
    simp only [go_sem, Nat.reduceEqDiff, Nat.reduceAdd, Nat.reduceSub, Nat.reduceMul, Nat.reduceLT, Nat.reduceLeDiff, Nat.reduceMod, Nat.reduceDiv, Int.reduceToNat, Int.reduceLT, Int.reduceLE, Bool.not_true, Bool.not_false, reduceIte, Int.reduceEq, Int.reduceBEq, Int.reduceBNe, Int.reduceGT, Int.reduceGE, Int.reduceNeg, Int.reduceAdd, Int.reduceSub, Nat.reduceBEq, decide_true, decide_false, undef, beq_self_eq_true, bne_self_eq_false, Bool.and_true, Bool.true_and, Bool.and_false, Bool.false_and, Bool.or_true, Bool.true_or, Bool.or_false, Bool.false_or, undef]
    refine hop _ _ fun _ _ => ?_
    simp only [go_sem, Nat.reduceEqDiff, Nat.reduceAdd, Nat.reduceSub, Nat.reduceMul, Nat.reduceLT, Nat.reduceLeDiff, Nat.reduceMod, Nat.reduceDiv, Int.reduceToNat, Int.reduceLT, Int.reduceLE, Bool.not_true, Bool.not_false, reduceIte, Int.reduceEq, Int.reduceBEq, Int.reduceBNe, Int.reduceGT, Int.reduceGE, Int.reduceNeg, Int.reduceAdd, Int.reduceSub, Nat.reduceBEq, decide_true, decide_false, undef, beq_self_eq_true, bne_self_eq_false, Bool.and_true, Bool.true_and, Bool.and_false, Bool.false_and, Bool.or_true, Bool.true_or, Bool.or_false, Bool.false_or, undef]
    refine awpL_gcpE [1, 3] [1, 2, 5, 6] { env := [(1, .t (vi n)), (2, .t (.ptr (.agg (su5 s)) 0)), (5, .ptr 0 0), (6, .vp [seaE s 1] 0)], σ := [.cells [.t (vi 0)], .map shN [] [] 0], df := [.call 43 [.ptr 0 0]] } rfl rfl rfl ?_
    simp only [su5, go_sem, Nat.reduceEqDiff, Nat.reduceAdd, Nat.reduceSub, Nat.reduceMul, Nat.reduceLT, Nat.reduceLeDiff, Nat.reduceMod, Nat.reduceDiv, Int.reduceToNat, Int.reduceLT, Int.reduceLE, Bool.not_true, Bool.not_false, reduceIte, Int.reduceEq, Int.reduceBEq, Int.reduceBNe, Int.reduceGT, Int.reduceGE, Int.reduceNeg, Int.reduceAdd, Int.reduceSub, Nat.reduceBEq, decide_true, decide_false, undef, beq_self_eq_true, bne_self_eq_false, Bool.and_true, Bool.true_and, Bool.and_false, Bool.false_and, Bool.or_true, Bool.true_or, Bool.or_false, Bool.false_or, undef, List.getElem?_map, hg, Option.map_some, tHu]
    refine lend1 (m := 1) h65 rfl rfl rfl ?_
    rintro o a ⟨rfl, ks2, xs2, clk2, M2, rfl⟩
    simp only [go_sem, Nat.reduceEqDiff, Nat.reduceAdd, Nat.reduceSub, Nat.reduceMul, Nat.reduceLT, Nat.reduceLeDiff, Nat.reduceMod, Nat.reduceDiv, Int.reduceToNat, Int.reduceLT, Int.reduceLE, Bool.not_true, Bool.not_false, reduceIte, Int.reduceEq, Int.reduceBEq, Int.reduceBNe, Int.reduceGT, Int.reduceGE, Int.reduceNeg, Int.reduceAdd, Int.reduceSub, Nat.reduceBEq, decide_true, decide_false, undef, beq_self_eq_true, bne_self_eq_false, Bool.and_true, Bool.true_and, Bool.and_false, Bool.false_and, Bool.or_true, Bool.true_or, Bool.or_false, Bool.false_or, undef, Out.ren, E.ren, E.rens, AO.ren]
    refine finDL_ret rfl rfl (answer_none.mono fun σ' h => ?_)
    subst h
    exact ⟨_, rfl, [], rfl, rfl, res_mk rfl⟩
end Go.Proofs.YtmahocdmkpigjaaDoor

/- Compiled code of functions, printed by program; each is checked to be the program's. No conditions. -/
namespace Go.Proofs.YtmahocdmkpigjaaDoor
open Go Go.Ab
/-- dipworks/surf.Save -/
def c30 : AC :=
 .seq (.reg [⟨(some 2), none, .box (.tmp 0)⟩,
 ⟨(some 3), none, .box (.tmp 1)⟩,
 ⟨(some 4), none, .mov (.lit (.slice none 0 0))⟩,
 ⟨(some 5), none, .mov (.lit (.int .i64 0))⟩,
 ⟨(some 6), none, .alloc [(.int .i64 0)]⟩])
 (.seq (.reg [⟨none, none, .defer 43 [(.tmp 6)]⟩])
 (.seq (.draw (.step ⟨(some 18), none, .load true 5 (.tmp 2)⟩ (
 .step ⟨(some 19), none, .load false 1 (.tmp 3)⟩ (
 .ev ⟨(some 20), none, .call (.fn 46) [(.tmp 19), (.lit (.int .i64 0)), (.lit (.int .i64 5))]⟩ [⟨(some 18), none, .load true 5 (.tmp 2)⟩] (
 .ev ⟨(some 21), none, .call (.fn 44) [(.tmp 18), (.tmp 20)]⟩ [⟨(some 19), none, .load false 1 (.tmp 3)⟩] (
 .step ⟨(some 7), none, .mov (.tmp 21)⟩ (
 .done))
 (.stop))
 (.stop)))))
 (.seq (.reg [⟨(some 8), none, .alloc [(.int .i64 0), (.int .i64 0), (.int .i64 0), (.int .i64 0), (.int .i64 0)]⟩])
 (.seq (.reg [⟨(some 9), none, .alloc [(.int .i64 0)]⟩,
 ⟨none, none, .store 1 (.tmp 9) (.lit (.int .i64 0))⟩])
 (.seq (.seq (.reg [⟨(some 22), none, .faddr 4 (.tmp 2)⟩,
 ⟨(some 23), none, .load false 1 (.tmp 22)⟩,
 ⟨(some 24), none, .len (.tmp 23)⟩,
 ⟨(some 25), none, .mov (.lit (.int .i64 0))⟩])
 (.block 0 (.loop (.seq (.reg [⟨(some 26), none, .bin .lss (.tmp 25) (.tmp 24)⟩])
 (.seq (.cond (.tmp 26) (.skip)
 (.exit 0))
 (.seq (.block 1 (.seq (.reg [⟨(some 27), none, .mov (.tmp 25)⟩,
 ⟨(some 28), none, .iaddr 3 (.tmp 23) (.tmp 25)⟩,
 ⟨(some 29), none, .load true 3 (.tmp 28)⟩,
 ⟨(some 11), none, .alloc [(.int .i64 0), (.int .i64 0), (.int .i64 0)]⟩,
 ⟨(some 10), none, .mov (.tmp 27)⟩,
 ⟨none, none, .store 3 (.tmp 11) (.tmp 29)⟩])
 (.seq (.reg [⟨(some 30), none, .mov (.tmp 10)⟩,
 ⟨(some 31), none, .mov (.tmp 7)⟩,
 ⟨(some 32), none, .load true 3 (.tmp 11)⟩,
 ⟨(some 33), none, .call (.fn 62) [(.tmp 31), (.tmp 32)]⟩,
 ⟨(some 34), none, .iaddrA 5 1 (.tmp 8) (.tmp 30)⟩,
 ⟨none, none, .store 1 (.tmp 34) (.tmp 33)⟩])
 (.seq (.reg [⟨(some 35), none, .mov (.tmp 10)⟩,
 ⟨(some 36), none, .iaddrA 5 1 (.tmp 8) (.tmp 35)⟩,
 ⟨(some 37), none, .load false 1 (.tmp 36)⟩,
 ⟨(some 38), none, .bin .geq (.tmp 37) (.lit (.int .i64 0))⟩])
 (.cond (.tmp 38) (.draw (.step ⟨(some 39), none, .load false 1 (.tmp 9)⟩ (
 .step ⟨(some 40), none, .mov (.tmp 10)⟩ (
 .step ⟨(some 41), none, .bin .shl (.lit (.int .i64 1)) (.tmp 40)⟩ (
 .step ⟨(some 42), none, .bin .or (.tmp 39) (.tmp 41)⟩ (
 .ev ⟨none, none, .store 1 (.tmp 9) (.tmp 42)⟩ [] (
 .done)
 (.stop)))))))
 (.skip))))))
 (.reg [⟨(some 43), none, .bin .add (.tmp 25) (.lit (.int .i64 1))⟩,
 ⟨(some 25), none, .mov (.tmp 43)⟩])))))))
 (.seq (.reg [⟨(some 44), none, .faddr 4 (.tmp 2)⟩,
 ⟨(some 45), none, .load false 1 (.tmp 44)⟩,
 ⟨(some 46), none, .len (.tmp 45)⟩,
 ⟨(some 47), none, .mks 1 8 (.int .i64 0) (.tmp 46) (.tmp 46)⟩,
 ⟨(some 12), none, .alloc [(.slice none 0 0)]⟩,
 ⟨none, none, .store 1 (.tmp 12) (.tmp 47)⟩])
 (.seq (.reg [⟨(some 48), none, .build [(.int .i64 0), (.int .i64 0), (.int .i64 0), (.int .i64 0), (.int .i64 0), (.int .i64 0), (.int .i64 0), (.int .i64 0)] []⟩,
 ⟨(some 13), none, .alloc [(.int .i64 0), (.int .i64 0), (.int .i64 0), (.int .i64 0), (.int .i64 0), (.int .i64 0), (.int .i64 0), (.int .i64 0)]⟩,
 ⟨none, none, .store 8 (.tmp 13) (.tmp 48)⟩])
 (.seq (.reg [⟨(some 14), none, .alloc [.nilFunc]⟩])
 (.seq (.reg [⟨(some 49), none, .mkfn (.func 73) [] [(.tmp 12), (.tmp 9), (.tmp 14), (.tmp 8), (.tmp 13), (.tmp 3)]⟩,
 ⟨none, none, .store 1 (.tmp 14) (.tmp 49)⟩])
 (.seq (.seq (.reg [⟨(some 50), none, .load false 1 (.tmp 12)⟩,
 ⟨(some 51), none, .len (.tmp 50)⟩,
 ⟨(some 52), none, .bin .add (.tmp 51) (.lit (.int .i64 1))⟩,
 ⟨(some 53), none, .mov (.lit (.int .i64 0))⟩])
 (.block 2 (.loop (.seq (.reg [⟨(some 54), none, .bin .lss (.tmp 53) (.tmp 52)⟩])
 (.seq (.cond (.tmp 54) (.skip)
 (.exit 2))
 (.seq (.block 3 (.seq (.reg [⟨(some 55), none, .mov (.tmp 53)⟩,
 ⟨(some 15), none, .mov (.tmp 55)⟩])
 (.seq (.reg [⟨(some 56), none, .load false 1 (.tmp 12)⟩,
 ⟨(some 57), none, .len (.tmp 56)⟩,
 ⟨(some 58), none, .bin .shl (.lit (.int .i64 1)) (.tmp 57)⟩,
 ⟨(some 59), none, .mov (.lit (.int .i64 0))⟩])
 (.block 4 (.loop (.seq (.reg [⟨(some 60), none, .bin .lss (.tmp 59) (.tmp 58)⟩])
 (.seq (.cond (.tmp 60) (.skip)
 (.exit 4))
 (.seq (.block 5 (.seq (.reg [⟨(some 61), none, .mov (.tmp 59)⟩,
 ⟨(some 16), none, .mov (.tmp 61)⟩])
 (.seq (.seq (.reg [⟨(some 62), none, .mov (.tmp 16)⟩,
 ⟨(some 63), none, .conv .u64 (.tmp 62)⟩,
 ⟨(some 64), none, .call (.fn 74) [(.tmp 63)]⟩,
 ⟨(some 65), none, .mov (.tmp 15)⟩,
 ⟨(some 66), none, .bin .neq (.tmp 64) (.tmp 65)⟩,
 ⟨(some 67), none, .mov (.tmp 66)⟩,
 ⟨(some 68), (some (67, false)), .mov (.tmp 16)⟩,
 ⟨(some 69), (some (67, false)), .load false 1 (.tmp 9)⟩,
 ⟨(some 70), (some (67, false)), .bin .andNot (.tmp 68) (.tmp 69)⟩,
 ⟨(some 71), (some (67, false)), .bin .neq (.tmp 70) (.lit (.int .i64 0))⟩,
 ⟨(some 72), none, .pick (.tmp 67) (.lit (.bool true)) (.tmp 71)⟩,
 ⟨(some 73), none, .mov (.tmp 72)⟩,
 ⟨(some 74), (some (73, false)), .load false 1 (.tmp 14)⟩,
 ⟨(some 75), (some (73, false)), .mov (.tmp 16)⟩,
 ⟨(some 76), (some (73, false)), .call (.tmp 74) [(.lit (.int .i64 0)), (.tmp 75)]⟩,
 ⟨(some 77), (some (73, false)), .un .not (.tmp 76)⟩,
 ⟨(some 78), none, .pick (.tmp 73) (.lit (.bool true)) (.tmp 77)⟩])
 (.cond (.tmp 78) (.exit 5)
 (.skip)))
 (.seq (.reg [⟨(some 79), none, .load false 1 (.tmp 12)⟩,
 ⟨(some 80), none, .len (.tmp 79)⟩,
 ⟨(some 81), none, .mks 1 8 (.int .i64 0) (.tmp 80) (.tmp 80)⟩,
 ⟨(some 17), none, .mov (.tmp 81)⟩])
 (.seq (.reg [⟨(some 82), none, .mov (.tmp 17)⟩,
 ⟨(some 83), none, .load false 1 (.tmp 12)⟩,
 ⟨(some 84), none, .cpy 1 (.tmp 82) (.tmp 83)⟩])
 (.seq (.reg [⟨(some 85), none, .mov (.tmp 17)⟩,
 ⟨(some 86), none, .mov (.tmp 16)⟩,
 ⟨(some 4), none, .mov (.tmp 85)⟩,
 ⟨(some 5), none, .mov (.tmp 86)⟩,
 ⟨none, none, .store 1 (.tmp 6) (.lit (.int .i64 0))⟩])
 (.ret)))))))
 (.reg [⟨(some 87), none, .bin .add (.tmp 59) (.lit (.int .i64 1))⟩,
 ⟨(some 59), none, .mov (.tmp 87)⟩])))))))))
 (.reg [⟨(some 88), none, .bin .add (.tmp 53) (.lit (.int .i64 1))⟩,
 ⟨(some 53), none, .mov (.tmp 88)⟩])))))))
 (.seq (.reg [⟨(some 4), none, .mov (.lit (.slice none 0 0))⟩,
 ⟨(some 5), none, .mov (.lit (.int .i64 0))⟩,
 ⟨none, none, .store 1 (.tmp 6) (.lit (.int .i64 0))⟩])
 (.ret))))))))))))
theorem k30 : FnC Tryd.prog 30 89 [4, 5, 6] [] [.tmp 4, .tmp 5, .cell 6 false 1] c30 2 := ⟨Tryd.f30, _, Tryd.func30, rfl, by decide, rfl, by decide, by kernel_rfl, by kernel_rfl⟩
/-- dipworks/surf.Save$1 -/
def c73 : AC :=
 .seq (.reg [⟨(some 10), none, .mov (.lit (.bool false))⟩])
 (.seq (.seq (.reg [⟨(some 12), none, .mov (.tmp 0)⟩,
 ⟨(some 13), none, .load false 1 (.tmp 2)⟩,
 ⟨(some 14), none, .len (.tmp 13)⟩,
 ⟨(some 15), none, .bin .eql (.tmp 12) (.tmp 14)⟩])
 (.cond (.tmp 15) (.seq (.reg [⟨(some 10), none, .mov (.lit (.bool true))⟩])
 (.ret))
 (.skip)))
 (.seq (.seq (.reg [⟨(some 16), none, .load false 1 (.tmp 2)⟩,
 ⟨(some 17), none, .mov (.tmp 0)⟩,
 ⟨(some 18), none, .iaddr 1 (.tmp 16) (.tmp 17)⟩,
 ⟨none, none, .store 1 (.tmp 18) (.lit (.int .i64 (-1)))⟩])
 (.seq (.reg [⟨(some 19), none, .load false 1 (.tmp 3)⟩,
 ⟨(some 20), none, .mov (.tmp 1)⟩,
 ⟨(some 21), none, .bin .andNot (.tmp 19) (.tmp 20)⟩,
 ⟨(some 22), none, .mov (.tmp 0)⟩,
 ⟨(some 23), none, .bin .shr (.tmp 21) (.tmp 22)⟩,
 ⟨(some 24), none, .bin .and (.tmp 23) (.lit (.int .i64 1))⟩,
 ⟨(some 25), none, .bin .eql (.tmp 24) (.lit (.int .i64 0))⟩])
 (.cond (.tmp 25) (.seq (.reg [⟨(some 26), none, .load false 1 (.tmp 4)⟩,
 ⟨(some 27), none, .mov (.tmp 0)⟩,
 ⟨(some 28), none, .bin .add (.tmp 27) (.lit (.int .i64 1))⟩,
 ⟨(some 29), none, .mov (.tmp 1)⟩,
 ⟨(some 30), none, .call (.tmp 26) [(.tmp 28), (.tmp 29)]⟩,
 ⟨(some 10), none, .mov (.tmp 30)⟩])
 (.ret))
 (.skip))))
 (.seq (.seq (.reg [⟨(some 31), none, .mov (.tmp 0)⟩,
 ⟨(some 32), none, .iaddrA 5 1 (.tmp 5) (.tmp 31)⟩,
 ⟨(some 33), none, .load false 1 (.tmp 32)⟩,
 ⟨(some 34), none, .mov (.lit (.int .i64 0))⟩])
 (.block 0 (.loop (.seq (.reg [⟨(some 35), none, .bin .lss (.tmp 34) (.tmp 33)⟩])
 (.seq (.cond (.tmp 35) (.skip)
 (.exit 0))
 (.seq (.block 1 (.seq (.reg [⟨(some 36), none, .mov (.tmp 34)⟩,
 ⟨(some 11), none, .mov (.tmp 36)⟩])
 (.seq (.seq (.draw (.step ⟨(some 37), none, .mov (.tmp 11)⟩ (
 .step ⟨(some 38), none, .iaddrA 8 1 (.tmp 6) (.tmp 37)⟩ (
 .step ⟨(some 39), none, .load false 1 (.tmp 38)⟩ (
 .step ⟨(some 40), none, .load false 1 (.tmp 7)⟩ (
 .step ⟨(some 41), none, .bin .eql (.tmp 39) (.tmp 40)⟩ (
 .done)))))))
 (.cond (.tmp 41) (.exit 1)
 (.skip)))
 (.seq (.reg [⟨(some 42), none, .mov (.tmp 11)⟩,
 ⟨(some 43), none, .iaddrA 8 1 (.tmp 6) (.tmp 42)⟩,
 ⟨(some 44), none, .load false 1 (.tmp 43)⟩,
 ⟨(some 45), none, .bin .add (.tmp 44) (.lit (.int .i64 1))⟩,
 ⟨(some 46), none, .iaddrA 8 1 (.tmp 6) (.tmp 42)⟩,
 ⟨none, none, .store 1 (.tmp 46) (.tmp 45)⟩])
 (.seq (.reg [⟨(some 47), none, .load false 1 (.tmp 2)⟩,
 ⟨(some 48), none, .mov (.tmp 0)⟩,
 ⟨(some 49), none, .mov (.tmp 11)⟩,
 ⟨(some 50), none, .iaddr 1 (.tmp 47) (.tmp 48)⟩,
 ⟨none, none, .store 1 (.tmp 50) (.tmp 49)⟩])
 (.seq (.seq (.reg [⟨(some 51), none, .load false 1 (.tmp 4)⟩,
 ⟨(some 52), none, .mov (.tmp 0)⟩,
 ⟨(some 53), none, .bin .add (.tmp 52) (.lit (.int .i64 1))⟩,
 ⟨(some 54), none, .mov (.tmp 1)⟩,
 ⟨(some 55), none, .call (.tmp 51) [(.tmp 53), (.tmp 54)]⟩])
 (.cond (.tmp 55) (.seq (.reg [⟨(some 10), none, .mov (.lit (.bool true))⟩])
 (.ret))
 (.skip)))
 (.reg [⟨(some 56), none, .mov (.tmp 11)⟩,
 ⟨(some 57), none, .iaddrA 8 1 (.tmp 6) (.tmp 56)⟩,
 ⟨(some 58), none, .load false 1 (.tmp 57)⟩,
 ⟨(some 59), none, .bin .sub (.tmp 58) (.lit (.int .i64 1))⟩,
 ⟨(some 60), none, .iaddrA 8 1 (.tmp 6) (.tmp 56)⟩,
 ⟨none, none, .store 1 (.tmp 60) (.tmp 59)⟩])))))))
 (.reg [⟨(some 61), none, .bin .add (.tmp 34) (.lit (.int .i64 1))⟩,
 ⟨(some 34), none, .mov (.tmp 61)⟩])))))))
 (.seq (.reg [⟨(some 10), none, .mov (.lit (.bool false))⟩])
 (.ret)))))
theorem k73 : FnC Tryd.prog 73 62 [] [] [.tmp 10] c73 8 := ⟨Tryd.f73, _, Tryd.func73, rfl, by decide, rfl, by decide, by kernel_rfl, by kernel_rfl⟩
/-- math/bits.OnesCount -/
def c74 : AC :=
 .seq (.reg [⟨(some 2), none, .mov (.lit (.int .i64 0))⟩])
 (.seq (.cond (.lit (.bool false)) (.seq (.reg [⟨(some 3), none, .mov (.tmp 0)⟩,
 ⟨(some 4), none, .conv .u32 (.tmp 3)⟩,
 ⟨(some 5), none, .call (.fn 86) [(.tmp 4)]⟩,
 ⟨(some 2), none, .mov (.tmp 5)⟩])
 (.ret))
 (.skip))
 (.seq (.reg [⟨(some 6), none, .mov (.tmp 0)⟩,
 ⟨(some 7), none, .call (.fn 87) [(.tmp 6)]⟩,
 ⟨(some 2), none, .mov (.tmp 7)⟩])
 (.ret)))
theorem k74 : FnC Tryd.prog 74 8 [] [] [.tmp 2] c74 1 := ⟨Tryd.f74, _, Tryd.func74, rfl, by decide, rfl, by decide, by kernel_rfl, by kernel_rfl⟩
/-- math/bits.OnesCount32 -/
def c86 : AC :=
 .seq (.reg [⟨(some 2), none, .mov (.lit (.int .i64 0))⟩])
 (.seq (.draw (.step ⟨(some 3), none, .mov (.tmp 0)⟩ (
 .step ⟨(some 4), none, .bin .shr (.tmp 3) (.lit (.int .u64 24))⟩ (
 .step ⟨(some 5), none, .sidx [0, 1, 1, 2, 1, 2, 2, 3, 1, 2, 2, 3, 2, 3, 3, 4, 1, 2, 2, 3, 2, 3, 3, 4, 2, 3, 3, 4, 3, 4, 4, 5, 1, 2, 2, 3, 2, 3, 3, 4, 2, 3, 3, 4, 3, 4, 4, 5, 2, 3, 3, 4, 3, 4, 4, 5, 3, 4, 4, 5, 4, 5, 5, 6, 1, 2, 2, 3, 2, 3, 3, 4, 2, 3, 3, 4, 3, 4, 4, 5, 2, 3, 3, 4, 3, 4, 4, 5, 3, 4, 4, 5, 4, 5, 5, 6, 2, 3, 3, 4, 3, 4, 4, 5, 3, 4, 4, 5, 4, 5, 5, 6, 3, 4, 4, 5, 4, 5, 5, 6, 4, 5, 5, 6, 5, 6, 6, 7, 1, 2, 2, 3, 2, 3, 3, 4, 2, 3, 3, 4, 3, 4, 4, 5, 2, 3, 3, 4, 3, 4, 4, 5, 3, 4, 4, 5, 4, 5, 5, 6, 2, 3, 3, 4, 3, 4, 4, 5, 3, 4, 4, 5, 4, 5, 5, 6, 3, 4, 4, 5, 4, 5, 5, 6, 4, 5, 5, 6, 5, 6, 6, 7, 2, 3, 3, 4, 3, 4, 4, 5, 3, 4, 4, 5, 4, 5, 5, 6, 3, 4, 4, 5, 4, 5, 5, 6, 4, 5, 5, 6, 5, 6, 6, 7, 3, 4, 4, 5, 4, 5, 5, 6, 4, 5, 5, 6, 5, 6, 6, 7, 4, 5, 5, 6, 5, 6, 6, 7, 5, 6, 6, 7, 6, 7, 7, 8] (.tmp 4)⟩ (
 .step ⟨(some 6), none, .mov (.tmp 0)⟩ (
 .step ⟨(some 7), none, .bin .shr (.tmp 6) (.lit (.int .u64 16))⟩ (
 .step ⟨(some 8), none, .bin .and (.tmp 7) (.lit (.int .u32 255))⟩ (
 .step ⟨(some 9), none, .sidx [0, 1, 1, 2, 1, 2, 2, 3, 1, 2, 2, 3, 2, 3, 3, 4, 1, 2, 2, 3, 2, 3, 3, 4, 2, 3, 3, 4, 3, 4, 4, 5, 1, 2, 2, 3, 2, 3, 3, 4, 2, 3, 3, 4, 3, 4, 4, 5, 2, 3, 3, 4, 3, 4, 4, 5, 3, 4, 4, 5, 4, 5, 5, 6, 1, 2, 2, 3, 2, 3, 3, 4, 2, 3, 3, 4, 3, 4, 4, 5, 2, 3, 3, 4, 3, 4, 4, 5, 3, 4, 4, 5, 4, 5, 5, 6, 2, 3, 3, 4, 3, 4, 4, 5, 3, 4, 4, 5, 4, 5, 5, 6, 3, 4, 4, 5, 4, 5, 5, 6, 4, 5, 5, 6, 5, 6, 6, 7, 1, 2, 2, 3, 2, 3, 3, 4, 2, 3, 3, 4, 3, 4, 4, 5, 2, 3, 3, 4, 3, 4, 4, 5, 3, 4, 4, 5, 4, 5, 5, 6, 2, 3, 3, 4, 3, 4, 4, 5, 3, 4, 4, 5, 4, 5, 5, 6, 3, 4, 4, 5, 4, 5, 5, 6, 4, 5, 5, 6, 5, 6, 6, 7, 2, 3, 3, 4, 3, 4, 4, 5, 3, 4, 4, 5, 4, 5, 5, 6, 3, 4, 4, 5, 4, 5, 5, 6, 4, 5, 5, 6, 5, 6, 6, 7, 3, 4, 4, 5, 4, 5, 5, 6, 4, 5, 5, 6, 5, 6, 6, 7, 4, 5, 5, 6, 5, 6, 6, 7, 5, 6, 6, 7, 6, 7, 7, 8] (.tmp 8)⟩ (
 .step ⟨(some 10), none, .bin .add (.tmp 5) (.tmp 9)⟩ (
 .step ⟨(some 11), none, .mov (.tmp 0)⟩ (
 .step ⟨(some 12), none, .bin .shr (.tmp 11) (.lit (.int .u64 8))⟩ (
 .step ⟨(some 13), none, .bin .and (.tmp 12) (.lit (.int .u32 255))⟩ (
 .step ⟨(some 14), none, .sidx [0, 1, 1, 2, 1, 2, 2, 3, 1, 2, 2, 3, 2, 3, 3, 4, 1, 2, 2, 3, 2, 3, 3, 4, 2, 3, 3, 4, 3, 4, 4, 5, 1, 2, 2, 3, 2, 3, 3, 4, 2, 3, 3, 4, 3, 4, 4, 5, 2, 3, 3, 4, 3, 4, 4, 5, 3, 4, 4, 5, 4, 5, 5, 6, 1, 2, 2, 3, 2, 3, 3, 4, 2, 3, 3, 4, 3, 4, 4, 5, 2, 3, 3, 4, 3, 4, 4, 5, 3, 4, 4, 5, 4, 5, 5, 6, 2, 3, 3, 4, 3, 4, 4, 5, 3, 4, 4, 5, 4, 5, 5, 6, 3, 4, 4, 5, 4, 5, 5, 6, 4, 5, 5, 6, 5, 6, 6, 7, 1, 2, 2, 3, 2, 3, 3, 4, 2, 3, 3, 4, 3, 4, 4, 5, 2, 3, 3, 4, 3, 4, 4, 5, 3, 4, 4, 5, 4, 5, 5, 6, 2, 3, 3, 4, 3, 4, 4, 5, 3, 4, 4, 5, 4, 5, 5, 6, 3, 4, 4, 5, 4, 5, 5, 6, 4, 5, 5, 6, 5, 6, 6, 7, 2, 3, 3, 4, 3, 4, 4, 5, 3, 4, 4, 5, 4, 5, 5, 6, 3, 4, 4, 5, 4, 5, 5, 6, 4, 5, 5, 6, 5, 6, 6, 7, 3, 4, 4, 5, 4, 5, 5, 6, 4, 5, 5, 6, 5, 6, 6, 7, 4, 5, 5, 6, 5, 6, 6, 7, 5, 6, 6, 7, 6, 7, 7, 8] (.tmp 13)⟩ (
 .step ⟨(some 15), none, .bin .add (.tmp 10) (.tmp 14)⟩ (
 .step ⟨(some 16), none, .mov (.tmp 0)⟩ (
 .step ⟨(some 17), none, .bin .and (.tmp 16) (.lit (.int .u32 255))⟩ (
 .step ⟨(some 18), none, .sidx [0, 1, 1, 2, 1, 2, 2, 3, 1, 2, 2, 3, 2, 3, 3, 4, 1, 2, 2, 3, 2, 3, 3, 4, 2, 3, 3, 4, 3, 4, 4, 5, 1, 2, 2, 3, 2, 3, 3, 4, 2, 3, 3, 4, 3, 4, 4, 5, 2, 3, 3, 4, 3, 4, 4, 5, 3, 4, 4, 5, 4, 5, 5, 6, 1, 2, 2, 3, 2, 3, 3, 4, 2, 3, 3, 4, 3, 4, 4, 5, 2, 3, 3, 4, 3, 4, 4, 5, 3, 4, 4, 5, 4, 5, 5, 6, 2, 3, 3, 4, 3, 4, 4, 5, 3, 4, 4, 5, 4, 5, 5, 6, 3, 4, 4, 5, 4, 5, 5, 6, 4, 5, 5, 6, 5, 6, 6, 7, 1, 2, 2, 3, 2, 3, 3, 4, 2, 3, 3, 4, 3, 4, 4, 5, 2, 3, 3, 4, 3, 4, 4, 5, 3, 4, 4, 5, 4, 5, 5, 6, 2, 3, 3, 4, 3, 4, 4, 5, 3, 4, 4, 5, 4, 5, 5, 6, 3, 4, 4, 5, 4, 5, 5, 6, 4, 5, 5, 6, 5, 6, 6, 7, 2, 3, 3, 4, 3, 4, 4, 5, 3, 4, 4, 5, 4, 5, 5, 6, 3, 4, 4, 5, 4, 5, 5, 6, 4, 5, 5, 6, 5, 6, 6, 7, 3, 4, 4, 5, 4, 5, 5, 6, 4, 5, 5, 6, 5, 6, 6, 7, 4, 5, 5, 6, 5, 6, 6, 7, 5, 6, 6, 7, 6, 7, 7, 8] (.tmp 17)⟩ (
 .step ⟨(some 19), none, .bin .add (.tmp 15) (.tmp 18)⟩ (
 .step ⟨(some 20), none, .conv .i64 (.tmp 19)⟩ (
 .step ⟨(some 2), none, .mov (.tmp 20)⟩ (
 .done)))))))))))))))))))))
 (.ret))
theorem k86 : FnC Tryd.prog 86 21 [] [] [.tmp 2] c86 1 := ⟨Tryd.f86, _, Tryd.func86, rfl, by decide, rfl, by decide, by kernel_rfl, by kernel_rfl⟩
/-- math/bits.OnesCount64 -/
def c87 : AC :=
 .seq (.reg [⟨(some 2), none, .mov (.lit (.int .i64 0))⟩])
 (.seq (.reg [⟨(some 3), none, .mov (.tmp 0)⟩,
 ⟨(some 4), none, .bin .shr (.tmp 3) (.lit (.int .u64 1))⟩,
 ⟨(some 5), none, .bin .and (.tmp 4) (.lit (.int .u64 6148914691236517205))⟩,
 ⟨(some 6), none, .mov (.tmp 0)⟩,
 ⟨(some 7), none, .bin .and (.tmp 6) (.lit (.int .u64 6148914691236517205))⟩,
 ⟨(some 8), none, .bin .add (.tmp 5) (.tmp 7)⟩,
 ⟨(some 0), none, .mov (.tmp 8)⟩])
 (.seq (.reg [⟨(some 9), none, .mov (.tmp 0)⟩,
 ⟨(some 10), none, .bin .shr (.tmp 9) (.lit (.int .u64 2))⟩,
 ⟨(some 11), none, .bin .and (.tmp 10) (.lit (.int .u64 3689348814741910323))⟩,
 ⟨(some 12), none, .mov (.tmp 0)⟩,
 ⟨(some 13), none, .bin .and (.tmp 12) (.lit (.int .u64 3689348814741910323))⟩,
 ⟨(some 14), none, .bin .add (.tmp 11) (.tmp 13)⟩,
 ⟨(some 0), none, .mov (.tmp 14)⟩])
 (.seq (.reg [⟨(some 15), none, .mov (.tmp 0)⟩,
 ⟨(some 16), none, .bin .shr (.tmp 15) (.lit (.int .u64 4))⟩,
 ⟨(some 17), none, .mov (.tmp 0)⟩,
 ⟨(some 18), none, .bin .add (.tmp 16) (.tmp 17)⟩,
 ⟨(some 19), none, .bin .and (.tmp 18) (.lit (.int .u64 1085102592571150095))⟩,
 ⟨(some 0), none, .mov (.tmp 19)⟩])
 (.seq (.reg [⟨(some 20), none, .mov (.tmp 0)⟩,
 ⟨(some 21), none, .mov (.tmp 0)⟩,
 ⟨(some 22), none, .bin .shr (.tmp 21) (.lit (.int .u64 8))⟩,
 ⟨(some 23), none, .bin .add (.tmp 20) (.tmp 22)⟩,
 ⟨(some 0), none, .mov (.tmp 23)⟩])
 (.seq (.reg [⟨(some 24), none, .mov (.tmp 0)⟩,
 ⟨(some 25), none, .mov (.tmp 0)⟩,
 ⟨(some 26), none, .bin .shr (.tmp 25) (.lit (.int .u64 16))⟩,
 ⟨(some 27), none, .bin .add (.tmp 24) (.tmp 26)⟩,
 ⟨(some 0), none, .mov (.tmp 27)⟩])
 (.seq (.reg [⟨(some 28), none, .mov (.tmp 0)⟩,
 ⟨(some 29), none, .mov (.tmp 0)⟩,
 ⟨(some 30), none, .bin .shr (.tmp 29) (.lit (.int .u64 32))⟩,
 ⟨(some 31), none, .bin .add (.tmp 28) (.tmp 30)⟩,
 ⟨(some 0), none, .mov (.tmp 31)⟩])
 (.seq (.reg [⟨(some 32), none, .mov (.tmp 0)⟩,
 ⟨(some 33), none, .conv .i64 (.tmp 32)⟩,
 ⟨(some 34), none, .bin .and (.tmp 33) (.lit (.int .i64 127))⟩,
 ⟨(some 2), none, .mov (.tmp 34)⟩])
 (.ret))))))))
theorem k87 : FnC Tryd.prog 87 35 [] [] [.tmp 2] c87 1 := ⟨Tryd.f87, _, Tryd.func87, rfl, by decide, rfl, by decide, by kernel_rfl, by kernel_rfl⟩
end Go.Proofs.YtmahocdmkpigjaaDoor

/- Package surf: the closure that gives an hour to each hut. -/
namespace Go.Proofs.YtmahocdmkpigjaaDoor
open Go Go.Ab

/-- Hours for so many huts, from one on: in order, as soon as each can. -/
def solve (can : Nat) (fs : List Int) (many : Int) (left : Nat) : Nat → Nat → List Nat → Option (List Int)
  | 0, _, _ => some []
  | l + 1, hut, full => if (ndiff can left).testBit hut then
      (List.range (fs.getD hut 0).toNat).findSome? fun h => if ((full.getD h 0 : Nat) : Int) = many then none else (solve can fs many left l (hut + 1) (full.set h (full.getD h 0 + 1))).map fun q => (h : Int) :: q
    else (solve can fs many left l (hut + 1) full).map fun q => -1 :: q
theorem findSome_range_none {α : Type} {f : Nat → Option α} {N : Nat} (h : ∀ i < N, f i = none) : (List.range N).findSome? f = none := by
  rw [List.findSome?_eq_none_iff]
  intro i hi
  exact h i (List.mem_range.1 hi)
theorem findSome_range_at {α : Type} {f : Nat → Option α} {x : α} : ∀ {N j : Nat}, (∀ i < j, f i = none) → f j = some x → j < N → (List.range N).findSome? f = some x
  | N + 1, j, h, hj, hl => by
    rw [List.range_succ, List.findSome?_append]
    by_cases c : j < N
    · rw [findSome_range_at h hj c]; rfl
    · have : j = N := by omega
      subst this
      rw [findSome_range_none h, List.findSome?_cons, hj]; rfl

/-- What the closure has caught, and its objects. -/
def capO (n can : Nat) (fs : List Int) (many : Int) : List E := [.vp [.loc 2 n] 0, .t (.ptr (.agg [vi can]) 0), .ptr 0 0, .t (.ptr (.agg (fs.map fun z : Int => vi z)) 0), .ptr 1 0, .t (.ptr (.agg [vi many]) 0)]
def σO (n can : Nat) (fs : List Int) (many : Int) (full : List Nat) (P : List Int) : List AO := [.cells [.fn (.func 73) [] (capO n can fs many)], .cells ((full.map fun z : Nat => vi z).map .t), .row 1 ((P.map fun z : Int => vi z).map .t)]

theorem set_take {α : Type} (P : List α) {i : Nat} (v : α) (h : i < P.length) : (P.set i v).take (i + 1) = P.take i ++ [v] := by
  rw [List.take_succ_eq_append_getElem (by simpa using h), List.take_set_of_le (Nat.le_refl i), List.getElem_set_self]
theorem set_back (l : List Nat) {i x : Nat} (y : Nat) (h : l[i]? = some x) : (l.set i y).set i x = l := by
  rw [List.set_set]
  obtain ⟨hl, e⟩ := List.getElem?_eq_some_iff.1 h
  rw [← e]; exact List.set_getElem_self hl

theorem gcO (n can : Nat) (fs : List Int) (many : Int) (full : List Nat) (P : List Int) : σgc [0, 1, 2] (σO n can fs many full P) 12 = σO n can fs many full P := by
  show [AO.cells _, AO.cells ((List.map E.t _).map (E.gc _ _ _)), AO.row 1 ((List.map E.t _).map (E.gc _ _ _))] = _
  rw [gc_row, gc_row]
  rfl
def onR (n can : Nat) (fs : List Int) (many : Int) (full : List Nat) (P : List Int) (hut : Nat) (r : Option (List Int)) : Out → List AO → Prop := fun o σ' => match r with
  | some q => o = .ret (.t (vb true)) ∧ ∃ full' : List Nat, full'.length = 8 ∧ σ' = σO n can fs many full' (P.take hut ++ q)
  | none => o = .ret (.t (vb false)) ∧ ∃ X : List Int, X.length = n - hut ∧ σ' = σO n can fs many full (P.take hut ++ X)

set_option maxRecDepth 8000 in
set_option maxHeartbeats 8000000 in
theorem on_ok (n can : Nat) (fs : List Int) (many : Int) (left : Nat) (hn : n ≤ 5) (hc : can < 256) (hlf : left < 256) (hfl : fs.length = 5) (hfb : ∀ x ∈ fs, x ≤ 8) : ∀ (l hut : Nat) (full : List Nat) (P : List Int), hut + l = n → P.length = n → full.length = 8 → (∀ x ∈ full, x ≤ hut) →
    ACall Tryd.prog 73 (.t (vi hut) :: .t (vi left) :: capO n can fs many) (σO n can fs many full P) (onR n can fs many full P hut (solve can fs many left l hut full))
  | 0, hut, full, P, hl, hP, hF, hFb => by
    refine ACall.walk k73 ?_
    unfold c73 capO σO
    have hh : ((hut : Int) == (n : Int)) = true := by rw [beq_iff_eq]; omega
    simp only [go_sem, Nat.reduceEqDiff, Nat.reduceAdd, Nat.reduceSub, Nat.reduceMul, Nat.reduceLT, Nat.reduceLeDiff, Nat.reduceMod, Nat.reduceDiv, Int.reduceToNat, Int.reduceLT, Int.reduceLE, Bool.not_true, Bool.not_false, reduceIte, Int.reduceEq, Int.reduceBEq, Int.reduceBNe, Int.reduceGT, Int.reduceGE, Int.reduceNeg, Int.reduceAdd, Int.reduceSub, Nat.reduceBEq, decide_true, decide_false, undef, beq_self_eq_true, bne_self_eq_false, Bool.and_true, Bool.true_and, Bool.and_false, Bool.false_and, Bool.or_true, Bool.true_or, Bool.or_false, Bool.false_or, rowLen, AO.len?, List.length_map, hP, hh]
    refine finL_ret [0, 1, 2] ⟨rfl, rfl, rfl, rfl, _, rfl, rfl, full, hF, ?_⟩
    rw [List.append_nil, List.take_of_length_le (by omega)]
    show [AO.cells _, AO.cells ((List.map E.t _).map (E.gc _ _ _)), AO.row 1 ((List.map E.t _).map (E.gc _ _ _))] = _
    rw [gc_row, gc_row]
    rfl
  | l + 1, hut, full, P, hl, hP, hF, hFb => by
    refine ACall.walk k73 ?_
    unfold c73 capO σO
    have hh : ((hut : Int) == (n : Int)) = false := by rw [beq_eq_false_iff_ne]; omega
    have hhn : (hut : Int) < (n : Int) := by omega
    have hp : P[hut]? = some P[hut] := List.getElem?_eq_getElem (by omega)
    have han := bits_andNot (a := can) (b := left) (by omega) (by omega)
    have hnd := ndiff_le can left
    have hb0 := bit_eq0 (a := ndiff can left) (i := hut) (by omega)
    have hu0 : ((hut : Int) < 0) = False := by simp
    have hw : IntKind.i64.wrap ((hut : Int) + 1) = ((hut + 1 : Nat) : Int) := by rw [wrap_id (by omega) (by omega)]; omega
    have hsol : solve can fs many left (l + 1) hut full = if (ndiff can left).testBit hut then
      (List.range (fs.getD hut 0).toNat).findSome? fun h => if ((full.getD h 0 : Nat) : Int) = many then none else (solve can fs many left l (hut + 1) (full.set h (full.getD h 0 + 1))).map fun q => (h : Int) :: q
      else (solve can fs many left l (hut + 1) full).map fun q => -1 :: q := rfl
    have hset : ∀ (Q : List Int) (v : Int), ((Q.map fun z : Int => vi z).map E.t).set hut (.t (vi v)) = ((Q.set hut v).map fun z : Int => vi z).map E.t := fun Q v => by rw [List.map_set, List.map_set]
    generalize P[hut] = p0 at *
    simp only [go_sem, Nat.reduceEqDiff, Nat.reduceAdd, Nat.reduceSub, Nat.reduceMul, Nat.reduceLT, Nat.reduceLeDiff, Nat.reduceMod, Nat.reduceDiv, Int.reduceToNat, Int.reduceLT, Int.reduceLE, Bool.not_true, Bool.not_false, reduceIte, Int.reduceEq, Int.reduceBEq, Int.reduceBNe, Int.reduceGT, Int.reduceGE, Int.reduceNeg, Int.reduceAdd, Int.reduceSub, Nat.reduceBEq, decide_true, decide_false, undef, beq_self_eq_true, bne_self_eq_false, Bool.and_true, Bool.true_and, Bool.and_false, Bool.false_and, Bool.or_true, Bool.true_or, Bool.or_false, Bool.false_or, rowLen, AO.len?, List.length_map, hP, hh, hhn, List.getElem?_map, hp, Option.map_some, han, hb0, hu0, hset]
    cases hb : (ndiff can left).testBit hut
    · rw [hb, if_neg (by simp)] at hsol
      have ih := on_ok n can fs many left hn hc hlf hfl hfb l (hut + 1) full (P.set hut (-1)) (by omega) (by simpa using hP) hF (fun x hx => by have := hFb x hx; omega)
      unfold capO σO at ih
      simp only [go_sem, Nat.reduceEqDiff, Nat.reduceAdd, Nat.reduceSub, Nat.reduceMul, Nat.reduceLT, Nat.reduceLeDiff, Nat.reduceMod, Nat.reduceDiv, Int.reduceToNat, Int.reduceLT, Int.reduceLE, Bool.not_true, Bool.not_false, reduceIte, Int.reduceEq, Int.reduceBEq, Int.reduceBNe, Int.reduceGT, Int.reduceGE, Int.reduceNeg, Int.reduceAdd, Int.reduceSub, Nat.reduceBEq, decide_true, decide_false, undef, beq_self_eq_true, bne_self_eq_false, Bool.and_true, Bool.true_and, Bool.and_false, Bool.false_and, Bool.or_true, Bool.true_or, Bool.or_false, Bool.false_or, hb, hw]
      refine ACallL.of ih ?_
      intro o σ' h
      cases hr : solve can fs many left l (hut + 1) full with
      | some q =>
        rw [hr] at h hsol
        obtain ⟨rfl, full', hf', rfl⟩ := (h : _ ∧ _)
        rw [hsol]
        simp only [σO, go_sem, Nat.reduceEqDiff, Nat.reduceAdd, Nat.reduceSub, Nat.reduceMul, Nat.reduceLT, Nat.reduceLeDiff, Nat.reduceMod, Nat.reduceDiv, Int.reduceToNat, Int.reduceLT, Int.reduceLE, Bool.not_true, Bool.not_false, reduceIte, Int.reduceEq, Int.reduceBEq, Int.reduceBNe, Int.reduceGT, Int.reduceGE, Int.reduceNeg, Int.reduceAdd, Int.reduceSub, Nat.reduceBEq, decide_true, decide_false, undef, beq_self_eq_true, bne_self_eq_false, Bool.and_true, Bool.true_and, Bool.and_false, Bool.false_and, Bool.or_true, Bool.true_or, Bool.or_false, Bool.false_or, undef]
        refine finL_ret [0, 1, 2] ⟨rfl, rfl, rfl, rfl, _, rfl, rfl, full', hf', ?_⟩
        refine (gcO n can fs many full' _).trans ?_
        rw [set_take P (-1) (by omega), List.append_assoc]
        rfl
      | none =>
        rw [hr] at h hsol
        obtain ⟨rfl, X, hX, rfl⟩ := (h : _ ∧ _)
        rw [hsol]
        simp only [σO, go_sem, Nat.reduceEqDiff, Nat.reduceAdd, Nat.reduceSub, Nat.reduceMul, Nat.reduceLT, Nat.reduceLeDiff, Nat.reduceMod, Nat.reduceDiv, Int.reduceToNat, Int.reduceLT, Int.reduceLE, Bool.not_true, Bool.not_false, reduceIte, Int.reduceEq, Int.reduceBEq, Int.reduceBNe, Int.reduceGT, Int.reduceGE, Int.reduceNeg, Int.reduceAdd, Int.reduceSub, Nat.reduceBEq, decide_true, decide_false, undef, beq_self_eq_true, bne_self_eq_false, Bool.and_true, Bool.true_and, Bool.and_false, Bool.false_and, Bool.or_true, Bool.true_or, Bool.or_false, Bool.false_or, undef]
        refine finL_ret [0, 1, 2] ⟨rfl, rfl, rfl, rfl, _, rfl, rfl, -1 :: X, by rw [List.length_cons]; omega, ?_⟩
        refine (gcO n can fs many full _).trans ?_
        rw [set_take P (-1) (by omega), List.append_assoc]
        rfl
    · rw [hb, if_pos rfl] at hsol
      have hF5 : fs[hut]? = some fs[hut] := List.getElem?_eq_getElem (by omega)
      have hFd : fs.getD hut 0 = fs[hut] := by rw [List.getD_eq_getElem?_getD, hF5]; rfl
      have hF8 := hfb _ (List.getElem_mem (show hut < fs.length by omega))
      have hu5 : (hut : Int) < 5 := by omega
      rw [hFd] at hsol
      generalize fs[hut] = F at *
      have ih := fun full P h1 h2 h3 => on_ok n can fs many left hn hc hlf hfl hfb l (hut + 1) full P (by omega) h1 h2 h3
      simp only [go_sem, Nat.reduceEqDiff, Nat.reduceAdd, Nat.reduceSub, Nat.reduceMul, Nat.reduceLT, Nat.reduceLeDiff, Nat.reduceMod, Nat.reduceDiv, Int.reduceToNat, Int.reduceLT, Int.reduceLE, Bool.not_true, Bool.not_false, reduceIte, Int.reduceEq, Int.reduceBEq, Int.reduceBNe, Int.reduceGT, Int.reduceGE, Int.reduceNeg, Int.reduceAdd, Int.reduceSub, Nat.reduceBEq, decide_true, decide_false, undef, beq_self_eq_true, bne_self_eq_false, Bool.and_true, Bool.true_and, Bool.and_false, Bool.false_and, Bool.or_true, Bool.true_or, Bool.or_false, Bool.false_or, undef, hb, hu5, Nat.mul_one, List.getElem?_map, hF5, Option.map_some]
      refine awpL_loopK F.toNat (fun j st => ∃ Q : List Int, Q.length = n ∧ Q.take hut = P.take hut ∧ (∀ i < j, (if ((full.getD i 0 : Nat) : Int) = many then none else (solve can fs many left l (hut + 1) (full.set i (full.getD i 0 + 1))).map fun q => (i : Int) :: q) = none) ∧
        st = { env := [(34, .t (vi j)), (33, .t (vi F)), (0, .t (vi hut)), (1, .t (vi left)), (2, .vp [.loc 2 n] 0), (4, .ptr 0 0), (6, .ptr 1 0), (7, .t (.ptr (.agg [vi many]) 0))], σ := σO n can fs many full Q }) ⟨_, Sub.gc [0, 1, 2] [34, 33, 0, 1, 2, 4, 6, 7] rfl rfl, P.set hut (-1), by simpa using hP, by rw [List.take_set_of_le (Nat.le_refl _)], by simp, St.gc_mk rfl (gcO n can fs many full _) rfl rfl⟩ ?_
      rintro j st hj ⟨Q, hQ, hQP, hno, rfl⟩
      unfold σO
      simp only [go_sem, Nat.reduceEqDiff, Nat.reduceAdd, Nat.reduceSub, Nat.reduceMul, Nat.reduceLT, Nat.reduceLeDiff, Nat.reduceMod, Nat.reduceDiv, Int.reduceToNat, Int.reduceLT, Int.reduceLE, Bool.not_true, Bool.not_false, reduceIte, Int.reduceEq, Int.reduceBEq, Int.reduceBNe, Int.reduceGT, Int.reduceGE, Int.reduceNeg, Int.reduceAdd, Int.reduceSub, Nat.reduceBEq, decide_true, decide_false, undef, beq_self_eq_true, bne_self_eq_false, Bool.and_true, Bool.true_and, Bool.and_false, Bool.false_and, Bool.or_true, Bool.true_or, Bool.or_false, Bool.false_or, undef]
      cases g : decide ((j : Int) < F)
      · have hje : j = F.toNat := by have := of_decide_eq_false g; omega
        have hn0 := findSome_range_none (hje ▸ hno)
        rw [hn0] at hsol
        rw [hsol]
        simp only [go_sem, Nat.reduceEqDiff, Nat.reduceAdd, Nat.reduceSub, Nat.reduceMul, Nat.reduceLT, Nat.reduceLeDiff, Nat.reduceMod, Nat.reduceDiv, Int.reduceToNat, Int.reduceLT, Int.reduceLE, Bool.not_true, Bool.not_false, reduceIte, Int.reduceEq, Int.reduceBEq, Int.reduceBNe, Int.reduceGT, Int.reduceGE, Int.reduceNeg, Int.reduceAdd, Int.reduceSub, Nat.reduceBEq, decide_true, decide_false, undef, beq_self_eq_true, bne_self_eq_false, Bool.and_true, Bool.true_and, Bool.and_false, Bool.false_and, Bool.or_true, Bool.true_or, Bool.or_false, Bool.false_or, undef, g]
        refine finL_ret [0, 1, 2] ⟨rfl, rfl, rfl, rfl, _, rfl, rfl, Q.drop hut, by rw [List.length_drop]; omega, ?_⟩
        refine (gcO n can fs many full Q).trans ?_
        rw [← hQP, List.take_append_drop]
      have hjF : (j : Int) < F := of_decide_eq_true g
      have hjl : j < F.toNat := by omega
      have hj8 : (j : Int) < 8 := by omega
      have hx : full[j]? = some full[j] := List.getElem?_eq_getElem (by omega)
      have hxd : full.getD j 0 = full[j] := by rw [List.getD_eq_getElem?_getD, hx]; rfl
      have hxb := hFb _ (List.getElem_mem (show j < full.length by omega))
      have hwj : IntKind.i64.wrap ((j : Int) + 1) = ((j + 1 : Nat) : Int) := by rw [wrap_id (by omega) (by omega)]; omega
      have hno' : ∀ v, (if ((full.getD j 0 : Nat) : Int) = many then none else (solve can fs many left l (hut + 1) (full.set j (full.getD j 0 + 1))).map fun q => (j : Int) :: q) = none → ∀ i < j + 1, (if ((full.getD i 0 : Nat) : Int) = many then none else (solve can fs many left l (hut + 1) (full.set i (full.getD i 0 + 1))).map fun q => (i : Int) :: q) = v → v = none := fun v h i hi e => by
        by_cases c : i < j
        · rw [← e]; exact hno i c
        · have : i = j := by omega
          subst this
          rw [← e]; exact h
      rw [hxd] at hno'
      generalize hxx : full[j] = x at *
      simp only [go_sem, Nat.reduceEqDiff, Nat.reduceAdd, Nat.reduceSub, Nat.reduceMul, Nat.reduceLT, Nat.reduceLeDiff, Nat.reduceMod, Nat.reduceDiv, Int.reduceToNat, Int.reduceLT, Int.reduceLE, Bool.not_true, Bool.not_false, reduceIte, Int.reduceEq, Int.reduceBEq, Int.reduceBNe, Int.reduceGT, Int.reduceGE, Int.reduceNeg, Int.reduceAdd, Int.reduceSub, Nat.reduceBEq, decide_true, decide_false, undef, beq_self_eq_true, bne_self_eq_false, Bool.and_true, Bool.true_and, Bool.and_false, Bool.false_and, Bool.or_true, Bool.true_or, Bool.or_false, Bool.false_or, undef, g, hj8, Nat.mul_one, List.getElem?_map, hx, Option.map_some]
      cases hm : ((x : Int) == many)
      rotate_left
      · have hme : (x : Int) = many := eq_of_beq hm
        simp only [go_sem, Nat.reduceEqDiff, Nat.reduceAdd, Nat.reduceSub, Nat.reduceMul, Nat.reduceLT, Nat.reduceLeDiff, Nat.reduceMod, Nat.reduceDiv, Int.reduceToNat, Int.reduceLT, Int.reduceLE, Bool.not_true, Bool.not_false, reduceIte, Int.reduceEq, Int.reduceBEq, Int.reduceBNe, Int.reduceGT, Int.reduceGE, Int.reduceNeg, Int.reduceAdd, Int.reduceSub, Nat.reduceBEq, decide_true, decide_false, undef, beq_self_eq_true, bne_self_eq_false, Bool.and_true, Bool.true_and, Bool.and_false, Bool.false_and, Bool.or_true, Bool.true_or, Bool.or_false, Bool.false_or, undef, hm, hwj]
        refine ⟨hjl, _, Sub.gc [0, 1, 2] [34, 33, 0, 1, 2, 4, 6, 7] rfl rfl, Q, hQ, hQP, fun i hi => hno' _ (by rw [if_pos hme]) i hi rfl, St.gc_mk rfl (gcO n can fs many full Q) rfl rfl⟩
      have hmn : ¬ (x : Int) = many := fun e => by rw [e] at hm; simp at hm
      rw [if_neg hmn] at hno'
      have hwx : IntKind.i64.wrap ((x : Int) + 1) = ((x + 1 : Nat) : Int) := by rw [wrap_id (by omega) (by omega)]; omega
      have hq : Q[hut]? = some Q[hut] := List.getElem?_eq_getElem (by omega)
      have hsp : ∀ (fl : List Nat) (v : Nat), j < fl.length → List.take j ((fl.map fun z : Nat => vi z).map E.t) ++ [E.t (vi v)] ++ List.drop (j + 1) ((fl.map fun z : Nat => vi z).map E.t) = ((fl.set j v).map fun z : Nat => vi z).map E.t := fun fl v hl => by
        rw [List.set_eq_take_append_cons_drop, if_pos hl]
        simp [List.map_take, List.map_drop]
      have hj18 : (j + 1 ≤ 8) = True := by simp; omega
      have s1 := hsp full (x + 1) (by omega)
      have s2 := hsp (full.set j (x + 1)) x (by rw [List.length_set]; omega)
      rw [List.set_set] at s2
      have hsb := set_back full (x + 1) hx
      rw [List.set_set] at hsb
      rw [hsb] at s2
      have hl2 : (full.set j (x + 1)).length = 8 := by rw [List.length_set]; exact hF
      have hb2 : ∀ y ∈ full.set j (x + 1), y ≤ hut + 1 := fun y hy => by
        rcases List.mem_or_eq_of_mem_set hy with h | h
        · have := hFb y h; omega
        · omega
      have hx2 : (full.set j (x + 1))[j]? = some (x + 1) := List.getElem?_set_self (by omega)
      have hwy : IntKind.i64.wrap (((x + 1 : Nat) : Int) - 1) = (x : Int) := by rw [wrap_id (by omega) (by omega)]; omega
      have ih := ih (full.set j (x + 1)) (Q.set hut j) (by simpa using hQ) hl2 hb2
      generalize Q[hut] = q0 at *
      simp only [go_sem, Nat.reduceEqDiff, Nat.reduceAdd, Nat.reduceSub, Nat.reduceMul, Nat.reduceLT, Nat.reduceLeDiff, Nat.reduceMod, Nat.reduceDiv, Int.reduceToNat, Int.reduceLT, Int.reduceLE, Bool.not_true, Bool.not_false, reduceIte, Int.reduceEq, Int.reduceBEq, Int.reduceBNe, Int.reduceGT, Int.reduceGE, Int.reduceNeg, Int.reduceAdd, Int.reduceSub, Nat.reduceBEq, decide_true, decide_false, undef, beq_self_eq_true, bne_self_eq_false, Bool.and_true, Bool.true_and, Bool.and_false, Bool.false_and, Bool.or_true, Bool.true_or, Bool.or_false, Bool.false_or, undef, hm, hj8, Nat.mul_one, List.getElem?_map, hx, Option.map_some, hwx, List.length_map, hF, hj18, s1, hQ, hhn, hq, hset, hw]
      unfold capO σO at ih
      refine ACallL.of ih ?_
      intro o σ' h
      cases hr : solve can fs many left l (hut + 1) (full.set j (x + 1)) with
      | some q =>
        rw [hr] at h
        obtain ⟨rfl, full', hf', rfl⟩ := (h : _ ∧ _)
        have hat := findSome_range_at hno (show _ = some ((j : Int) :: q) by rw [hxd, if_neg hmn, hr]; rfl) hjl
        rw [hat] at hsol
        rw [hsol]
        simp only [σO, go_sem, Nat.reduceEqDiff, Nat.reduceAdd, Nat.reduceSub, Nat.reduceMul, Nat.reduceLT, Nat.reduceLeDiff, Nat.reduceMod, Nat.reduceDiv, Int.reduceToNat, Int.reduceLT, Int.reduceLE, Bool.not_true, Bool.not_false, reduceIte, Int.reduceEq, Int.reduceBEq, Int.reduceBNe, Int.reduceGT, Int.reduceGE, Int.reduceNeg, Int.reduceAdd, Int.reduceSub, Nat.reduceBEq, decide_true, decide_false, undef, beq_self_eq_true, bne_self_eq_false, Bool.and_true, Bool.true_and, Bool.and_false, Bool.false_and, Bool.or_true, Bool.true_or, Bool.or_false, Bool.false_or, undef]
        refine finL_ret [0, 1, 2] ⟨rfl, rfl, rfl, rfl, _, rfl, rfl, full', hf', ?_⟩
        refine (gcO n can fs many full' _).trans ?_
        rw [set_take Q j (by omega), hQP, List.append_assoc]
        rfl
      | none =>
        rw [hr] at h hno'
        obtain ⟨rfl, X, hX, rfl⟩ := (h : _ ∧ _)
        simp only [σO, go_sem, Nat.reduceEqDiff, Nat.reduceAdd, Nat.reduceSub, Nat.reduceMul, Nat.reduceLT, Nat.reduceLeDiff, Nat.reduceMod, Nat.reduceDiv, Int.reduceToNat, Int.reduceLT, Int.reduceLE, Bool.not_true, Bool.not_false, reduceIte, Int.reduceEq, Int.reduceBEq, Int.reduceBNe, Int.reduceGT, Int.reduceGE, Int.reduceNeg, Int.reduceAdd, Int.reduceSub, Nat.reduceBEq, decide_true, decide_false, undef, beq_self_eq_true, bne_self_eq_false, Bool.and_true, Bool.true_and, Bool.and_false, Bool.false_and, Bool.or_true, Bool.true_or, Bool.or_false, Bool.false_or, undef, hj8, Nat.mul_one, List.getElem?_map, hx2, Option.map_some, hwy, List.length_map, hl2, hj18, s2, hwj]
        refine ⟨hjl, _, Sub.gc [0, 1, 2] [34, 33, 0, 1, 2, 4, 6, 7] rfl rfl, (Q.set hut j).take (hut + 1) ++ X, ?_, ?_, fun i hi => hno' _ rfl i hi rfl, St.gc_mk rfl (gcO n can fs many full _) rfl rfl⟩
        · rw [List.length_append, List.length_take, List.length_set]; omega
        · rw [set_take Q j (by omega), List.append_assoc, List.take_append_of_le_length (by rw [List.length_take]; omega), List.take_take, Nat.min_self, hQP]
end Go.Proofs.YtmahocdmkpigjaaDoor

/- Package surf: Save. -/
namespace Go.Proofs.YtmahocdmkpigjaaDoor
open Go Go.Ab

/-! ### How many bits are set -/
def p1 (n : Nat) : Nat := (n / 2 &&& 85) + (n &&& 85)
def p2 (n : Nat) : Nat := (n / 4 &&& 51) + (n &&& 51)
def p3 (n : Nat) : Nat := (n / 16 + n) &&& 15
theorem p1_ok : ∀ n : Nat, n < 256 → IntKind.u64.wrap (bits .and .u64 ((n : Int).fdiv (2 ^ min 1 64)) 6148914691236517205 + bits .and .u64 (n : Int) 6148914691236517205) = (p1 n : Int) := dec7 (by decide +kernel)
theorem p2_ok : ∀ n : Nat, n < 256 → IntKind.u64.wrap (bits .and .u64 ((n : Int).fdiv (2 ^ min 2 64)) 3689348814741910323 + bits .and .u64 (n : Int) 3689348814741910323) = (p2 n : Int) := dec7 (by decide +kernel)
theorem p3_ok : ∀ n : Nat, n < 69 → bits .and .u64 (IntKind.u64.wrap ((n : Int).fdiv (2 ^ min 4 64) + (n : Int))) 1085102592571150095 = (p3 n : Int) := dec7 (by decide +kernel)
theorem p4_ok : ∀ n : Nat, n < 69 → bits .and .i64 (IntKind.i64.wrap (IntKind.u64.wrap (IntKind.u64.wrap (IntKind.u64.wrap ((n : Int) + (n : Int).fdiv (2 ^ min 8 64)) + (IntKind.u64.wrap ((n : Int) + (n : Int).fdiv (2 ^ min 8 64))).fdiv (2 ^ min 16 64)) + (IntKind.u64.wrap (IntKind.u64.wrap ((n : Int) + (n : Int).fdiv (2 ^ min 8 64)) + (IntKind.u64.wrap ((n : Int) + (n : Int).fdiv (2 ^ min 8 64))).fdiv (2 ^ min 16 64))).fdiv (2 ^ min 32 64)))) 127 = (n : Int) := dec7 (by decide +kernel)
theorem p5_ok : ∀ n : Nat, n < 256 → p1 n < 256 ∧ p2 (p1 n) < 69 ∧ p3 (p2 (p1 n)) < 69 ∧ p3 (p2 (p1 n)) = size n := dec7 (by decide +kernel)
theorem ones64_ok (n : Nat) (hn : n < 256) : ACall Tryd.prog 87 [.t (.lit (.int .u64 n))] [] (ret (vi (size n))) := by
  refine ACall.walk k87 ?_
  unfold c87
  have n1 : ¬ ((1 : Int) < 0) := by omega
  simp only [go_sem, Nat.reduceEqDiff, Nat.reduceAdd, Nat.reduceSub, Nat.reduceMul, Nat.reduceLT, Nat.reduceLeDiff, Nat.reduceMod, Nat.reduceDiv, Int.reduceToNat, Int.reduceLT, Int.reduceLE, Bool.not_true, Bool.not_false, reduceIte]
  refine finL_ret [] ⟨rfl, rfl, rfl, rfl, _, rfl, res_mk (congrArg (fun x => Out.ret (.t (vi x))) ?_)⟩
  obtain ⟨h1, h2, h3, h4⟩ := p5_ok n hn
  rw [p1_ok n hn, p2_ok _ h1, p3_ok _ h2]
  exact (p4_ok _ h3).trans (congrArg Int.ofNat h4)
theorem ones_ok (n : Nat) (hn : n < 256) : ACall Tryd.prog 74 [.t (.lit (.int .u64 n))] [] (ret (vi (size n))) := by
  refine ACall.walk k74 ?_
  unfold c74
  simp only [go_sem, Nat.reduceEqDiff, Nat.reduceAdd, Nat.reduceSub, Nat.reduceMul, Nat.reduceLT, Nat.reduceLeDiff, Nat.reduceMod, Nat.reduceDiv, Int.reduceToNat, Int.reduceLT, Int.reduceLE, Bool.not_true, Bool.not_false, reduceIte, Int.reduceEq, Int.reduceBEq, Int.reduceBNe, Int.reduceGT, Int.reduceGE, Int.reduceNeg, Int.reduceAdd, Int.reduceSub, Nat.reduceBEq, decide_true, decide_false, undef, beq_self_eq_true, bne_self_eq_false, Bool.and_true, Bool.true_and, Bool.and_false, Bool.false_and, Bool.or_true, Bool.true_or, Bool.or_false, Bool.false_or]
  refine ACallL.quiet1 (ones64_ok n hn) rfl rfl rfl ?_
  simp only [go_sem, Nat.reduceEqDiff, Nat.reduceAdd, Nat.reduceSub, Nat.reduceMul, Nat.reduceLT, Nat.reduceLeDiff, Nat.reduceMod, Nat.reduceDiv, Int.reduceToNat, Int.reduceLT, Int.reduceLE, Bool.not_true, Bool.not_false, reduceIte, Int.reduceEq, Int.reduceBEq, Int.reduceBNe, Int.reduceGT, Int.reduceGE, Int.reduceNeg, Int.reduceAdd, Int.reduceSub, Nat.reduceBEq, decide_true, decide_false, undef, beq_self_eq_true, bne_self_eq_false, Bool.and_true, Bool.true_and, Bool.and_false, Bool.false_and, Bool.or_true, Bool.true_or, Bool.or_false, Bool.false_or]
  exact finL_ret [] ⟨rfl, rfl, rfl, rfl, _, rfl, res_mk rfl⟩

/-! ### Save -/
def fstH (s : Su) (i : Nat) : Int := firstS s (s.huts.getD i ⟨0, 0, 0⟩)
def fsA (s : Su) (j : Nat) : List Int := (List.range 5).map fun i => if i < j then fstH s i else 0
def fsN (s : Su) : List Int := fsA s s.huts.length
def canW (s : Su) (j : Nat) : Nat := maskOf (fun i => decide (fstH s i ≥ 0)) j
def canN (s : Su) : Nat := canW s s.huts.length
def zer8 : List Nat := [0, 0, 0, 0, 0, 0, 0, 0]
def solN (s : Su) (many : Int) (left : Nat) : Option (List Int) := solve (canN s) (fsN s) many left s.huts.length 0 zer8
def saveP (s : Su) (many : Int) (sz set : Nat) : Option (List Int × Nat) := if size set = sz ∧ ndiff set (canN s) = 0 then (solN s many set).map fun l => (l, set) else none
def saveF (s : Su) (many : Int) : Option (List Int × Nat) := (List.range (s.huts.length + 1)).findSome? fun sz => (List.range (2 ^ s.huts.length)).findSome? fun set => saveP s many sz set
def saveT (r : Option (List Int × Nat)) : T × Int := match r with
  | some (l, set) => (.slice 1 (l.map fun z : Int => vi z), (set : Nat))
  | none => (.lit (.slice none 0 0), 0)
def specSave (s : Su) (many : Int) : Out := if s.ok then (if wI many 0 5 then .ret (.tup [.t (saveT (saveF s many)).1, .t (vi (saveT (saveF s many)).2), .t (vi 0)]) else .ret (.tup [.t (.lit (.slice none 0 0)), .t (vi 0), .t (vi 2)])) else .ret (.tup [.t (.lit (.slice none 0 0)), .t (vi 0), .t (vi 1)])

theorem first_rng (s : Su) (hs : s.OK) (h : Hu) : -1 ≤ firstS s h ∧ firstS s h ≤ 7 := by
  have hnw := hs.nw
  unfold firstS
  cases hf : (talsS s h).findIdx? (·.1) with
  | none => simp
  | some i =>
    have := (List.findIdx?_eq_some_iff_getElem.1 hf).1
    have hl : (talsS s h).length = s.water.length := by simp [talsS]
    simp only
    omega
theorem fsA_len (s : Su) (j : Nat) : (fsA s j).length = 5 := by simp [fsA]
theorem fsA_set (s : Su) {j : Nat} (hj : j < 5) : (fsA s j).set j (fstH s j) = fsA s (j + 1) := by
  apply List.ext_getElem?
  intro i
  by_cases e : j = i
  · subst e
    rw [List.getElem?_set_self (by rw [fsA_len]; exact hj)]
    unfold fsA
    rw [List.getElem?_map, List.getElem?_range hj, Option.map_some, if_pos (by omega)]
  · rw [List.getElem?_set_ne e]
    unfold fsA
    rw [List.getElem?_map, List.getElem?_map]
    by_cases hi : i < 5
    · rw [List.getElem?_range hi, Option.map_some, Option.map_some]
      by_cases c : i < j
      · rw [if_pos c, if_pos (by omega)]
      · rw [if_neg c, if_neg (by omega)]
    · rw [List.getElem?_eq_none (l := List.range 5) (by simp; omega)]; rfl
theorem fsA_le (s : Su) (hs : s.OK) (j : Nat) : ∀ x ∈ fsA s j, x ≤ 8 := by
  intro x hx
  unfold fsA at hx
  obtain ⟨i, _, rfl⟩ := List.mem_map.1 hx
  split
  · have := (first_rng s hs (s.huts.getD i ⟨0, 0, 0⟩)).2
    unfold fstH
    omega
  · omega
theorem hut_get {s : Su} {j : Nat} (hj : j < s.huts.length) : s.huts[j]? = some (s.huts.getD j ⟨0, 0, 0⟩) := by
  rw [List.getD_eq_getElem?_getD, List.getElem?_eq_getElem hj]; rfl

def SvMid (s : Su) (many : Int) (st : St) : Prop := (s.OK ∧ 0 ≤ many ∧ many ≤ 5) ∧ lk st.env 2 = .t (.ptr (.agg (su5 s)) 0) ∧ lk st.env 3 = .t (.ptr (.agg [vi many]) 0) ∧ lk st.env 6 = .ptr 0 0 ∧ lk st.env 8 = .ptr 2 0 ∧ lk st.env 9 = .ptr 3 0 ∧
  (∃ a : AO, st.σ = [.cells [.t (vi 0)], a, .cells (((fsN s).map fun z : Int => vi z).map .t), .cells [.t (vi (canN s : Nat))]]) ∧ st.df = [.call 43 [.ptr 0 0]] ∧ st.k = 0

theorem solve_len (can : Nat) (fs : List Int) (many : Int) (left : Nat) : ∀ (l hut : Nat) (full : List Nat) {q : List Int}, solve can fs many left l hut full = some q → q.length = l
  | 0, _, _, q, h => by cases h; rfl
  | l + 1, hut, full, q, h => by
    unfold solve at h
    split at h
    · obtain ⟨i, _, hi⟩ := List.exists_of_findSome?_eq_some h
      split at hi
      · cases hi
      · obtain ⟨r, hr, rfl⟩ := Option.map_eq_some_iff.1 hi
        rw [List.length_cons, solve_len can fs many left l _ _ hr]
    · obtain ⟨r, hr, rfl⟩ := Option.map_eq_some_iff.1 h
      rw [List.length_cons, solve_len can fs many left l _ _ hr]
/-- The closure in Save's own store. -/
def capP (n can : Nat) (fs : List Int) (many : Int) : List E := [.vp [.loc 3 n] 0, .t (.ptr (.agg [vi can]) 0), .ptr 1 0, .t (.ptr (.agg (fs.map fun z : Int => vi z)) 0), .ptr 2 0, .t (.ptr (.agg [vi many]) 0)]
def σP (n can : Nat) (fs : List Int) (many : Int) (full : List Nat) (P : List Int) : List AO := [.cells [.t (vi 0)], .cells [.fn (.func 73) [] (capP n can fs many)], .cells ((full.map fun z : Nat => vi z).map .t), .row 1 ((P.map fun z : Int => vi z).map .t)]
theorem gcP (n can : Nat) (fs : List Int) (many : Int) (full : List Nat) (P : List Int) : σgc [0, 1, 2, 3] (σP n can fs many full P) 12 = σP n can fs many full P := by
  show [AO.cells _, AO.cells _, AO.cells ((List.map E.t _).map (E.gc _ _ _)), AO.row 1 ((List.map E.t _).map (E.gc _ _ _))] = _
  rw [gc_row, gc_row]
  rfl
theorem lendOn {n can : Nat} {fs : List Int} {many : Int} {left : Nat} {full : List Nat} {P : List Int} {r : Option (List Int)} (h : ACall Tryd.prog 73 (.t (vi 0) :: .t (vi left) :: capO n can fs many) (σO n can fs many full P) (onR n can fs many full P 0 r))
    {R : Lz (Out → List AO → Prop)} (h1 : ∀ q full', r = some q → R.get (.ret (.t (vb true))) (σP n can fs many full' q)) (h2 : ∀ X : List Int, r = none → X.length = n → R.get (.ret (.t (vb false))) (σP n can fs many full X)) :
    @ACallL Tryd.prog 73 (.t (vi 0) :: .t (vi left) :: capP n can fs many) (σP n can fs many full P) R := by
  have es : ∀ (ρ : Nat → Nat) (l : List T), E.rens ρ (l.map .t) = l.map .t := fun ρ l => by rw [E.rens_map, List.map_map]; rfl
  have hren : ∀ full P, (σO n can fs many full P).map (AO.ren (lendR [1, 2, 3] 4)) = [.cells [.fn (.func 73) [] (capP n can fs many)], .cells ((full.map fun z : Nat => vi z).map .t), .row 1 ((P.map fun z : Int => vi z).map .t)] := fun full P => by
    show [AO.cells _, AO.cells (E.rens _ (List.map E.t _)), AO.row 1 (E.rens _ (List.map E.t _))] = _
    rw [es, es]
    rfl
  refine ACall.mono (ACall.lend [1, 2, 3] h (by decide) (fun k hk => ?_) rfl (fun j o ho => ?_) rfl) ?_
  · show k < 4
    simp at hk; omega
  · have hj : j < 3 := (List.getElem?_eq_some_iff.1 ho).1
    have h0 := congrArg (fun l : List AO => l[j]?) (hren full P)
    simp only [List.getElem?_map, ho, Option.map_some] at h0
    show (σP n can fs many full P)[lendR [1, 2, 3] 4 j]? = some (o.ren (lendR [1, 2, 3] 4))
    rw [h0]
    have : j = 0 ∨ j = 1 ∨ j = 2 := by omega
    rcases this with rfl | rfl | rfl <;> rfl
  · rintro o σ1 ⟨o0, σ0, hR, _, rfl, rfl⟩
    cases hr : r with
    | some q =>
      rw [hr] at hR
      obtain ⟨rfl, full', hf', rfl⟩ := (hR : _ ∧ _)
      have := h1 q full' hr
      rw [show (σP n can fs many full P).length = 4 from rfl, hren]
      exact this
    | none =>
      rw [hr] at hR
      obtain ⟨rfl, X, hX, rfl⟩ := (hR : _ ∧ _)
      have := h2 X hr (by omega)
      rw [show (σP n can fs many full P).length = 4 from rfl, hren]
      exact this
theorem gcOn (n : Nat) (can : Nat) (fs : List Int) (many : Int) (a o : AO) (z : AO) (C D : AO) : E.gc [0, 7, 6, 4] [z, a, .cells ((fs.map fun z : Int => vi z).map .t), .cells [.t (vi can)], C, .cells [.loc 4 n], D, o] 12 (.fn (.func 73) [] [.ptr 5 0, .ptr 3 0, .ptr 7 0, .ptr 2 0, .ptr 6 0, .t (.ptr (.agg [vi many]) 0)]) = .fn (.func 73) [] (capP n can fs many) := by
  rw [E.gc]
  simp only [List.map_cons, List.map_nil]
  rw [gc_ptr (id := 2) (n := 9) (off := 0) (ts := fs.map fun z : Int => vi z) rfl rfl]
  rfl

/-- What Save hands back is its caller's own. -/
def saveRow (s : Su) (many : Int) : Out → List AO → Prop := fun o σ => o.gc [] σ = specSave s many ∧ ∀ l a, s.ok = true → wI many 0 5 = true → saveF s many = some (l, a) → o = .ret (.tup [.loc 0 l.length, .t (vi a), .t (vi 0)]) ∧ σ = [.row 1 ((l.map fun z : Int => vi z).map .t)]

set_option maxRecDepth 8000 in
set_option maxHeartbeats 8000000 in
theorem Save_own (s : Su) (hl : Lens s) (many : Int) : ACall Tryd.prog 30 [.t (.agg (su5 s)), .t (vi many)] [] (saveRow s many) := by
  refine ACall.walkD k30 ?_
  unfold c30
  refine awpL_chop 6 (c1 := ?a1) (c2 := ?a2) (SvMid s many) ?hc ?_ ?_
  case hc => simp only [chop]; rfl
  · unfold su5
    simp only [go_sem, Nat.reduceEqDiff, Nat.reduceAdd, Nat.reduceSub, Nat.reduceMul, Nat.reduceLT, Nat.reduceLeDiff, Nat.reduceMod, Nat.reduceDiv, Int.reduceToNat, Int.reduceLT, Int.reduceLE, Bool.not_true, Bool.not_false, reduceIte, Int.reduceEq, Int.reduceBEq, Int.reduceBNe, Int.reduceGT, Int.reduceGE, Int.reduceNeg, Int.reduceAdd, Int.reduceSub, Nat.reduceBEq, decide_true, decide_false, undef, beq_self_eq_true, bne_self_eq_false, Bool.and_true, Bool.true_and, Bool.and_false, Bool.false_and, Bool.or_true, Bool.true_or, Bool.or_false, Bool.false_or]
    refine ACallL.quiet1 (within_ok _ _ _) rfl rfl rfl ?_
    simp only [go_sem, Nat.reduceEqDiff, Nat.reduceAdd, Nat.reduceSub, Nat.reduceMul, Nat.reduceLT, Nat.reduceLeDiff, Nat.reduceMod, Nat.reduceDiv, Int.reduceToNat, Int.reduceLT, Int.reduceLE, Bool.not_true, Bool.not_false, reduceIte, Int.reduceEq, Int.reduceBEq, Int.reduceBNe, Int.reduceGT, Int.reduceGE, Int.reduceNeg, Int.reduceAdd, Int.reduceSub, Nat.reduceBEq, decide_true, decide_false, undef, beq_self_eq_true, bne_self_eq_false, Bool.and_true, Bool.true_and, Bool.and_false, Bool.false_and, Bool.or_true, Bool.true_or, Bool.or_false, Bool.false_or, undef]
    refine openL s _ hl (fun hok => ?_) (fun hok h2 => ?_) (fun hok h2 => ?_)
    · simp only [go_sem, Nat.reduceEqDiff, Nat.reduceAdd, Nat.reduceSub, Nat.reduceMul, Nat.reduceLT, Nat.reduceLeDiff, Nat.reduceMod, Nat.reduceDiv, Int.reduceToNat, Int.reduceLT, Int.reduceLE, Bool.not_true, Bool.not_false, reduceIte, Int.reduceEq, Int.reduceBEq, Int.reduceBNe, Int.reduceGT, Int.reduceGE, Int.reduceNeg, Int.reduceAdd, Int.reduceSub, Nat.reduceBEq, decide_true, decide_false, undef, beq_self_eq_true, bne_self_eq_false, Bool.and_true, Bool.true_and, Bool.and_false, Bool.false_and, Bool.or_true, Bool.true_or, Bool.or_false, Bool.false_or, undef]
      refine finDL_pan rfl rfl ((answer_pan rfl).mono fun σ' h => ?_)
      subst h
      exact ⟨_, rfl, [], rfl, rfl, by simp only [specSave, hok]; rfl, fun l a h _ _ => by rw [hok] at h; cases h⟩
    · simp only [go_sem, Nat.reduceEqDiff, Nat.reduceAdd, Nat.reduceSub, Nat.reduceMul, Nat.reduceLT, Nat.reduceLeDiff, Nat.reduceMod, Nat.reduceDiv, Int.reduceToNat, Int.reduceLT, Int.reduceLE, Bool.not_true, Bool.not_false, reduceIte, Int.reduceEq, Int.reduceBEq, Int.reduceBNe, Int.reduceGT, Int.reduceGE, Int.reduceNeg, Int.reduceAdd, Int.reduceSub, Nat.reduceBEq, decide_true, decide_false, undef, beq_self_eq_true, bne_self_eq_false, Bool.and_true, Bool.true_and, Bool.and_false, Bool.false_and, Bool.or_true, Bool.true_or, Bool.or_false, Bool.false_or, undef]
      refine finDL_pan rfl rfl ((answer_pan rfl).mono fun σ' h => ?_)
      subst h
      exact ⟨_, rfl, [], rfl, rfl, by simp only [specSave, hok, h2]; rfl, fun l a _ h _ => by rw [h2] at h; cases h⟩
    have hs := (s.ok_iff).1 hok
    have hnh := hs.nh
    have hmy : 0 ≤ many ∧ many ≤ 5 := by simpa [wI] using h2
    simp only [go_sem, Nat.reduceEqDiff, Nat.reduceAdd, Nat.reduceSub, Nat.reduceMul, Nat.reduceLT, Nat.reduceLeDiff, Nat.reduceMod, Nat.reduceDiv, Int.reduceToNat, Int.reduceLT, Int.reduceLE, Bool.not_true, Bool.not_false, reduceIte, Int.reduceEq, Int.reduceBEq, Int.reduceBNe, Int.reduceGT, Int.reduceGE, Int.reduceNeg, Int.reduceAdd, Int.reduceSub, Nat.reduceBEq, decide_true, decide_false, undef, beq_self_eq_true, bne_self_eq_false, Bool.and_true, Bool.true_and, Bool.and_false, Bool.false_and, Bool.or_true, Bool.true_or, Bool.or_false, Bool.false_or, undef, List.length_map]
    refine awpL_for (i := 25) (L := 24) s.huts.length (fun j st => ∃ ks xs clk, MapOK s ks xs ∧ st = { env := [(25, .t (vi j)), (24, .t (vi s.huts.length)), (23, .t (.slice 3 (s.huts.map tHu))), (2, .t (.ptr (.agg (su5 s)) 0)), (3, .t (.ptr (.agg [vi many]) 0)), (6, .ptr 0 0), (7, seaE s 1), (8, .ptr 2 0), (9, .ptr 3 0)], σ := [.cells [.t (vi 0)], .map shN ks xs clk, .cells (((fsA s j).map fun z : Int => vi z).map .t), .cells [.t (vi (canW s j : Nat))]], df := [.call 43 [.ptr 0 0]] }) ?_ ⟨_, Sub.gc [2, 3, 4, 5] [25, 24, 23, 2, 3, 6, 7, 8, 9] rfl rfl, [], [], 0, MapOK.nil s, rfl⟩ ?_ ?_
    · rintro k st ⟨_, _, _, _, rfl⟩; exact ⟨rfl, rfl⟩
    · rintro j st hj ⟨ks, xs, clk, M, rfl⟩
      have hwj : IntKind.i64.wrap ((j : Int) + 1) = ((j + 1 : Nat) : Int) := by rw [wrap_id (by omega) (by omega)]; omega
      have hg := hut_get hj
      have hh := hs.huts _ (List.mem_of_getElem? hg)
      have h62 := first_ok s hs _ hh M (clk := clk)
      have hfe : firstS s (s.huts.getD j ⟨0, 0, 0⟩) = fstH s j := rfl
      rw [hfe] at h62
      have hset := fsA_set s (j := j) (by omega)
      have hlen := fsA_len s j
      have hlen2 := fsA_len s (j + 1)
      have hcs : canW s (j + 1) = if decide (fstH s j ≥ 0) then canW s j ||| 2 ^ j else canW s j := rfl
      have hcl : canW s j < 2 ^ j := maskOf_lt _ _
      have hp : 2 ^ j ≤ 16 := Nat.pow_le_pow_right (n := 2) (j := 4) (by decide) (by omega)
      have o1 := bits_or (a := canW s j) (b := 2 ^ j) (by omega) (by omega)
      have sl := shl_one (i := j) (by omega)
      have hj0 : ((j : Int) < 0) = False := by simp
      have hj5 : (j : Int) < 5 := by omega
      have hj15 : (j + 1 ≤ 5) = True := by simp; omega
      have hsp : List.take j (((fsA s j).map fun z : Int => vi z).map E.t) ++ [E.t (vi (fstH s j))] ++ List.drop (j + 1) (((fsA s j).map fun z : Int => vi z).map E.t) = (((fsA s (j + 1)).map fun z : Int => vi z).map E.t) := by
        rw [← hset, List.set_eq_take_append_cons_drop, if_pos (by omega)]
        simp [List.map_take, List.map_drop]
      have hat : (fsA s (j + 1))[j]? = some (fstH s j) := by
        unfold fsA
        rw [List.getElem?_map, List.getElem?_range (by omega), Option.map_some, if_pos (by omega)]
      generalize s.huts.getD j ⟨0, 0, 0⟩ = hu at *
      generalize fsA s j = A at *
      generalize fsA s (j + 1) = A2 at *
      generalize fstH s j = fj at *
      obtain ⟨f, b, r⟩ := hu
      simp only [tHu] at h62
      simp only [su5, go_sem, Nat.reduceEqDiff, Nat.reduceAdd, Nat.reduceSub, Nat.reduceMul, Nat.reduceLT, Nat.reduceLeDiff, Nat.reduceMod, Nat.reduceDiv, Int.reduceToNat, Int.reduceLT, Int.reduceLE, Bool.not_true, Bool.not_false, reduceIte, Int.reduceEq, Int.reduceBEq, Int.reduceBNe, Int.reduceGT, Int.reduceGE, Int.reduceNeg, Int.reduceAdd, Int.reduceSub, Nat.reduceBEq, decide_true, decide_false, undef, beq_self_eq_true, bne_self_eq_false, Bool.and_true, Bool.true_and, Bool.and_false, Bool.false_and, Bool.or_true, Bool.true_or, Bool.or_false, Bool.false_or, undef, List.getElem?_map, hg, Option.map_some, tHu]
      refine lend1 (m := 1) h62 rfl rfl rfl ?_
      rintro o a ⟨rfl, ks2, xs2, clk2, M2, rfl⟩
      simp only [go_sem, Nat.reduceEqDiff, Nat.reduceAdd, Nat.reduceSub, Nat.reduceMul, Nat.reduceLT, Nat.reduceLeDiff, Nat.reduceMod, Nat.reduceDiv, Int.reduceToNat, Int.reduceLT, Int.reduceLE, Bool.not_true, Bool.not_false, reduceIte, Int.reduceEq, Int.reduceBEq, Int.reduceBNe, Int.reduceGT, Int.reduceGE, Int.reduceNeg, Int.reduceAdd, Int.reduceSub, Nat.reduceBEq, decide_true, decide_false, undef, beq_self_eq_true, bne_self_eq_false, Bool.and_true, Bool.true_and, Bool.and_false, Bool.false_and, Bool.or_true, Bool.true_or, Bool.or_false, Bool.false_or, undef, Out.ren, E.ren, E.rens, AO.ren, hj5, Nat.mul_one, List.length_map, hlen, hj15, hsp, List.getElem?_map, hat, Option.map_some]
      cases hc : decide (fj ≥ 0)
      · rw [hc, if_neg (by simp)] at hcs
        simp only [go_sem, Nat.reduceEqDiff, Nat.reduceAdd, Nat.reduceSub, Nat.reduceMul, Nat.reduceLT, Nat.reduceLeDiff, Nat.reduceMod, Nat.reduceDiv, Int.reduceToNat, Int.reduceLT, Int.reduceLE, Bool.not_true, Bool.not_false, reduceIte, Int.reduceEq, Int.reduceBEq, Int.reduceBNe, Int.reduceGT, Int.reduceGE, Int.reduceNeg, Int.reduceAdd, Int.reduceSub, Nat.reduceBEq, decide_true, decide_false, undef, beq_self_eq_true, bne_self_eq_false, Bool.and_true, Bool.true_and, Bool.and_false, Bool.false_and, Bool.or_true, Bool.true_or, Bool.or_false, Bool.false_or, undef, hc, hwj]
        refine ⟨_, Sub.gc [0, 1, 2, 3] [25, 24, 23, 2, 3, 6, 7, 8, 9] rfl rfl, ks2, xs2, clk2, M2, ?_⟩
        rw [hcs]
        exact St.gc_mk rfl (by show [AO.cells _, AO.map _ _ _ _, AO.cells ((List.map E.t _).map (E.gc _ _ _)), AO.cells _] = _; rw [gc_row]; rfl) rfl rfl
      · rw [hc, if_pos rfl] at hcs
        simp only [go_sem, Nat.reduceEqDiff, Nat.reduceAdd, Nat.reduceSub, Nat.reduceMul, Nat.reduceLT, Nat.reduceLeDiff, Nat.reduceMod, Nat.reduceDiv, Int.reduceToNat, Int.reduceLT, Int.reduceLE, Bool.not_true, Bool.not_false, reduceIte, Int.reduceEq, Int.reduceBEq, Int.reduceBNe, Int.reduceGT, Int.reduceGE, Int.reduceNeg, Int.reduceAdd, Int.reduceSub, Nat.reduceBEq, decide_true, decide_false, undef, beq_self_eq_true, bne_self_eq_false, Bool.and_true, Bool.true_and, Bool.and_false, Bool.false_and, Bool.or_true, Bool.true_or, Bool.or_false, Bool.false_or, undef, hc, hwj, sl, o1, hj0]
        refine ⟨_, Sub.gc [0, 1, 2, 3] [25, 24, 23, 2, 3, 6, 7, 8, 9] rfl rfl, ks2, xs2, clk2, M2, ?_⟩
        rw [hcs]
        exact St.gc_mk rfl (by show [AO.cells _, AO.map _ _ _ _, AO.cells ((List.map E.t _).map (E.gc _ _ _)), AO.cells _] = _; rw [gc_row]; rfl) rfl rfl
    · rintro st ⟨ks, xs, clk, M, rfl⟩
      simp only [go_sem, Nat.reduceEqDiff, Nat.reduceAdd, Nat.reduceSub, Nat.reduceMul, Nat.reduceLT, Nat.reduceLeDiff, Nat.reduceMod, Nat.reduceDiv, Int.reduceToNat, Int.reduceLT, Int.reduceLE, Bool.not_true, Bool.not_false, reduceIte, Int.reduceEq, Int.reduceBEq, Int.reduceBNe, Int.reduceGT, Int.reduceGE, Int.reduceNeg, Int.reduceAdd, Int.reduceSub, Nat.reduceBEq, decide_true, decide_false, undef, beq_self_eq_true, bne_self_eq_false, Bool.and_true, Bool.true_and, Bool.and_false, Bool.false_and, Bool.or_true, Bool.true_or, Bool.or_false, Bool.false_or, undef]
      exact ⟨⟨hs, hmy.1, hmy.2⟩, rfl, rfl, rfl, rfl, rfl, ⟨_, rfl⟩, rfl, rfl⟩
  rintro ⟨env, σ, df, k⟩ ⟨⟨hs, hm0, hm5⟩, q2, q3, q6, q8, q9, ⟨a, hσ⟩, hdf, hk⟩
  simp only at q2 q3 q6 q8 q9 hσ hdf hk
  subst hσ hdf hk
  simp only [su5, go_sem, Nat.reduceEqDiff, Nat.reduceAdd, Nat.reduceSub, Nat.reduceMul, Nat.reduceLT, Nat.reduceLeDiff, Nat.reduceMod, Nat.reduceDiv, Int.reduceToNat, Int.reduceLT, Int.reduceLE, Bool.not_true, Bool.not_false, reduceIte, Int.reduceEq, Int.reduceBEq, Int.reduceBNe, Int.reduceGT, Int.reduceGE, Int.reduceNeg, Int.reduceAdd, Int.reduceSub, Nat.reduceBEq, decide_true, decide_false, undef, beq_self_eq_true, bne_self_eq_false, Bool.and_true, Bool.true_and, Bool.and_false, Bool.false_and, Bool.or_true, Bool.true_or, Bool.or_false, Bool.false_or, undef, q2, q3, q6, q8, q9, List.length_map]
  have hnh := hs.nh
  have hsp : specSave s many = .ret (.tup [.t (saveT (saveF s many)).1, .t (vi (saveT (saveF s many)).2), .t (vi 0)]) := by
    have h1 : s.ok = true := (s.ok_iff).2 hs
    have h2 : wI many 0 5 = true := by simp [wI]; omega
    simp only [specSave, h1, h2]; rfl
  unfold saveRow
  rw [hsp]
  have hcl : canN s < 2 ^ s.huts.length := maskOf_lt _ _
  have hpn : 2 ^ s.huts.length ≤ 32 := Nat.pow_le_pow_right (n := 2) (j := 5) (by decide) (by omega)
  have hfl := fsA_len s s.huts.length
  have hfb := fsA_le s hs s.huts.length
  have hSF : saveF s many = (List.range (s.huts.length + 1)).findSome? fun sz => (List.range (2 ^ s.huts.length)).findSome? fun set => saveP s many sz set := rfl
  have hSP : ∀ sz set, saveP s many sz set = if size set = sz ∧ ndiff set (canN s) = 0 then (solve (canN s) (fsN s) many set s.huts.length 0 zer8).map fun l => (l, set) else none := fun _ _ => rfl
  have hfl : (fsN s).length = 5 := hfl
  have hfb : ∀ x ∈ fsN s, x ≤ 8 := hfb
  have hw1 : IntKind.i64.wrap ((s.huts.length : Int) + 1) = ((s.huts.length + 1 : Nat) : Int) := by rw [wrap_id (by omega) (by omega)]; omega
  have sl := shl_one (i := s.huts.length) (by omega)
  have hn0 : ((s.huts.length : Int) < 0) = False := by simp
  generalize saveF s many = SF at *
  generalize hnn : s.huts.length = n at *
  generalize canN s = can at *
  generalize fsN s = fs at *
  generalize saveP s many = SP at *
  have hon := fun set (hset : set < 256) P (hP : P.length = n) => on_ok n can fs many set hnh (by omega) hset hfl hfb n 0 zer8 P (by omega) hP rfl (by decide)
  refine ⟨⟨by omega, by omega, by omega⟩, ?_⟩
  simp only [go_sem, Nat.reduceEqDiff, Nat.reduceAdd, Nat.reduceSub, Nat.reduceMul, Nat.reduceLT, Nat.reduceLeDiff, Nat.reduceMod, Nat.reduceDiv, Int.reduceToNat, Int.reduceLT, Int.reduceLE, Bool.not_true, Bool.not_false, reduceIte, Int.reduceEq, Int.reduceBEq, Int.reduceBNe, Int.reduceGT, Int.reduceGE, Int.reduceNeg, Int.reduceAdd, Int.reduceSub, Nat.reduceBEq, decide_true, decide_false, undef, beq_self_eq_true, bne_self_eq_false, Bool.and_true, Bool.true_and, Bool.and_false, Bool.false_and, Bool.or_true, Bool.true_or, Bool.or_false, Bool.false_or, undef, List.length_replicate, hw1]
  refine awpL_for (i := 53) (L := 52) (n + 1) (fun sz st => (∀ k < sz, ((List.range (2 ^ n)).findSome? fun set => SP k set) = none) ∧ ∃ P : List Int, P.length = n ∧ st = { env := [(53, .t (vi sz)), (52, .t (vi (n + 1 : Nat))), (6, .ptr 0 0), (9, .t (.ptr (.agg [vi can]) 0)), (12, .vp [.loc 3 n] 0), (14, .ptr 1 0)], σ := σP n can fs many zer8 P, df := [.call 43 [.ptr 0 0]] }) ?_ ⟨_, Sub.gc [0, 7, 6, 4] [53, 52, 6, 9, 12, 14] rfl rfl, by simp, List.replicate n 0, by simp, ?_⟩ ?_ ?_
  · rintro k st ⟨_, _, _, rfl⟩; exact ⟨rfl, rfl⟩
  · refine St.gc_mk (by simp only [List.map_cons, List.map_nil, lk, Nat.reduceEqDiff, reduceIte, q6, q9]; rfl) ?_ rfl rfl
    show [AO.cells _, AO.cells [E.gc _ _ _ _], AO.cells _, AO.row 1 ((List.replicate _ _).map (E.gc _ _ _))] = _
    rw [gcOn, List.map_replicate]
    unfold σP
    rw [List.map_replicate, List.map_replicate]
    rfl
  · rintro sz st hsz ⟨hno, P, hP, rfl⟩
    have hwz : IntKind.i64.wrap ((sz : Int) + 1) = ((sz + 1 : Nat) : Int) := by rw [wrap_id (by omega) (by omega)]; omega
    simp only [σP, go_sem, Nat.reduceEqDiff, Nat.reduceAdd, Nat.reduceSub, Nat.reduceMul, Nat.reduceLT, Nat.reduceLeDiff, Nat.reduceMod, Nat.reduceDiv, Int.reduceToNat, Int.reduceLT, Int.reduceLE, Bool.not_true, Bool.not_false, reduceIte, Int.reduceEq, Int.reduceBEq, Int.reduceBNe, Int.reduceGT, Int.reduceGE, Int.reduceNeg, Int.reduceAdd, Int.reduceSub, Nat.reduceBEq, decide_true, decide_false, undef, beq_self_eq_true, bne_self_eq_false, Bool.and_true, Bool.true_and, Bool.and_false, Bool.false_and, Bool.or_true, Bool.true_or, Bool.or_false, Bool.false_or, undef, rowLen, AO.len?, List.length_map, hP, sl, hn0]
    refine awpL_for (i := 59) (L := 58) (2 ^ n) (fun set st => (∀ k < set, SP sz k = none) ∧ ∃ P : List Int, P.length = n ∧ st = { env := [(59, .t (vi set)), (58, .t (vi (2 ^ n : Nat))), (15, .t (vi sz)), (53, .t (vi sz)), (52, .t (vi (n + 1 : Nat))), (6, .ptr 0 0), (9, .t (.ptr (.agg [vi can]) 0)), (12, .vp [.loc 3 n] 0), (14, .ptr 1 0)], σ := σP n can fs many zer8 P, df := [.call 43 [.ptr 0 0]] }) ?_ ⟨_, Sub.gc [0, 1, 2, 3] [59, 58, 15, 53, 52, 6, 9, 12, 14] rfl rfl, by simp, P, hP, St.gc_mk rfl (gcP n can fs many zer8 P) rfl rfl⟩ ?_ ?_
    · rintro k st ⟨_, _, _, rfl⟩; exact ⟨rfl, rfl⟩
    · rintro set st hset ⟨hno2, P, hP, rfl⟩
      have hws : IntKind.i64.wrap ((set : Int) + 1) = ((set + 1 : Nat) : Int) := by rw [wrap_id (by omega) (by omega)]; omega
      have hwu : IntKind.u64.wrap (set : Int) = set := u64_nat (by omega)
      have hon := hon set (by omega) P hP
      have h74 := ones_ok set (by omega)
      have han := bits_andNot (a := set) (b := can) (by omega) (by omega)
      have hSP := hSP sz set
      have hno3 : SP sz set = none → ∀ k < set + 1, SP sz k = none := fun h k hk => by
        by_cases c : k < set
        · exact hno2 k c
        · rw [show k = set by omega]; exact h
      simp only [σP, go_sem, Nat.reduceEqDiff, Nat.reduceAdd, Nat.reduceSub, Nat.reduceMul, Nat.reduceLT, Nat.reduceLeDiff, Nat.reduceMod, Nat.reduceDiv, Int.reduceToNat, Int.reduceLT, Int.reduceLE, Bool.not_true, Bool.not_false, reduceIte, Int.reduceEq, Int.reduceBEq, Int.reduceBNe, Int.reduceGT, Int.reduceGE, Int.reduceNeg, Int.reduceAdd, Int.reduceSub, Nat.reduceBEq, decide_true, decide_false, undef, beq_self_eq_true, bne_self_eq_false, Bool.and_true, Bool.true_and, Bool.and_false, Bool.false_and, Bool.or_true, Bool.true_or, Bool.or_false, Bool.false_or, undef, hwu]
      refine ACallL.quiet1 h74 rfl rfl rfl ?_
      cases h1 : (((size set : Nat) : Int) != (sz : Int))
      rotate_left
      · have : ¬ size set = sz := fun e => by rw [e] at h1; simp at h1
        rw [if_neg (fun h => this h.1)] at hSP
        simp only [go_sem, Nat.reduceEqDiff, Nat.reduceAdd, Nat.reduceSub, Nat.reduceMul, Nat.reduceLT, Nat.reduceLeDiff, Nat.reduceMod, Nat.reduceDiv, Int.reduceToNat, Int.reduceLT, Int.reduceLE, Bool.not_true, Bool.not_false, reduceIte, Int.reduceEq, Int.reduceBEq, Int.reduceBNe, Int.reduceGT, Int.reduceGE, Int.reduceNeg, Int.reduceAdd, Int.reduceSub, Nat.reduceBEq, decide_true, decide_false, undef, beq_self_eq_true, bne_self_eq_false, Bool.and_true, Bool.true_and, Bool.and_false, Bool.false_and, Bool.or_true, Bool.true_or, Bool.or_false, Bool.false_or, undef, h1, hws]
        exact ⟨_, Sub.gc [0, 1, 2, 3] [59, 58, 15, 53, 52, 6, 9, 12, 14] rfl rfl, hno3 hSP, P, hP, St.gc_mk rfl (gcP n can fs many zer8 P) rfl rfl⟩
      have e1 : size set = sz := by have := bne_eq_false_iff_eq.1 h1; omega
      simp only [go_sem, Nat.reduceEqDiff, Nat.reduceAdd, Nat.reduceSub, Nat.reduceMul, Nat.reduceLT, Nat.reduceLeDiff, Nat.reduceMod, Nat.reduceDiv, Int.reduceToNat, Int.reduceLT, Int.reduceLE, Bool.not_true, Bool.not_false, reduceIte, Int.reduceEq, Int.reduceBEq, Int.reduceBNe, Int.reduceGT, Int.reduceGE, Int.reduceNeg, Int.reduceAdd, Int.reduceSub, Nat.reduceBEq, decide_true, decide_false, undef, beq_self_eq_true, bne_self_eq_false, Bool.and_true, Bool.true_and, Bool.and_false, Bool.false_and, Bool.or_true, Bool.true_or, Bool.or_false, Bool.false_or, undef, h1, han]
      cases h2 : (((ndiff set can : Nat) : Int) != 0)
      rotate_left
      · have : ¬ ndiff set can = 0 := fun e => by rw [e] at h2; simp at h2
        rw [if_neg (fun h => this h.2)] at hSP
        simp only [go_sem, Nat.reduceEqDiff, Nat.reduceAdd, Nat.reduceSub, Nat.reduceMul, Nat.reduceLT, Nat.reduceLeDiff, Nat.reduceMod, Nat.reduceDiv, Int.reduceToNat, Int.reduceLT, Int.reduceLE, Bool.not_true, Bool.not_false, reduceIte, Int.reduceEq, Int.reduceBEq, Int.reduceBNe, Int.reduceGT, Int.reduceGE, Int.reduceNeg, Int.reduceAdd, Int.reduceSub, Nat.reduceBEq, decide_true, decide_false, undef, beq_self_eq_true, bne_self_eq_false, Bool.and_true, Bool.true_and, Bool.and_false, Bool.false_and, Bool.or_true, Bool.true_or, Bool.or_false, Bool.false_or, undef, h2, hws]
        exact ⟨_, Sub.gc [0, 1, 2, 3] [59, 58, 15, 53, 52, 6, 9, 12, 14] rfl rfl, hno3 hSP, P, hP, St.gc_mk rfl (gcP n can fs many zer8 P) rfl rfl⟩
      have e2 : ndiff set can = 0 := by have := bne_eq_false_iff_eq.1 h2; omega
      rw [if_pos ⟨e1, e2⟩] at hSP
      simp only [go_sem, Nat.reduceEqDiff, Nat.reduceAdd, Nat.reduceSub, Nat.reduceMul, Nat.reduceLT, Nat.reduceLeDiff, Nat.reduceMod, Nat.reduceDiv, Int.reduceToNat, Int.reduceLT, Int.reduceLE, Bool.not_true, Bool.not_false, reduceIte, Int.reduceEq, Int.reduceBEq, Int.reduceBNe, Int.reduceGT, Int.reduceGE, Int.reduceNeg, Int.reduceAdd, Int.reduceSub, Nat.reduceBEq, decide_true, decide_false, undef, beq_self_eq_true, bne_self_eq_false, Bool.and_true, Bool.true_and, Bool.and_false, Bool.false_and, Bool.or_true, Bool.true_or, Bool.or_false, Bool.false_or, undef, h2]
      refine lendOn hon (fun q full' hr => ?_) (fun X hr hX => ?_)
      · rw [hr, Option.map_some] at hSP
        have hq : q.length = n := solve_len _ _ _ _ _ _ _ hr
        have hat := findSome_range_at hno2 hSP hset
        have hat2 := findSome_range_at hno hat hsz
        rw [hat2] at hSF
        rw [hSF]
        have hdr : List.drop n (List.replicate n (E.t (T.lit (Value.int IntKind.i64 0)))) = [] := by simp
        simp only [σP, go_sem, Nat.reduceEqDiff, Nat.reduceAdd, Nat.reduceSub, Nat.reduceMul, Nat.reduceLT, Nat.reduceLeDiff, Nat.reduceMod, Nat.reduceDiv, Int.reduceToNat, Int.reduceLT, Int.reduceLE, Bool.not_true, Bool.not_false, reduceIte, Int.reduceEq, Int.reduceBEq, Int.reduceBNe, Int.reduceGT, Int.reduceGE, Int.reduceNeg, Int.reduceAdd, Int.reduceSub, Nat.reduceBEq, decide_true, decide_false, undef, beq_self_eq_true, bne_self_eq_false, Bool.and_true, Bool.true_and, Bool.and_false, Bool.false_and, Bool.or_true, Bool.true_or, Bool.or_false, Bool.false_or, undef, rowLen, AO.len?, List.length_map, hq, List.length_replicate, hdr]
        refine ⟨⟨by omega, by omega, by omega⟩, ?_⟩
        refine finDL_ret rfl rfl (answer_none.mono fun σ' h => ?_)
        subst h
        refine ⟨_, rfl, [4], rfl, rfl, ?_⟩
        show (Out.ret (.tup [.loc 0 n, _, _])).gc [] [AO.row 1 ((List.map E.t _).map (E.gc _ _ _))] = _ ∧ ∀ l a, _ → _ → _ → Out.ret (.tup [.loc 0 n, _, _]) = _ ∧ [AO.row 1 ((List.map E.t _).map (E.gc _ _ _))] = _
        rw [gc_row]
        refine ⟨?_, fun l a _ _ h => ?_⟩
        · show Out.ret (.tup [E.gc [] _ 11 (.loc 0 n), _, _]) = _
          rw [gc_loc (n := 9) (xs := q.map fun z : Int => vi z) rfl rfl (by simp [hq])]
          rfl
        · cases h
          rw [hq]
          exact ⟨rfl, rfl⟩
      · rw [hr, Option.map_none] at hSP
        simp only [σP, go_sem, Nat.reduceEqDiff, Nat.reduceAdd, Nat.reduceSub, Nat.reduceMul, Nat.reduceLT, Nat.reduceLeDiff, Nat.reduceMod, Nat.reduceDiv, Int.reduceToNat, Int.reduceLT, Int.reduceLE, Bool.not_true, Bool.not_false, reduceIte, Int.reduceEq, Int.reduceBEq, Int.reduceBNe, Int.reduceGT, Int.reduceGE, Int.reduceNeg, Int.reduceAdd, Int.reduceSub, Nat.reduceBEq, decide_true, decide_false, undef, beq_self_eq_true, bne_self_eq_false, Bool.and_true, Bool.true_and, Bool.and_false, Bool.false_and, Bool.or_true, Bool.true_or, Bool.or_false, Bool.false_or, undef, hws]
        exact ⟨_, Sub.gc [0, 1, 2, 3] [59, 58, 15, 53, 52, 6, 9, 12, 14] rfl rfl, hno3 hSP, X, hX, St.gc_mk rfl (gcP n can fs many zer8 X) rfl rfl⟩
    · rintro st ⟨hno2, P, hP, rfl⟩
      simp only [go_sem, Nat.reduceEqDiff, Nat.reduceAdd, Nat.reduceSub, Nat.reduceMul, Nat.reduceLT, Nat.reduceLeDiff, Nat.reduceMod, Nat.reduceDiv, Int.reduceToNat, Int.reduceLT, Int.reduceLE, Bool.not_true, Bool.not_false, reduceIte, Int.reduceEq, Int.reduceBEq, Int.reduceBNe, Int.reduceGT, Int.reduceGE, Int.reduceNeg, Int.reduceAdd, Int.reduceSub, Nat.reduceBEq, decide_true, decide_false, undef, beq_self_eq_true, bne_self_eq_false, Bool.and_true, Bool.true_and, Bool.and_false, Bool.false_and, Bool.or_true, Bool.true_or, Bool.or_false, Bool.false_or, undef, hwz]
      refine ⟨_, Sub.gc [0, 1, 2, 3] [53, 52, 6, 9, 12, 14] rfl rfl, fun k hk => ?_, P, hP, St.gc_mk rfl (gcP n can fs many zer8 P) rfl rfl⟩
      by_cases c : k < sz
      · exact hno k c
      · rw [show k = sz by omega]; exact findSome_range_none hno2
  · rintro st ⟨hno, P, hP, rfl⟩
    rw [findSome_range_none hno] at hSF
    rw [hSF]
    simp only [σP, go_sem, Nat.reduceEqDiff, Nat.reduceAdd, Nat.reduceSub, Nat.reduceMul, Nat.reduceLT, Nat.reduceLeDiff, Nat.reduceMod, Nat.reduceDiv, Int.reduceToNat, Int.reduceLT, Int.reduceLE, Bool.not_true, Bool.not_false, reduceIte, Int.reduceEq, Int.reduceBEq, Int.reduceBNe, Int.reduceGT, Int.reduceGE, Int.reduceNeg, Int.reduceAdd, Int.reduceSub, Nat.reduceBEq, decide_true, decide_false, undef, beq_self_eq_true, bne_self_eq_false, Bool.and_true, Bool.true_and, Bool.and_false, Bool.false_and, Bool.or_true, Bool.true_or, Bool.or_false, Bool.false_or, undef]
    refine finDL_ret rfl rfl (answer_none.mono fun σ' h => ?_)
    subst h
    exact ⟨_, rfl, [], rfl, rfl, rfl, fun l a _ _ h => by cases h⟩
theorem Save_ok (s : Su) (hl : Lens s) (many : Int) : ACall Tryd.prog 30 [.t (.agg (su5 s)), .t (vi many)] [] (res (specSave s many)) :=
  (Save_own s hl many).strike.mono fun o σ ⟨o0, σ0, h, e1, e2⟩ => ⟨by rw [e1, h.1], e2⟩
end Go.Proofs.YtmahocdmkpigjaaDoor
