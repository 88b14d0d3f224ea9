/- Proved here: laws that the statements need (WzU2). No conditions but those that each law states. -/
import Derived.Test.YtnmmhkkmejbckaaGreatDoorYE

set_option linter.unusedSimpArgs false
set_option linter.unusedVariables false

/- Are watches valid, by the document. -/
namespace Go.Proofs.YtnmmhkkmejbckaaGreatDoor
open Go Go.Ab

theorem spB_own (lo hi : Int) : decide (-10 ≤ lo ∧ lo ≤ hi ∧ hi ≤ 10 ∧ hi - lo ≤ 2) = spB lo hi (-10) 10 2 := by
  unfold spB
  rw [← Bool.decide_and, ← Bool.decide_and, ← Bool.decide_and]
  exact decide_eq_decide.2 (by omega)
theorem spB_fnd (lo hi : Int) : decide (0 ≤ lo ∧ lo ≤ hi ∧ hi < 720 ∧ hi - lo ≤ 30) = spB lo hi 0 719 30 := by
  unfold spB
  rw [← Bool.decide_and, ← Bool.decide_and, ← Bool.decide_and]
  exact decide_eq_decide.2 (by omega)
theorem okOw_eq (o : Ow) : okOw o = (wI o.set_ 0 1440 && spB o.lo o.hi (-10) 10 2 && wI o.huts 0 63) := by unfold okOw; rw [spB_own]
theorem okFi_eq (f : Fi) : okFi f = (wI f.hut 0 5 && wI f.minute 0 1440 && spB f.lo f.hi 0 719 30) := by unfold okFi; rw [spB_fnd]
set_option maxRecDepth 8000 in
set_option maxHeartbeats 8000000 in
theorem rwatches_ok (w : Wa) (hL : Lens w) : ACall Tryz.prog 16 [.t (tWa w)] [] (ret (vb w.ok)) := by
  refine ACall.walk k16 ?_
  have hLo := hL.o
  have hLf := hL.f
  have hp := power_ok 6 (by decide)
  have hmin := rmin_ok
  have hok : w.ok = (decide (w.os.length ≤ 5 ∧ w.fs.length ≤ 4) && w.os.all okOw && w.fs.all okFi) := rfl
  unfold c16 tWa wa2
  have wlo : ((w.os.length : Int) > 5) ↔ ¬ w.os.length ≤ 5 := by omega
  have wlf : ((w.fs.length : Int) > 4) ↔ ¬ w.fs.length ≤ 4 := by omega
  simp only [go_sem, Nat.reduceEqDiff, Nat.reduceAdd, Nat.reduceSub, Nat.reduceMul, Nat.reduceLT, Nat.reduceLeDiff, Nat.reduceMod, Nat.reduceDiv, Int.reduceToNat, Int.reduceLT, Int.reduceLE, Bool.not_true, Bool.not_false, reduceIte, Int.reduceEq, Int.reduceBEq, Int.reduceBNe, Int.reduceGT, Int.reduceGE, Int.reduceNeg, Int.reduceAdd, Int.reduceSub, Nat.reduceBEq, decide_true, decide_false, undef, beq_self_eq_true, bne_self_eq_false, Bool.and_true, Bool.true_and, Bool.and_false, Bool.false_and, Bool.or_true, Bool.true_or, Bool.or_false, Bool.false_or, List.length_map]
  cases g1 : decide ((w.os.length : Int) > 5)
  rotate_left
  · have : decide (w.os.length ≤ 5 ∧ w.fs.length ≤ 4) = false := decide_eq_false fun h => by have := of_decide_eq_true g1; omega
    rw [this] at hok
    simp only [go_sem, Nat.reduceEqDiff, Nat.reduceAdd, Nat.reduceSub, Nat.reduceMul, Nat.reduceLT, Nat.reduceLeDiff, Nat.reduceMod, Nat.reduceDiv, Int.reduceToNat, Int.reduceLT, Int.reduceLE, Bool.not_true, Bool.not_false, reduceIte, Int.reduceEq, Int.reduceBEq, Int.reduceBNe, Int.reduceGT, Int.reduceGE, Int.reduceNeg, Int.reduceAdd, Int.reduceSub, Nat.reduceBEq, decide_true, decide_false, undef, beq_self_eq_true, bne_self_eq_false, Bool.and_true, Bool.true_and, Bool.and_false, Bool.false_and, Bool.or_true, Bool.true_or, Bool.or_false, Bool.false_or, g1]
    exact finL_ret [] ⟨rfl, rfl, rfl, rfl, _, rfl, ret_mk (by rw [hok]; rfl)⟩
  simp only [go_sem, Nat.reduceEqDiff, Nat.reduceAdd, Nat.reduceSub, Nat.reduceMul, Nat.reduceLT, Nat.reduceLeDiff, Nat.reduceMod, Nat.reduceDiv, Int.reduceToNat, Int.reduceLT, Int.reduceLE, Bool.not_true, Bool.not_false, reduceIte, Int.reduceEq, Int.reduceBEq, Int.reduceBNe, Int.reduceGT, Int.reduceGE, Int.reduceNeg, Int.reduceAdd, Int.reduceSub, Nat.reduceBEq, decide_true, decide_false, undef, beq_self_eq_true, bne_self_eq_false, Bool.and_true, Bool.true_and, Bool.and_false, Bool.false_and, Bool.or_true, Bool.true_or, Bool.or_false, Bool.false_or, g1, List.length_map]
  cases g2 : decide ((w.fs.length : Int) > 4)
  rotate_left
  · have : decide (w.os.length ≤ 5 ∧ w.fs.length ≤ 4) = false := decide_eq_false fun h => by have := of_decide_eq_true g2; omega
    rw [this] at hok
    simp only [go_sem, Nat.reduceEqDiff, Nat.reduceAdd, Nat.reduceSub, Nat.reduceMul, Nat.reduceLT, Nat.reduceLeDiff, Nat.reduceMod, Nat.reduceDiv, Int.reduceToNat, Int.reduceLT, Int.reduceLE, Bool.not_true, Bool.not_false, reduceIte, Int.reduceEq, Int.reduceBEq, Int.reduceBNe, Int.reduceGT, Int.reduceGE, Int.reduceNeg, Int.reduceAdd, Int.reduceSub, Nat.reduceBEq, decide_true, decide_false, undef, beq_self_eq_true, bne_self_eq_false, Bool.and_true, Bool.true_and, Bool.and_false, Bool.false_and, Bool.or_true, Bool.true_or, Bool.or_false, Bool.false_or, g2]
    exact finL_ret [] ⟨rfl, rfl, rfl, rfl, _, rfl, ret_mk (by rw [hok]; rfl)⟩
  have hd : decide (w.os.length ≤ 5 ∧ w.fs.length ≤ 4) = true := decide_eq_true (by have := of_decide_eq_false g1; have := of_decide_eq_false g2; omega)
  rw [hd, Bool.true_and] at hok
  simp only [go_sem, Nat.reduceEqDiff, Nat.reduceAdd, Nat.reduceSub, Nat.reduceMul, Nat.reduceLT, Nat.reduceLeDiff, Nat.reduceMod, Nat.reduceDiv, Int.reduceToNat, Int.reduceLT, Int.reduceLE, Bool.not_true, Bool.not_false, reduceIte, Int.reduceEq, Int.reduceBEq, Int.reduceBNe, Int.reduceGT, Int.reduceGE, Int.reduceNeg, Int.reduceAdd, Int.reduceSub, Nat.reduceBEq, decide_true, decide_false, undef, beq_self_eq_true, bne_self_eq_false, Bool.and_true, Bool.true_and, Bool.and_false, Bool.false_and, Bool.or_true, Bool.true_or, Bool.or_false, Bool.false_or, g2]
  have hlo : w.os.length ≤ 5 := (of_decide_eq_true hd).1
  have hlf : w.fs.length ≤ 4 := (of_decide_eq_true hd).2
  refine awpL_loopK w.os.length (fun j s => (w.os.take j).all okOw = true ∧ s = { env := [(3, .t (vi j)), (1, .ptr 0 0)], σ := [.cells [.t (.slice 4 (w.os.map tOw)), .t (.slice 5 (w.fs.map tFi))]] }) ⟨_, Sub.gc [0] [3, 1] rfl rfl, rfl, rfl⟩ ?_
  rintro j s hj ⟨hK, rfl⟩
  have hj0 : ((j : Int) < 0) = False := eq_false (by omega)
  cases g : decide ((j : Int) < w.os.length)
  · have hje : j = w.os.length := by have := of_decide_eq_false g; omega
    rw [hje, List.take_length] at hK
    rw [hK, Bool.true_and] at hok
    simp only [go_sem, Nat.reduceEqDiff, Nat.reduceAdd, Nat.reduceSub, Nat.reduceMul, Nat.reduceLT, Nat.reduceLeDiff, Nat.reduceMod, Nat.reduceDiv, Int.reduceToNat, Int.reduceLT, Int.reduceLE, Bool.not_true, Bool.not_false, reduceIte, Int.reduceEq, Int.reduceBEq, Int.reduceBNe, Int.reduceGT, Int.reduceGE, Int.reduceNeg, Int.reduceAdd, Int.reduceSub, Nat.reduceBEq, decide_true, decide_false, undef, beq_self_eq_true, bne_self_eq_false, Bool.and_true, Bool.true_and, Bool.and_false, Bool.false_and, Bool.or_true, Bool.true_or, Bool.or_false, Bool.false_or, List.length_map, g]
    refine awpL_loopK w.fs.length (fun j s => (w.fs.take j).all okFi = true ∧ s = { env := [(5, .t (vi j)), (1, .ptr 0 0)], σ := [.cells [.t (.slice 4 (w.os.map tOw)), .t (.slice 5 (w.fs.map tFi))]] }) ⟨_, Sub.gc [0] [5, 1] rfl rfl, rfl, rfl⟩ ?_
    clear hje hj0 g hj j
    rintro j s hj ⟨hK, rfl⟩
    have hj0 : ((j : Int) < 0) = False := eq_false (by omega)
    cases g : decide ((j : Int) < w.fs.length)
    · have hje : j = w.fs.length := by have := of_decide_eq_false g; omega
      rw [hje, List.take_length] at hK
      rw [hK] at hok
      simp only [go_sem, Nat.reduceEqDiff, Nat.reduceAdd, Nat.reduceSub, Nat.reduceMul, Nat.reduceLT, Nat.reduceLeDiff, Nat.reduceMod, Nat.reduceDiv, Int.reduceToNat, Int.reduceLT, Int.reduceLE, Bool.not_true, Bool.not_false, reduceIte, Int.reduceEq, Int.reduceBEq, Int.reduceBNe, Int.reduceGT, Int.reduceGE, Int.reduceNeg, Int.reduceAdd, Int.reduceSub, Nat.reduceBEq, decide_true, decide_false, undef, beq_self_eq_true, bne_self_eq_false, Bool.and_true, Bool.true_and, Bool.and_false, Bool.false_and, Bool.or_true, Bool.true_or, Bool.or_false, Bool.false_or, List.length_map, g]
      exact finL_ret [] ⟨rfl, rfl, rfl, rfl, _, rfl, ret_mk (by rw [hok])⟩
    have hjl : j < w.fs.length := by have := of_decide_eq_true g; omega
    have hx : w.fs[j]? = some w.fs[j] := List.getElem?_eq_getElem hjl
    have tx : w.fs.take (j + 1) = w.fs.take j ++ [w.fs[j]] := by rw [List.take_add_one, hx]; rfl
    have mx := List.getElem_mem hjl
    have hw : IntKind.i64.wrap ((j : Int) + 1) = ((j + 1 : Nat) : Int) := by rw [wrap_id (by omega) (by omega)]; omega
    generalize w.fs[j] = o at *
    have bad : okFi o = false → w.ok = false := fun h => by
      rw [hok]
      cases hh : w.fs.all okFi
      · rfl
      · rw [List.all_eq_true.1 hh o mx] at h; cases h
    rw [okFi_eq] at bad
    have hsp := rspan_ok o.lo o.hi 0 719 30 (by omega) (by omega)
    have hin := rin_ok o.hut 0 5
    have hmi := hmin o.minute
    have hto : tFi o = .agg [vi o.hut, vi o.minute, vi o.lo, vi o.hi, vb o.stopped] := rfl
    unfold tSp at hsp
    simp only [go_sem, Nat.reduceEqDiff, Nat.reduceAdd, Nat.reduceSub, Nat.reduceMul, Nat.reduceLT, Nat.reduceLeDiff, Nat.reduceMod, Nat.reduceDiv, Int.reduceToNat, Int.reduceLT, Int.reduceLE, Bool.not_true, Bool.not_false, reduceIte, Int.reduceEq, Int.reduceBEq, Int.reduceBNe, Int.reduceGT, Int.reduceGE, Int.reduceNeg, Int.reduceAdd, Int.reduceSub, Nat.reduceBEq, decide_true, decide_false, undef, beq_self_eq_true, bne_self_eq_false, Bool.and_true, Bool.true_and, Bool.and_false, Bool.false_and, Bool.or_true, Bool.true_or, Bool.or_false, Bool.false_or, List.length_map, g, hj0, List.getElem?_map, hx, Option.map_some, hto]
    refine ACallL.quiet1 hin rfl rfl rfl ?_
    cases h1 : wI o.hut 0 5
    · simp only [go_sem, Nat.reduceEqDiff, Nat.reduceAdd, Nat.reduceSub, Nat.reduceMul, Nat.reduceLT, Nat.reduceLeDiff, Nat.reduceMod, Nat.reduceDiv, Int.reduceToNat, Int.reduceLT, Int.reduceLE, Bool.not_true, Bool.not_false, reduceIte, Int.reduceEq, Int.reduceBEq, Int.reduceBNe, Int.reduceGT, Int.reduceGE, Int.reduceNeg, Int.reduceAdd, Int.reduceSub, Nat.reduceBEq, decide_true, decide_false, undef, beq_self_eq_true, bne_self_eq_false, Bool.and_true, Bool.true_and, Bool.and_false, Bool.false_and, Bool.or_true, Bool.true_or, Bool.or_false, Bool.false_or, h1]
      exact finL_ret [] ⟨rfl, rfl, rfl, rfl, _, rfl, ret_mk (by rw [bad (by rw [h1]; rfl)])⟩
    simp only [go_sem, Nat.reduceEqDiff, Nat.reduceAdd, Nat.reduceSub, Nat.reduceMul, Nat.reduceLT, Nat.reduceLeDiff, Nat.reduceMod, Nat.reduceDiv, Int.reduceToNat, Int.reduceLT, Int.reduceLE, Bool.not_true, Bool.not_false, reduceIte, Int.reduceEq, Int.reduceBEq, Int.reduceBNe, Int.reduceGT, Int.reduceGE, Int.reduceNeg, Int.reduceAdd, Int.reduceSub, Nat.reduceBEq, decide_true, decide_false, undef, beq_self_eq_true, bne_self_eq_false, Bool.and_true, Bool.true_and, Bool.and_false, Bool.false_and, Bool.or_true, Bool.true_or, Bool.or_false, Bool.false_or, h1]
    refine ACallL.quiet1 hmi rfl rfl rfl ?_
    cases h2 : wI o.minute 0 1440
    · simp only [go_sem, Nat.reduceEqDiff, Nat.reduceAdd, Nat.reduceSub, Nat.reduceMul, Nat.reduceLT, Nat.reduceLeDiff, Nat.reduceMod, Nat.reduceDiv, Int.reduceToNat, Int.reduceLT, Int.reduceLE, Bool.not_true, Bool.not_false, reduceIte, Int.reduceEq, Int.reduceBEq, Int.reduceBNe, Int.reduceGT, Int.reduceGE, Int.reduceNeg, Int.reduceAdd, Int.reduceSub, Nat.reduceBEq, decide_true, decide_false, undef, beq_self_eq_true, bne_self_eq_false, Bool.and_true, Bool.true_and, Bool.and_false, Bool.false_and, Bool.or_true, Bool.true_or, Bool.or_false, Bool.false_or, h2]
      exact finL_ret [] ⟨rfl, rfl, rfl, rfl, _, rfl, ret_mk (by rw [bad (by rw [h1, h2]; rfl)])⟩
    simp only [go_sem, Nat.reduceEqDiff, Nat.reduceAdd, Nat.reduceSub, Nat.reduceMul, Nat.reduceLT, Nat.reduceLeDiff, Nat.reduceMod, Nat.reduceDiv, Int.reduceToNat, Int.reduceLT, Int.reduceLE, Bool.not_true, Bool.not_false, reduceIte, Int.reduceEq, Int.reduceBEq, Int.reduceBNe, Int.reduceGT, Int.reduceGE, Int.reduceNeg, Int.reduceAdd, Int.reduceSub, Nat.reduceBEq, decide_true, decide_false, undef, beq_self_eq_true, bne_self_eq_false, Bool.and_true, Bool.true_and, Bool.and_false, Bool.false_and, Bool.or_true, Bool.true_or, Bool.or_false, Bool.false_or, h2]
    refine ACallL.quiet1 hsp rfl rfl rfl ?_
    cases h3 : spB o.lo o.hi 0 719 30
    · simp only [go_sem, Nat.reduceEqDiff, Nat.reduceAdd, Nat.reduceSub, Nat.reduceMul, Nat.reduceLT, Nat.reduceLeDiff, Nat.reduceMod, Nat.reduceDiv, Int.reduceToNat, Int.reduceLT, Int.reduceLE, Bool.not_true, Bool.not_false, reduceIte, Int.reduceEq, Int.reduceBEq, Int.reduceBNe, Int.reduceGT, Int.reduceGE, Int.reduceNeg, Int.reduceAdd, Int.reduceSub, Nat.reduceBEq, decide_true, decide_false, undef, beq_self_eq_true, bne_self_eq_false, Bool.and_true, Bool.true_and, Bool.and_false, Bool.false_and, Bool.or_true, Bool.true_or, Bool.or_false, Bool.false_or, h3]
      exact finL_ret [] ⟨rfl, rfl, rfl, rfl, _, rfl, ret_mk (by rw [bad (by rw [h1, h2, h3]; rfl)])⟩
    simp only [go_sem, Nat.reduceEqDiff, Nat.reduceAdd, Nat.reduceSub, Nat.reduceMul, Nat.reduceLT, Nat.reduceLeDiff, Nat.reduceMod, Nat.reduceDiv, Int.reduceToNat, Int.reduceLT, Int.reduceLE, Bool.not_true, Bool.not_false, reduceIte, Int.reduceEq, Int.reduceBEq, Int.reduceBNe, Int.reduceGT, Int.reduceGE, Int.reduceNeg, Int.reduceAdd, Int.reduceSub, Nat.reduceBEq, decide_true, decide_false, undef, beq_self_eq_true, bne_self_eq_false, Bool.and_true, Bool.true_and, Bool.and_false, Bool.false_and, Bool.or_true, Bool.true_or, Bool.or_false, Bool.false_or, h3, hw]
    refine ⟨hjl, _, Sub.gc [0] [5, 1] rfl rfl, ?_, St.gc_mk rfl rfl rfl rfl⟩
    rw [tx, List.all_append, hK, List.all_cons, okFi_eq, h1, h2, h3]
    rfl
  have hjl : j < w.os.length := by have := of_decide_eq_true g; omega
  have hx : w.os[j]? = some w.os[j] := List.getElem?_eq_getElem hjl
  have tx : w.os.take (j + 1) = w.os.take j ++ [w.os[j]] := by rw [List.take_add_one, hx]; rfl
  have mx := List.getElem_mem hjl
  have hw : IntKind.i64.wrap ((j : Int) + 1) = ((j + 1 : Nat) : Int) := by rw [wrap_id (by omega) (by omega)]; omega
  generalize w.os[j] = o at *
  have bad : okOw o = false → w.ok = false := fun h => by
    rw [hok]
    cases hh : w.os.all okOw
    · rfl
    · rw [List.all_eq_true.1 hh o mx] at h; cases h
  rw [okOw_eq] at bad
  have hsp := rspan_ok o.lo o.hi (-10) 10 2 (by omega) (by omega)
  have hin := rin_ok o.huts 0 63
  have hmi := hmin o.set_
  have hto : tOw o = .agg [vi o.set_, vi o.lo, vi o.hi, vi o.huts] := rfl
  have w63 : IntKind.i64.wrap (((2 ^ 6 : Nat) : Int) - 1) = 63 := by decide
  unfold tSp at hsp
  simp only [go_sem, Nat.reduceEqDiff, Nat.reduceAdd, Nat.reduceSub, Nat.reduceMul, Nat.reduceLT, Nat.reduceLeDiff, Nat.reduceMod, Nat.reduceDiv, Int.reduceToNat, Int.reduceLT, Int.reduceLE, Bool.not_true, Bool.not_false, reduceIte, Int.reduceEq, Int.reduceBEq, Int.reduceBNe, Int.reduceGT, Int.reduceGE, Int.reduceNeg, Int.reduceAdd, Int.reduceSub, Nat.reduceBEq, decide_true, decide_false, undef, beq_self_eq_true, bne_self_eq_false, Bool.and_true, Bool.true_and, Bool.and_false, Bool.false_and, Bool.or_true, Bool.true_or, Bool.or_false, Bool.false_or, List.length_map, g, hj0, List.getElem?_map, hx, Option.map_some, hto]
  refine ACallL.quiet1 hmi rfl rfl rfl ?_
  cases h1 : wI o.set_ 0 1440
  · simp only [go_sem, Nat.reduceEqDiff, Nat.reduceAdd, Nat.reduceSub, Nat.reduceMul, Nat.reduceLT, Nat.reduceLeDiff, Nat.reduceMod, Nat.reduceDiv, Int.reduceToNat, Int.reduceLT, Int.reduceLE, Bool.not_true, Bool.not_false, reduceIte, Int.reduceEq, Int.reduceBEq, Int.reduceBNe, Int.reduceGT, Int.reduceGE, Int.reduceNeg, Int.reduceAdd, Int.reduceSub, Nat.reduceBEq, decide_true, decide_false, undef, beq_self_eq_true, bne_self_eq_false, Bool.and_true, Bool.true_and, Bool.and_false, Bool.false_and, Bool.or_true, Bool.true_or, Bool.or_false, Bool.false_or, h1]
    exact finL_ret [] ⟨rfl, rfl, rfl, rfl, _, rfl, ret_mk (by rw [bad (by rw [h1]; rfl)])⟩
  simp only [go_sem, Nat.reduceEqDiff, Nat.reduceAdd, Nat.reduceSub, Nat.reduceMul, Nat.reduceLT, Nat.reduceLeDiff, Nat.reduceMod, Nat.reduceDiv, Int.reduceToNat, Int.reduceLT, Int.reduceLE, Bool.not_true, Bool.not_false, reduceIte, Int.reduceEq, Int.reduceBEq, Int.reduceBNe, Int.reduceGT, Int.reduceGE, Int.reduceNeg, Int.reduceAdd, Int.reduceSub, Nat.reduceBEq, decide_true, decide_false, undef, beq_self_eq_true, bne_self_eq_false, Bool.and_true, Bool.true_and, Bool.and_false, Bool.false_and, Bool.or_true, Bool.true_or, Bool.or_false, Bool.false_or, h1]
  refine ACallL.quiet1 hsp rfl rfl rfl ?_
  cases h2 : spB o.lo o.hi (-10) 10 2
  · simp only [go_sem, Nat.reduceEqDiff, Nat.reduceAdd, Nat.reduceSub, Nat.reduceMul, Nat.reduceLT, Nat.reduceLeDiff, Nat.reduceMod, Nat.reduceDiv, Int.reduceToNat, Int.reduceLT, Int.reduceLE, Bool.not_true, Bool.not_false, reduceIte, Int.reduceEq, Int.reduceBEq, Int.reduceBNe, Int.reduceGT, Int.reduceGE, Int.reduceNeg, Int.reduceAdd, Int.reduceSub, Nat.reduceBEq, decide_true, decide_false, undef, beq_self_eq_true, bne_self_eq_false, Bool.and_true, Bool.true_and, Bool.and_false, Bool.false_and, Bool.or_true, Bool.true_or, Bool.or_false, Bool.false_or, h2]
    exact finL_ret [] ⟨rfl, rfl, rfl, rfl, _, rfl, ret_mk (by rw [bad (by rw [h1, h2]; rfl)])⟩
  simp only [go_sem, Nat.reduceEqDiff, Nat.reduceAdd, Nat.reduceSub, Nat.reduceMul, Nat.reduceLT, Nat.reduceLeDiff, Nat.reduceMod, Nat.reduceDiv, Int.reduceToNat, Int.reduceLT, Int.reduceLE, Bool.not_true, Bool.not_false, reduceIte, Int.reduceEq, Int.reduceBEq, Int.reduceBNe, Int.reduceGT, Int.reduceGE, Int.reduceNeg, Int.reduceAdd, Int.reduceSub, Nat.reduceBEq, decide_true, decide_false, undef, beq_self_eq_true, bne_self_eq_false, Bool.and_true, Bool.true_and, Bool.and_false, Bool.false_and, Bool.or_true, Bool.true_or, Bool.or_false, Bool.false_or, h2]
  refine ACallL.quiet1 hp rfl rfl rfl ?_
  simp only [go_sem, Nat.reduceEqDiff, Nat.reduceAdd, Nat.reduceSub, Nat.reduceMul, Nat.reduceLT, Nat.reduceLeDiff, Nat.reduceMod, Nat.reduceDiv, Int.reduceToNat, Int.reduceLT, Int.reduceLE, Bool.not_true, Bool.not_false, reduceIte, Int.reduceEq, Int.reduceBEq, Int.reduceBNe, Int.reduceGT, Int.reduceGE, Int.reduceNeg, Int.reduceAdd, Int.reduceSub, Nat.reduceBEq, decide_true, decide_false, undef, beq_self_eq_true, bne_self_eq_false, Bool.and_true, Bool.true_and, Bool.and_false, Bool.false_and, Bool.or_true, Bool.true_or, Bool.or_false, Bool.false_or, w63]
  refine ACallL.quiet1 hin rfl rfl rfl ?_
  cases h3 : wI o.huts 0 63
  · simp only [go_sem, Nat.reduceEqDiff, Nat.reduceAdd, Nat.reduceSub, Nat.reduceMul, Nat.reduceLT, Nat.reduceLeDiff, Nat.reduceMod, Nat.reduceDiv, Int.reduceToNat, Int.reduceLT, Int.reduceLE, Bool.not_true, Bool.not_false, reduceIte, Int.reduceEq, Int.reduceBEq, Int.reduceBNe, Int.reduceGT, Int.reduceGE, Int.reduceNeg, Int.reduceAdd, Int.reduceSub, Nat.reduceBEq, decide_true, decide_false, undef, beq_self_eq_true, bne_self_eq_false, Bool.and_true, Bool.true_and, Bool.and_false, Bool.false_and, Bool.or_true, Bool.true_or, Bool.or_false, Bool.false_or, h3]
    exact finL_ret [] ⟨rfl, rfl, rfl, rfl, _, rfl, ret_mk (by rw [bad (by rw [h1, h2, h3]; rfl)])⟩
  simp only [go_sem, Nat.reduceEqDiff, Nat.reduceAdd, Nat.reduceSub, Nat.reduceMul, Nat.reduceLT, Nat.reduceLeDiff, Nat.reduceMod, Nat.reduceDiv, Int.reduceToNat, Int.reduceLT, Int.reduceLE, Bool.not_true, Bool.not_false, reduceIte, Int.reduceEq, Int.reduceBEq, Int.reduceBNe, Int.reduceGT, Int.reduceGE, Int.reduceNeg, Int.reduceAdd, Int.reduceSub, Nat.reduceBEq, decide_true, decide_false, undef, beq_self_eq_true, bne_self_eq_false, Bool.and_true, Bool.true_and, Bool.and_false, Bool.false_and, Bool.or_true, Bool.true_or, Bool.or_false, Bool.false_or, h3, hw]
  refine ⟨hjl, _, Sub.gc [0] [3, 1] rfl rfl, ?_, St.gc_mk rfl rfl rfl rfl⟩
  rw [tx, List.all_append, hK, List.all_cons, okOw_eq, h1, h2, h3]
  rfl
end Go.Proofs.YtnmmhkkmejbckaaGreatDoor
