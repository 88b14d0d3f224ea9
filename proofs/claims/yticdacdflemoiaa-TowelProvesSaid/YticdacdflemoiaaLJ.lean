/- Proved here: laws that the statements need (TwU2). No conditions but those that each law states. -/
import Derived.Test.YticdacdflemoiaaLF
import Derived.Test.YticdacdflemoiaaLH

set_option linter.unusedSimpArgs false
set_option linter.unusedVariables false

/- TowelLooks and TowelProves. -/
namespace Go.Proofs.Yticdacdflemoiaa
open Go Go.Ab

set_option maxRecDepth 8000 in
set_option maxHeartbeats 4000000 in
theorem TowelLooks_ok (t : Tw) : ACall Try.prog 4 [.t (.agg (tw3 t))] [] (res (.ret (.t (vb true)))) := by
  have h25 := Fewest_ok t
  have h26 := rFewest_ok t
  have h27 := Search_ok t
  have h28 := rSearch_ok t
  rw [Fewest_eq] at h25
  rw [Search_eq] at h27
  obtain ⟨g, h, j, h2⟩ : ∃ a b c, docFewest t = (a, b, c) := ⟨_, _, _, rfl⟩
  obtain ⟨l, m, n, h3⟩ : ∃ a b c, docSearch t = (a, b, c) := ⟨_, _, _, rfl⟩
  rw [h2] at h25 h26
  rw [h3] at h27 h28
  clear h2 h3
  simp only [twoE] at h25 h26 h27 h28
  refine ACall.walk k4 ?_
  unfold c4 tw3
  simp only [go_sem, Nat.reduceEqDiff, Nat.reduceAdd, Nat.reduceSub, Nat.reduceMul, Nat.reduceLT, Nat.reduceLeDiff, Nat.reduceMod, Nat.reduceDiv, Int.reduceToNat, Int.reduceLT, Int.reduceLE, Bool.not_true, Bool.not_false, reduceIte]
  refine ACallL.quiet1 (heavy_ok t 5) rfl rfl rfl ?_
  cases heavyB t 5
  · simp only [go_sem, Nat.reduceEqDiff, Nat.reduceAdd, Nat.reduceSub, Nat.reduceMul, Nat.reduceLT, Nat.reduceLeDiff, Nat.reduceMod, Nat.reduceDiv, Int.reduceToNat, Int.reduceLT, Int.reduceLE, Bool.not_true, Bool.not_false, reduceIte, undef]
    refine ACallL.fresh1 h25 rfl ?_
    simp only [go_sem, Nat.reduceEqDiff, Nat.reduceAdd, Nat.reduceSub, Nat.reduceMul, Nat.reduceLT, Nat.reduceLeDiff, Nat.reduceMod, Nat.reduceDiv, Int.reduceToNat, Int.reduceLT, Int.reduceLE, Bool.not_true, Bool.not_false, reduceIte]
    refine ACallL.fresh1 h26 rfl ?_
    simp only [go_sem, Nat.reduceEqDiff, Nat.reduceAdd, Nat.reduceSub, Nat.reduceMul, Nat.reduceLT, Nat.reduceLeDiff, Nat.reduceMod, Nat.reduceDiv, Int.reduceToNat, Int.reduceLT, Int.reduceLE, Bool.not_true, Bool.not_false, reduceIte]
    refine ACallL.fresh1 h27 rfl ?_
    simp only [go_sem, Nat.reduceEqDiff, Nat.reduceAdd, Nat.reduceSub, Nat.reduceMul, Nat.reduceLT, Nat.reduceLeDiff, Nat.reduceMod, Nat.reduceDiv, Int.reduceToNat, Int.reduceLT, Int.reduceLE, Bool.not_true, Bool.not_false, reduceIte]
    refine ACallL.fresh1 h28 rfl ?_
    simp only [go_sem, Nat.reduceEqDiff, Nat.reduceAdd, Nat.reduceSub, Nat.reduceMul, Nat.reduceLT, Nat.reduceLeDiff, Nat.reduceMod, Nat.reduceDiv, Int.reduceToNat, Int.reduceLT, Int.reduceLE, Bool.not_true, Bool.not_false, reduceIte, undef, toKey2, kEq2, beq_self_eq_true, bne_self_eq_false, Bool.and_true, Bool.not_true, Bool.not_false]
    refine ACallL.quiet1 awake_ok rfl rfl rfl ?_
    simp only [go_sem, Nat.reduceEqDiff, Nat.reduceAdd, Nat.reduceSub, Nat.reduceMul, Nat.reduceLT, Nat.reduceLeDiff, Nat.reduceMod, Nat.reduceDiv, Int.reduceToNat, Int.reduceLT, Int.reduceLE, Bool.not_true, Bool.not_false, reduceIte, undef, toKey2, kEq2, beq_self_eq_true, bne_self_eq_false, Bool.and_true, Bool.not_true, Bool.not_false]
    exact finL_ret [] ⟨rfl, rfl, rfl, rfl, _, rfl, res_mk rfl⟩
  · simp only [go_sem, Nat.reduceEqDiff, Nat.reduceAdd, Nat.reduceSub, Nat.reduceMul, Nat.reduceLT, Nat.reduceLeDiff, Nat.reduceMod, Nat.reduceDiv, Int.reduceToNat, Int.reduceLT, Int.reduceLE, Bool.not_true, Bool.not_false, reduceIte, undef]
    refine ACallL.quiet1 awake_ok rfl rfl rfl ?_
    simp only [go_sem, Nat.reduceEqDiff, Nat.reduceAdd, Nat.reduceSub, Nat.reduceMul, Nat.reduceLT, Nat.reduceLeDiff, Nat.reduceMod, Nat.reduceDiv, Int.reduceToNat, Int.reduceLT, Int.reduceLE, Bool.not_true, Bool.not_false, reduceIte, undef]
    exact finL_ret [] ⟨rfl, rfl, rfl, rfl, _, rfl, res_mk rfl⟩

set_option maxRecDepth 8000 in
set_option maxHeartbeats 4000000 in
theorem TowelProves_ok (t : Tw) : ACall Try.prog 5 [.t (.agg (tw3 t))] [] (res (.ret (.t (vb true)))) := by
  have h29 := Clash_ok t
  have h30 := rClash_ok t
  rw [Clash_eq] at h29
  obtain ⟨g, h, j, h2⟩ : ∃ a b c, docClash t = (a, b, c) := ⟨_, _, _, rfl⟩
  rw [h2] at h29 h30
  clear h2
  simp only [twoE] at h29 h30
  refine ACall.walk k5 ?_
  unfold c5 tw3
  simp only [go_sem, Nat.reduceEqDiff, Nat.reduceAdd, Nat.reduceSub, Nat.reduceMul, Nat.reduceLT, Nat.reduceLeDiff, Nat.reduceMod, Nat.reduceDiv, Int.reduceToNat, Int.reduceLT, Int.reduceLE, Bool.not_true, Bool.not_false, reduceIte]
  refine ACallL.quiet1 (heavy_ok t 4) rfl rfl rfl ?_
  cases heavyB t 4
  · simp only [go_sem, Nat.reduceEqDiff, Nat.reduceAdd, Nat.reduceSub, Nat.reduceMul, Nat.reduceLT, Nat.reduceLeDiff, Nat.reduceMod, Nat.reduceDiv, Int.reduceToNat, Int.reduceLT, Int.reduceLE, Bool.not_true, Bool.not_false, reduceIte, undef]
    refine ACallL.fresh1 h29 rfl ?_
    simp only [go_sem, Nat.reduceEqDiff, Nat.reduceAdd, Nat.reduceSub, Nat.reduceMul, Nat.reduceLT, Nat.reduceLeDiff, Nat.reduceMod, Nat.reduceDiv, Int.reduceToNat, Int.reduceLT, Int.reduceLE, Bool.not_true, Bool.not_false, reduceIte]
    refine ACallL.fresh1 h30 rfl ?_
    simp only [go_sem, Nat.reduceEqDiff, Nat.reduceAdd, Nat.reduceSub, Nat.reduceMul, Nat.reduceLT, Nat.reduceLeDiff, Nat.reduceMod, Nat.reduceDiv, Int.reduceToNat, Int.reduceLT, Int.reduceLE, Bool.not_true, Bool.not_false, reduceIte, undef, toKey2, kEq2, beq_self_eq_true, bne_self_eq_false, Bool.and_true, Bool.not_true, Bool.not_false]
    refine ACallL.quiet1 awake_ok rfl rfl rfl ?_
    simp only [go_sem, Nat.reduceEqDiff, Nat.reduceAdd, Nat.reduceSub, Nat.reduceMul, Nat.reduceLT, Nat.reduceLeDiff, Nat.reduceMod, Nat.reduceDiv, Int.reduceToNat, Int.reduceLT, Int.reduceLE, Bool.not_true, Bool.not_false, reduceIte, undef, toKey2, kEq2, beq_self_eq_true, bne_self_eq_false, Bool.and_true, Bool.not_true, Bool.not_false]
    exact finL_ret [] ⟨rfl, rfl, rfl, rfl, _, rfl, res_mk rfl⟩
  · simp only [go_sem, Nat.reduceEqDiff, Nat.reduceAdd, Nat.reduceSub, Nat.reduceMul, Nat.reduceLT, Nat.reduceLeDiff, Nat.reduceMod, Nat.reduceDiv, Int.reduceToNat, Int.reduceLT, Int.reduceLE, Bool.not_true, Bool.not_false, reduceIte, undef]
    refine ACallL.quiet1 awake_ok rfl rfl rfl ?_
    simp only [go_sem, Nat.reduceEqDiff, Nat.reduceAdd, Nat.reduceSub, Nat.reduceMul, Nat.reduceLT, Nat.reduceLeDiff, Nat.reduceMod, Nat.reduceDiv, Int.reduceToNat, Int.reduceLT, Int.reduceLE, Bool.not_true, Bool.not_false, reduceIte, undef]
    exact finL_ret [] ⟨rfl, rfl, rfl, rfl, _, rfl, res_mk rfl⟩
end Go.Proofs.Yticdacdflemoiaa
