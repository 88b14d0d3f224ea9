/- Proved here: laws that the statements need (FlXB). No conditions but those that each law states. -/
import Derived.Test.YtkbjodmpmmnhgaaDoorMW

set_option linter.unusedSimpArgs false
set_option linter.unusedVariables false

/- FlagEnds. -/
namespace Go.Proofs.YtkbjodmpmmnhgaaDoor
open Go Go.Ab

theorem shr_hours : ∀ U, U < 512 → ∀ b, b < 10 → ∀ a, a < b → ((U >>> a) &&& (2 ^ (b - a) - 1) ≠ 0 ↔ U &&& (2 ^ b - 2 ^ a) ≠ 0) := by
  intro U hU b hb a ha
  have h : ((List.range 512).all fun U => (List.range 10).all fun b => (List.range b).all fun a => decide (((U >>> a) &&& (2 ^ (b - a) - 1) ≠ 0) = (U &&& (2 ^ b - 2 ^ a) ≠ 0)) || decide ((U >>> a) &&& (2 ^ (b - a) - 1) ≠ 0 ↔ U &&& (2 ^ b - 2 ^ a) ≠ 0)) = true := by decide +kernel
  have h3 := List.all_eq_true.1 (List.all_eq_true.1 (List.all_eq_true.1 h U (List.mem_range.2 hU)) b (List.mem_range.2 hb)) a (List.mem_range.2 ha)
  simp only [Bool.or_eq_true, decide_eq_true_eq] at h3
  rcases h3 with h | h
  · rw [h]
  · exact h

theorem hullU_no' {f : Fl} (hT : noT f = true) (a b : Int) : hullU f a b = none := by
  unfold hullU
  rw [noT_nil hT]
  rfl
def EnMid1 (f : Fl) (a b : Nat) (s : St) : Prop := lk s.env 3 = .ptr 0 0 ∧ lk s.env 20 = .t (vi a) ∧ lk s.env 21 = .t (vi b) ∧ lk s.env 18 = .t (.slice 1 ((rows f).map elK)) ∧ s.σ = [.cells ((fl5 f).map .t)] ∧ s.df = [] ∧ s.k = 0

def loF (f : Fl) (l : List (List Nat)) : Int := l.foldl (fun x ks => min x (size (upM f ks) : Int)) 40
def hiF (f : Fl) (l : List (List Nat)) : Int := l.foldl (fun x ks => max x (size (upM f ks) : Int)) 0
def someF (f : Fl) (a b : Nat) (l : List (List Nat)) : Nat := l.countP fun ks => decide (upM f ks &&& (2 ^ b - 2 ^ a) ≠ 0)
theorem loF_snoc (f : Fl) (l : List (List Nat)) (ks : List Nat) : loF f (l ++ [ks]) = min (loF f l) (size (upM f ks) : Int) := by unfold loF; rw [List.foldl_append]; rfl
theorem hiF_snoc (f : Fl) (l : List (List Nat)) (ks : List Nat) : hiF f (l ++ [ks]) = max (hiF f l) (size (upM f ks) : Int) := by unfold hiF; rw [List.foldl_append]; rfl
theorem someF_snoc (f : Fl) (a b : Nat) (l : List (List Nat)) (ks : List Nat) : someF f a b (l ++ [ks]) = someF f a b l + if upM f ks &&& (2 ^ b - 2 ^ a) ≠ 0 then 1 else 0 := by
  unfold someF
  rw [List.countP_append, List.countP_singleton]
  simp only [decide_eq_true_eq]
theorem filter_take {α : Type} (p : α → Bool) (l : List α) {j : Nat} {x : α} (h : l[j]? = some x) : (l.take (j + 1)).filter p = (l.take j).filter p ++ if p x then [x] else [] := by
  obtain ⟨hk, e⟩ := List.getElem?_eq_some_iff.1 h
  rw [List.take_succ_eq_append_getElem hk, List.filter_append, e]
  congr 1
  simp only [List.filter]
  cases p x <;> rfl
theorem right_take (f : Fl) (ks : List Nat) {j : Nat} {x : Sn} (h : f.ss[j]? = some x) : right f (f.ss.take (j + 1)) ks = (right f (f.ss.take j) ks && (upAt f ks x.h.toNat == x.up)) := by
  obtain ⟨hk, e⟩ := List.getElem?_eq_some_iff.1 h
  rw [List.take_succ_eq_append_getElem hk, right_snoc, e]
def EnMid2 (f : Fl) (a b : Nat) (s : St) : Prop := lk s.env 3 = .ptr 0 0 ∧ lk s.env 20 = .t (vi a) ∧ lk s.env 21 = .t (vi b) ∧ lk s.env 22 = .t (vi (truths f).length) ∧ lk s.env 23 = .t (vi (meetM f (truths f))) ∧ lk s.env 24 = .t (vi (joinM f (truths f))) ∧ lk s.env 25 = .ptr 1 0 ∧ lk s.env 26 = .t (vi (someF f a b (truths f))) ∧
  s.σ = [.cells ((fl5 f).map .t), .cells [.t (vi (loF f (truths f))), .t (vi (hiF f (truths f)))]] ∧ s.df = [] ∧ s.k = 0

set_option maxRecDepth 8000 in
set_option maxHeartbeats 4000000 in
theorem FlagEnds_ok (f : Fl) (hL : Lens f) (u : Nat) (hu : u < 256) (v : Nat) (hv : v < 256) : ACall Tryd.prog 7 [.t (.agg (fl5 f)), .t (.lit (.int .u8 u)), .t (.lit (.int .u8 v))] [] (res (.ret (.t (vb true)))) := by
  refine ACall.walk k7 ?_
  have h35 := far_ok f
  have h36 := rflag_ok f hL
  have h19 := Count_ok f hL
  have h17 := Up_ok f hL
  unfold c7
  simp only [fl5] at h35 h36 h19 h17
  refine awpL_chop 11 (c1 := ?a1) (c2 := ?a2) (fun s => f.OK ∧ (rows f).length ≤ 300 ∧ ∃ a b, a < b ∧ b ≤ f.hs.length ∧ EnMid1 f a b s) ?hc ?_ ?_
  case hc => simp only [chop]; rfl
  · simp only [fl5, go_sem, Nat.reduceEqDiff, Nat.reduceAdd, Nat.reduceSub, Nat.reduceMul, Nat.reduceLT, Nat.reduceLeDiff, Nat.reduceMod, Nat.reduceDiv, Int.reduceToNat, Int.reduceLT, Int.reduceLE, Bool.not_true, Bool.not_false, reduceIte, Int.reduceEq, Int.reduceBEq, Int.reduceBNe, Int.reduceGT, Int.reduceGE, Int.reduceNeg, Int.reduceAdd, Int.reduceSub, Nat.reduceBEq, decide_true, decide_false, undef, beq_self_eq_true, bne_self_eq_false, Bool.and_true, Bool.true_and, Bool.and_false, Bool.false_and, Bool.or_true, Bool.true_or, Bool.or_false, Bool.false_or]
    refine ACallL.quiet1 h35 rfl rfl rfl ?_
    cases hF : farB f
    rotate_left
    · simp only [go_sem, Nat.reduceEqDiff, Nat.reduceAdd, Nat.reduceSub, Nat.reduceMul, Nat.reduceLT, Nat.reduceLeDiff, Nat.reduceMod, Nat.reduceDiv, Int.reduceToNat, Int.reduceLT, Int.reduceLE, Bool.not_true, Bool.not_false, reduceIte, Int.reduceEq, Int.reduceBEq, Int.reduceBNe, Int.reduceGT, Int.reduceGE, Int.reduceNeg, Int.reduceAdd, Int.reduceSub, Nat.reduceBEq, decide_true, decide_false, undef, beq_self_eq_true, bne_self_eq_false, Bool.and_true, Bool.true_and, Bool.and_false, Bool.false_and, Bool.or_true, Bool.true_or, Bool.or_false, Bool.false_or, undef]
      refine ACallL.quiet1 awake_ok rfl rfl rfl ?_
      simp only [go_sem, Nat.reduceEqDiff, Nat.reduceAdd, Nat.reduceSub, Nat.reduceMul, Nat.reduceLT, Nat.reduceLeDiff, Nat.reduceMod, Nat.reduceDiv, Int.reduceToNat, Int.reduceLT, Int.reduceLE, Bool.not_true, Bool.not_false, reduceIte, Int.reduceEq, Int.reduceBEq, Int.reduceBNe, Int.reduceGT, Int.reduceGE, Int.reduceNeg, Int.reduceAdd, Int.reduceSub, Nat.reduceBEq, decide_true, decide_false, undef, beq_self_eq_true, bne_self_eq_false, Bool.and_true, Bool.true_and, Bool.and_false, Bool.false_and, Bool.or_true, Bool.true_or, Bool.or_false, Bool.false_or, undef]
      exact finL_ret [] ⟨rfl, rfl, rfl, rfl, _, rfl, res_mk rfl⟩
    simp only [go_sem, Nat.reduceEqDiff, Nat.reduceAdd, Nat.reduceSub, Nat.reduceMul, Nat.reduceLT, Nat.reduceLeDiff, Nat.reduceMod, Nat.reduceDiv, Int.reduceToNat, Int.reduceLT, Int.reduceLE, Bool.not_true, Bool.not_false, reduceIte, Int.reduceEq, Int.reduceBEq, Int.reduceBNe, Int.reduceGT, Int.reduceGE, Int.reduceNeg, Int.reduceAdd, Int.reduceSub, Nat.reduceBEq, decide_true, decide_false, undef, beq_self_eq_true, bne_self_eq_false, Bool.and_true, Bool.true_and, Bool.and_false, Bool.false_and, Bool.or_true, Bool.true_or, Bool.or_false, Bool.false_or, undef]
    refine ACallL.quiet1 h36 rfl rfl rfl ?_
    cases hok : f.ok
    · have e1 : specCount f = (0, 1) := by simp only [specCount, hok]; rfl
      have e2 : specUp f = (0, 0, 1) := by simp only [specUp, hok]; rfl
      rw [e1] at h19
      rw [e2] at h17
      simp only [oneE, twoE] at h19 h17
      simp only [go_sem, Nat.reduceEqDiff, Nat.reduceAdd, Nat.reduceSub, Nat.reduceMul, Nat.reduceLT, Nat.reduceLeDiff, Nat.reduceMod, Nat.reduceDiv, Int.reduceToNat, Int.reduceLT, Int.reduceLE, Bool.not_true, Bool.not_false, reduceIte, Int.reduceEq, Int.reduceBEq, Int.reduceBNe, Int.reduceGT, Int.reduceGE, Int.reduceNeg, Int.reduceAdd, Int.reduceSub, Nat.reduceBEq, decide_true, decide_false, undef, beq_self_eq_true, bne_self_eq_false, Bool.and_true, Bool.true_and, Bool.and_false, Bool.false_and, Bool.or_true, Bool.true_or, Bool.or_false, Bool.false_or, undef]
      refine ACallL.quiet1 h19 rfl rfl rfl ?_
      simp only [go_sem, Nat.reduceEqDiff, Nat.reduceAdd, Nat.reduceSub, Nat.reduceMul, Nat.reduceLT, Nat.reduceLeDiff, Nat.reduceMod, Nat.reduceDiv, Int.reduceToNat, Int.reduceLT, Int.reduceLE, Bool.not_true, Bool.not_false, reduceIte, Int.reduceEq, Int.reduceBEq, Int.reduceBNe, Int.reduceGT, Int.reduceGE, Int.reduceNeg, Int.reduceAdd, Int.reduceSub, Nat.reduceBEq, decide_true, decide_false, undef, beq_self_eq_true, bne_self_eq_false, Bool.and_true, Bool.true_and, Bool.and_false, Bool.false_and, Bool.or_true, Bool.true_or, Bool.or_false, Bool.false_or, undef]
      refine ACallL.quiet1 h17 rfl rfl rfl ?_
      simp only [go_sem, Nat.reduceEqDiff, Nat.reduceAdd, Nat.reduceSub, Nat.reduceMul, Nat.reduceLT, Nat.reduceLeDiff, Nat.reduceMod, Nat.reduceDiv, Int.reduceToNat, Int.reduceLT, Int.reduceLE, Bool.not_true, Bool.not_false, reduceIte, Int.reduceEq, Int.reduceBEq, Int.reduceBNe, Int.reduceGT, Int.reduceGE, Int.reduceNeg, Int.reduceAdd, Int.reduceSub, Nat.reduceBEq, decide_true, decide_false, undef, beq_self_eq_true, bne_self_eq_false, Bool.and_true, Bool.true_and, Bool.and_false, Bool.false_and, Bool.or_true, Bool.true_or, Bool.or_false, Bool.false_or, undef]
      refine ACallL.quiet1 awake_ok rfl rfl rfl ?_
      simp only [go_sem, Nat.reduceEqDiff, Nat.reduceAdd, Nat.reduceSub, Nat.reduceMul, Nat.reduceLT, Nat.reduceLeDiff, Nat.reduceMod, Nat.reduceDiv, Int.reduceToNat, Int.reduceLT, Int.reduceLE, Bool.not_true, Bool.not_false, reduceIte, Int.reduceEq, Int.reduceBEq, Int.reduceBNe, Int.reduceGT, Int.reduceGE, Int.reduceNeg, Int.reduceAdd, Int.reduceSub, Nat.reduceBEq, decide_true, decide_false, undef, beq_self_eq_true, bne_self_eq_false, Bool.and_true, Bool.true_and, Bool.and_false, Bool.false_and, Bool.or_true, Bool.true_or, Bool.or_false, Bool.false_or, undef]
      exact finL_ret [] ⟨rfl, rfl, rfl, rfl, _, rfl, res_mk rfl⟩
    have hf := (Fl.ok_iff f).1 hok
    have hn := hf.nh
    have h15 := Kinds_ok f f.hs.length hL
    have h23 := Under_ok f 0 0 hL
    have h25 := Down_ok f (-1) hL
    have i1 : f.isH f.hs.length = false := by rw [← Bool.not_eq_true, isH_iff]; omega
    have i2 : f.isR 0 0 = false := by
      rw [← Bool.not_eq_true]
      unfold Fl.isR wI
      rw [Bool.and_eq_true, decide_eq_true_eq]
      omega
    have i3 : f.isH (-1) = false := by rw [← Bool.not_eq_true, isH_iff]; omega
    have e1 : specKinds f f.hs.length = (0, 2) := by simp only [specKinds, hok, i1]; rfl
    have e2 : specUnder f 0 0 = (0, 2) := by simp only [specUnder, hok, i2]; rfl
    have e3 : specDown f (-1) = (0, 2) := by simp only [specDown, hok, i3]; rfl
    rw [e1] at h15
    rw [e2] at h23
    rw [e3] at h25
    have h37 := waysL_ok f hL hf
    simp only [oneE, fl5] at h15 h23 h25 h37
    simp only [go_sem, Nat.reduceEqDiff, Nat.reduceAdd, Nat.reduceSub, Nat.reduceMul, Nat.reduceLT, Nat.reduceLeDiff, Nat.reduceMod, Nat.reduceDiv, Int.reduceToNat, Int.reduceLT, Int.reduceLE, Bool.not_true, Bool.not_false, reduceIte, Int.reduceEq, Int.reduceBEq, Int.reduceBNe, Int.reduceGT, Int.reduceGE, Int.reduceNeg, Int.reduceAdd, Int.reduceSub, Nat.reduceBEq, decide_true, decide_false, undef, beq_self_eq_true, bne_self_eq_false, Bool.and_true, Bool.true_and, Bool.and_false, Bool.false_and, Bool.or_true, Bool.true_or, Bool.or_false, Bool.false_or, undef, List.length_map]
    refine ACallL.quiet1 h15 rfl rfl rfl ?_
    simp only [go_sem, Nat.reduceEqDiff, Nat.reduceAdd, Nat.reduceSub, Nat.reduceMul, Nat.reduceLT, Nat.reduceLeDiff, Nat.reduceMod, Nat.reduceDiv, Int.reduceToNat, Int.reduceLT, Int.reduceLE, Bool.not_true, Bool.not_false, reduceIte, Int.reduceEq, Int.reduceBEq, Int.reduceBNe, Int.reduceGT, Int.reduceGE, Int.reduceNeg, Int.reduceAdd, Int.reduceSub, Nat.reduceBEq, decide_true, decide_false, undef, beq_self_eq_true, bne_self_eq_false, Bool.and_true, Bool.true_and, Bool.and_false, Bool.false_and, Bool.or_true, Bool.true_or, Bool.or_false, Bool.false_or, undef, List.length_map]
    refine ACallL.quiet1 h23 rfl rfl rfl ?_
    simp only [go_sem, Nat.reduceEqDiff, Nat.reduceAdd, Nat.reduceSub, Nat.reduceMul, Nat.reduceLT, Nat.reduceLeDiff, Nat.reduceMod, Nat.reduceDiv, Int.reduceToNat, Int.reduceLT, Int.reduceLE, Bool.not_true, Bool.not_false, reduceIte, Int.reduceEq, Int.reduceBEq, Int.reduceBNe, Int.reduceGT, Int.reduceGE, Int.reduceNeg, Int.reduceAdd, Int.reduceSub, Nat.reduceBEq, decide_true, decide_false, undef, beq_self_eq_true, bne_self_eq_false, Bool.and_true, Bool.true_and, Bool.and_false, Bool.false_and, Bool.or_true, Bool.true_or, Bool.or_false, Bool.false_or, undef, List.length_map]
    refine ACallL.quiet1 h25 rfl rfl rfl ?_
    simp only [go_sem, Nat.reduceEqDiff, Nat.reduceAdd, Nat.reduceSub, Nat.reduceMul, Nat.reduceLT, Nat.reduceLeDiff, Nat.reduceMod, Nat.reduceDiv, Int.reduceToNat, Int.reduceLT, Int.reduceLE, Bool.not_true, Bool.not_false, reduceIte, Int.reduceEq, Int.reduceBEq, Int.reduceBNe, Int.reduceGT, Int.reduceGE, Int.reduceNeg, Int.reduceAdd, Int.reduceSub, Nat.reduceBEq, decide_true, decide_false, undef, beq_self_eq_true, bne_self_eq_false, Bool.and_true, Bool.true_and, Bool.and_false, Bool.false_and, Bool.or_true, Bool.true_or, Bool.or_false, Bool.false_or, undef, List.length_map]
    refine ACallL.freshR h37 rfl (fun o σ' h => h.1) ?_
    rintro o ⟨_, rfl | ⟨hr, rfl⟩⟩
    · simp only [go_sem, Nat.reduceEqDiff, Nat.reduceAdd, Nat.reduceSub, Nat.reduceMul, Nat.reduceLT, Nat.reduceLeDiff, Nat.reduceMod, Nat.reduceDiv, Int.reduceToNat, Int.reduceLT, Int.reduceLE, Bool.not_true, Bool.not_false, reduceIte, Int.reduceEq, Int.reduceBEq, Int.reduceBNe, Int.reduceGT, Int.reduceGE, Int.reduceNeg, Int.reduceAdd, Int.reduceSub, Nat.reduceBEq, decide_true, decide_false, undef, beq_self_eq_true, bne_self_eq_false, Bool.and_true, Bool.true_and, Bool.and_false, Bool.false_and, Bool.or_true, Bool.true_or, Bool.or_false, Bool.false_or, undef, List.length_map]
      refine ACallL.quiet1 awake_ok rfl rfl rfl ?_
      simp only [go_sem, Nat.reduceEqDiff, Nat.reduceAdd, Nat.reduceSub, Nat.reduceMul, Nat.reduceLT, Nat.reduceLeDiff, Nat.reduceMod, Nat.reduceDiv, Int.reduceToNat, Int.reduceLT, Int.reduceLE, Bool.not_true, Bool.not_false, reduceIte, Int.reduceEq, Int.reduceBEq, Int.reduceBNe, Int.reduceGT, Int.reduceGE, Int.reduceNeg, Int.reduceAdd, Int.reduceSub, Nat.reduceBEq, decide_true, decide_false, undef, beq_self_eq_true, bne_self_eq_false, Bool.and_true, Bool.true_and, Bool.and_false, Bool.false_and, Bool.or_true, Bool.true_or, Bool.or_false, Bool.false_or, undef]
      exact finL_ret [] ⟨rfl, rfl, rfl, rfl, _, rfl, res_mk rfl⟩
    simp only [go_sem, Nat.reduceEqDiff, Nat.reduceAdd, Nat.reduceSub, Nat.reduceMul, Nat.reduceLT, Nat.reduceLeDiff, Nat.reduceMod, Nat.reduceDiv, Int.reduceToNat, Int.reduceLT, Int.reduceLE, Bool.not_true, Bool.not_false, reduceIte, Int.reduceEq, Int.reduceBEq, Int.reduceBNe, Int.reduceGT, Int.reduceGE, Int.reduceNeg, Int.reduceAdd, Int.reduceSub, Nat.reduceBEq, decide_true, decide_false, undef, beq_self_eq_true, bne_self_eq_false, Bool.and_true, Bool.true_and, Bool.and_false, Bool.false_and, Bool.or_true, Bool.true_or, Bool.or_false, Bool.false_or, undef, List.length_map]
    cases h0 : ((f.hs.length : Int) == 0)
    rotate_left
    · simp only [go_sem, Nat.reduceEqDiff, Nat.reduceAdd, Nat.reduceSub, Nat.reduceMul, Nat.reduceLT, Nat.reduceLeDiff, Nat.reduceMod, Nat.reduceDiv, Int.reduceToNat, Int.reduceLT, Int.reduceLE, Bool.not_true, Bool.not_false, reduceIte, Int.reduceEq, Int.reduceBEq, Int.reduceBNe, Int.reduceGT, Int.reduceGE, Int.reduceNeg, Int.reduceAdd, Int.reduceSub, Nat.reduceBEq, decide_true, decide_false, undef, beq_self_eq_true, bne_self_eq_false, Bool.and_true, Bool.true_and, Bool.and_false, Bool.false_and, Bool.or_true, Bool.true_or, Bool.or_false, Bool.false_or, undef, List.length_map, h0]
      refine ACallL.quiet1 awake_ok rfl rfl rfl ?_
      simp only [go_sem, Nat.reduceEqDiff, Nat.reduceAdd, Nat.reduceSub, Nat.reduceMul, Nat.reduceLT, Nat.reduceLeDiff, Nat.reduceMod, Nat.reduceDiv, Int.reduceToNat, Int.reduceLT, Int.reduceLE, Bool.not_true, Bool.not_false, reduceIte, Int.reduceEq, Int.reduceBEq, Int.reduceBNe, Int.reduceGT, Int.reduceGE, Int.reduceNeg, Int.reduceAdd, Int.reduceSub, Nat.reduceBEq, decide_true, decide_false, undef, beq_self_eq_true, bne_self_eq_false, Bool.and_true, Bool.true_and, Bool.and_false, Bool.false_and, Bool.or_true, Bool.true_or, Bool.or_false, Bool.false_or, undef]
      exact finL_ret [] ⟨rfl, rfl, rfl, rfl, _, rfl, res_mk rfl⟩
    have n0 : ¬ ((f.hs.length : Int) = 0) := by simpa using h0
    have ha : u % f.hs.length < f.hs.length := Nat.mod_lt _ (by omega)
    have hb : v % (f.hs.length - u % f.hs.length) < f.hs.length - u % f.hs.length := Nat.mod_lt _ (by omega)
    have t1 := mod_nat u f.hs.length
    have w0 : IntKind.i64.wrap (u : Int) = u := wrap_id (by omega) (by omega)
    have w1 : IntKind.i64.wrap (v : Int) = v := wrap_id (by omega) (by omega)
    generalize u % f.hs.length = a at *
    have w2 : IntKind.i64.wrap ((a : Int) + 1) = ((a + 1 : Nat) : Int) := by rw [wrap_id (by omega) (by omega)]; omega
    have w3 : IntKind.i64.wrap ((f.hs.length : Int) - a) = ((f.hs.length - a : Nat) : Int) := by rw [wrap_id (by omega) (by omega)]; omega
    have n1 : ¬ (((f.hs.length - a : Nat) : Int) = 0) := by omega
    have t2 := mod_nat v (f.hs.length - a)
    generalize v % (f.hs.length - a) = m at *
    have w4 : IntKind.i64.wrap (((a + 1 : Nat) : Int) + m) = ((a + 1 + m : Nat) : Int) := by rw [wrap_id (by omega) (by omega)]; omega
    simp only [go_sem, Nat.reduceEqDiff, Nat.reduceAdd, Nat.reduceSub, Nat.reduceMul, Nat.reduceLT, Nat.reduceLeDiff, Nat.reduceMod, Nat.reduceDiv, Int.reduceToNat, Int.reduceLT, Int.reduceLE, Bool.not_true, Bool.not_false, reduceIte, Int.reduceEq, Int.reduceBEq, Int.reduceBNe, Int.reduceGT, Int.reduceGE, Int.reduceNeg, Int.reduceAdd, Int.reduceSub, Nat.reduceBEq, decide_true, decide_false, undef, beq_self_eq_true, bne_self_eq_false, Bool.and_true, Bool.true_and, Bool.and_false, Bool.false_and, Bool.or_true, Bool.true_or, Bool.or_false, Bool.false_or, undef, List.length_map, h0, n0, n1, t1, t2, w0, w1, w2, w3, w4]
    exact ⟨hf, hr, a, a + 1 + m, by omega, by omega, rfl, rfl, rfl, rfl, rfl, rfl, rfl⟩
  rintro ⟨env, σ, df, k⟩ ⟨hf, hr, a, b, hab, hb, q3, q20, q21, q18, hσ, hdf, hk⟩
  simp only at q3 q20 q21 q18 hσ hdf hk
  subst hσ hdf hk
  have hn := hf.nh
  have hns := hf.ns
  refine awpL_chop 3 (c1 := ?b1) (c2 := ?b2) (EnMid2 f a b) ?hc2 ?_ ?_
  case hc2 => simp only [chop]; rfl
  · have sl := shl_one (i := f.hs.length) (by omega)
    have hp1 := Nat.two_pow_pos f.hs.length
    have hp2 : 2 ^ f.hs.length ≤ 512 := Nat.pow_le_pow_right (n := 2) (by decide) hn
    have ws : IntKind.i64.wrap (((2 ^ f.hs.length : Nat) : Int) - 1) = ((2 ^ f.hs.length - 1 : Nat) : Int) := by rw [wrap_id (by omega) (by omega)]; omega
    have hl0 : ((f.hs.length : Int) < 0) = False := by simp
    simp only [fl5, go_sem, Nat.reduceEqDiff, Nat.reduceAdd, Nat.reduceSub, Nat.reduceMul, Nat.reduceLT, Nat.reduceLeDiff, Nat.reduceMod, Nat.reduceDiv, Int.reduceToNat, Int.reduceLT, Int.reduceLE, Bool.not_true, Bool.not_false, reduceIte, Int.reduceEq, Int.reduceBEq, Int.reduceBNe, Int.reduceGT, Int.reduceGE, Int.reduceNeg, Int.reduceAdd, Int.reduceSub, Nat.reduceBEq, decide_true, decide_false, undef, beq_self_eq_true, bne_self_eq_false, Bool.and_true, Bool.true_and, Bool.and_false, Bool.false_and, Bool.or_true, Bool.true_or, Bool.or_false, Bool.false_or, undef, q3, List.length_map, sl, ws, hl0]
    refine ACallL.fresh1 (span2_ok _ _) rfl ?_
    simp only [fl5, go_sem, Nat.reduceEqDiff, Nat.reduceAdd, Nat.reduceSub, Nat.reduceMul, Nat.reduceLT, Nat.reduceLeDiff, Nat.reduceMod, Nat.reduceDiv, Int.reduceToNat, Int.reduceLT, Int.reduceLE, Bool.not_true, Bool.not_false, reduceIte, Int.reduceEq, Int.reduceBEq, Int.reduceBNe, Int.reduceGT, Int.reduceGE, Int.reduceNeg, Int.reduceAdd, Int.reduceSub, Nat.reduceBEq, decide_true, decide_false, undef, beq_self_eq_true, bne_self_eq_false, Bool.and_true, Bool.true_and, Bool.and_false, Bool.false_and, Bool.or_true, Bool.true_or, Bool.or_false, Bool.false_or, undef, q3, q18, List.length_map]
    have hm0 : meetM f [] = 2 ^ f.hs.length - 1 := meetM_nil f _
    have hj0' : joinM f [] = 0 := by
      apply Nat.eq_of_testBit_eq
      intro i
      unfold joinM
      rw [maskOf_bit]; simp
    refine awpL_for (i := 139) (L := 138) (rows f).length (fun i s => ∃ T, T = ((rows f).take i).filter (right f f.ss) ∧ s = { env := [(139, .t (vi i)), (138, .t (vi (rows f).length)), (137, .t (.slice 1 ((rows f).map elK))), (3, .ptr 0 0), (20, .t (vi a)), (21, .t (vi b)), (22, .t (vi T.length)), (23, .t (vi (meetM f T))), (24, .t (vi (joinM f T))), (25, .ptr 1 0), (26, .t (vi (someF f a b T)))], σ := [.cells ((fl5 f).map .t), .cells [.t (vi (loF f T)), .t (vi (hiF f T))]] }) ?_ ?_ ?_ ?_
    · rintro k s ⟨T, _, rfl⟩; exact ⟨rfl, rfl⟩
    · refine ⟨_, Sub.gc [0, 1] [139, 138, 137, 3, 20, 21, 22, 23, 24, 25, 26] rfl rfl, [], by simp, ?_⟩
      rw [hm0, hj0']
      exact St.gc_mk (by simp only [List.map_cons, List.map_nil, lk, Nat.reduceEqDiff, reduceIte, q3, q20, q21]; rfl) rfl rfl rfl
    · rintro i s hi ⟨T, hT, rfl⟩
      have hg : (rows f)[i]? = some (rows f)[i] := List.getElem?_eq_getElem hi
      have hft := filter_take (right f f.ss) (rows f) hg
      have hmem := List.getElem_mem hi
      have hTl : T.length ≤ 300 := by
        rw [hT]
        exact Nat.le_trans (List.length_filter_le _ _) (Nat.le_trans (by rw [List.length_take]; omega) hr)
      have hw : IntKind.i64.wrap ((i : Int) + 1) = ((i + 1 : Nat) : Int) := by rw [wrap_id (by omega) (by omega)]; omega
      rw [← hT] at hft
      generalize (rows f)[i] = ks at *
      have hkl := rows_len hmem
      have hk3 : ∀ k ∈ ks, k < 3 := fun k hk => by
        obtain ⟨j, hj⟩ := List.getElem?_of_mem hk
        have := ((kls_mem f _ _ _).1 hmem).2 j k hj
        exact ((kset_mem _ _).1 this).1
      have hne : ks ≠ [] := by intro e; rw [e] at hkl; simp at hkl; omega
      have hel : elK ks = .slice 1 (ks.map fun k : Nat => vi k) := by unfold elK; rw [if_neg hne]; rfl
      have h33 := raisedL_ok f hf.quiet.1 ks (by omega) hk3
      rw [hkl] at h33
      have hil : (i : Int) < ((rows f).length : Int) := by omega
      simp only [fl5, tK] at h33
      simp only [fl5, go_sem, Nat.reduceEqDiff, Nat.reduceAdd, Nat.reduceSub, Nat.reduceMul, Nat.reduceLT, Nat.reduceLeDiff, Nat.reduceMod, Nat.reduceDiv, Int.reduceToNat, Int.reduceLT, Int.reduceLE, Bool.not_true, Bool.not_false, reduceIte, Int.reduceEq, Int.reduceBEq, Int.reduceBNe, Int.reduceGT, Int.reduceGE, Int.reduceNeg, Int.reduceAdd, Int.reduceSub, Nat.reduceBEq, decide_true, decide_false, undef, beq_self_eq_true, bne_self_eq_false, Bool.and_true, Bool.true_and, Bool.and_false, Bool.false_and, Bool.or_true, Bool.true_or, Bool.or_false, Bool.false_or, undef, List.length_map, List.getElem?_map, hg, Option.map_some, hel]
      have hUl := maskOf_lt (upAt f ks) f.hs.length
      have hUb := maskOf_bit (upAt f ks) f.hs.length
      have hU5 : upM f ks < 512 := Nat.lt_of_lt_of_le hUl hp2
      refine ACallL.quiet1 h33 rfl rfl rfl ?_
      simp only [fl5, go_sem, Nat.reduceEqDiff, Nat.reduceAdd, Nat.reduceSub, Nat.reduceMul, Nat.reduceLT, Nat.reduceLeDiff, Nat.reduceMod, Nat.reduceDiv, Int.reduceToNat, Int.reduceLT, Int.reduceLE, Bool.not_true, Bool.not_false, reduceIte, Int.reduceEq, Int.reduceBEq, Int.reduceBNe, Int.reduceGT, Int.reduceGE, Int.reduceNeg, Int.reduceAdd, Int.reduceSub, Nat.reduceBEq, decide_true, decide_false, undef, beq_self_eq_true, bne_self_eq_false, Bool.and_true, Bool.true_and, Bool.and_false, Bool.false_and, Bool.or_true, Bool.true_or, Bool.or_false, Bool.false_or, undef, List.length_map]
      refine awpL_for (i := 149) (L := 148) f.ss.length (fun m s => s = { env := [(149, .t (vi m)), (148, .t (vi f.ss.length)), (147, .t (.slice 2 (f.ss.map tSn))), (30, .t (vb (right f (f.ss.take m) ks))), (29, .t (vi (upM f ks))), (139, .t (vi i)), (138, .t (vi (rows f).length)), (137, .t (.slice 1 ((rows f).map elK))), (3, .ptr 0 0), (20, .t (vi a)), (21, .t (vi b)), (22, .t (vi T.length)), (23, .t (vi (meetM f T))), (24, .t (vi (joinM f T))), (25, .ptr 1 0), (26, .t (vi (someF f a b T)))], σ := [.cells ((fl5 f).map .t), .cells [.t (vi (loF f T)), .t (vi (hiF f T))]] }) ?_ ?_ ?_ ?_
      · rintro k s rfl; exact ⟨rfl, rfl⟩
      · exact ⟨_, Sub.gc [0, 1] [149, 148, 147, 30, 29, 139, 138, 137, 3, 20, 21, 22, 23, 24, 25, 26] rfl rfl, rfl⟩
      · rintro m s hm rfl
        have hgs : f.ss[m]? = some f.ss[m] := List.getElem?_eq_getElem hm
        have hrt := right_take f ks hgs
        have hsr := hf.ss _ (List.getElem_mem hm)
        have hwm : IntKind.i64.wrap ((m : Int) + 1) = ((m + 1 : Nat) : Int) := by rw [wrap_id (by omega) (by omega)]; omega
        generalize f.ss[m] = x at *
        obtain ⟨xh, xu⟩ := x
        simp only at hsr hrt
        obtain ⟨hN, rfl⟩ : ∃ n : Nat, xh = n := ⟨xh.toNat, by omega⟩
        have hb := bit_eq (a := upM f ks) (i := hN) (by omega)
        rw [hUb, show decide (hN < f.hs.length) = true by simp; omega, Bool.true_and] at hb
        rw [Int.toNat_natCast] at hrt
        have hN0 : ((hN : Int) < 0) = False := by simp
        cases hR : right f (f.ss.take m) ks
        · rw [hR] at hrt
          simp only [fl5, go_sem, Nat.reduceEqDiff, Nat.reduceAdd, Nat.reduceSub, Nat.reduceMul, Nat.reduceLT, Nat.reduceLeDiff, Nat.reduceMod, Nat.reduceDiv, Int.reduceToNat, Int.reduceLT, Int.reduceLE, Bool.not_true, Bool.not_false, reduceIte, Int.reduceEq, Int.reduceBEq, Int.reduceBNe, Int.reduceGT, Int.reduceGE, Int.reduceNeg, Int.reduceAdd, Int.reduceSub, Nat.reduceBEq, decide_true, decide_false, undef, beq_self_eq_true, bne_self_eq_false, Bool.and_true, Bool.true_and, Bool.and_false, Bool.false_and, Bool.or_true, Bool.true_or, Bool.or_false, Bool.false_or, undef, List.length_map, List.getElem?_map, hgs, tSn, Option.map_some, hR, hwm]
          refine ⟨_, Sub.gc [0, 1] [149, 148, 147, 30, 29, 139, 138, 137, 3, 20, 21, 22, 23, 24, 25, 26] rfl rfl, ?_⟩
          rw [hrt]
          rfl
        · rw [hR, Bool.true_and] at hrt
          simp only [fl5, go_sem, Nat.reduceEqDiff, Nat.reduceAdd, Nat.reduceSub, Nat.reduceMul, Nat.reduceLT, Nat.reduceLeDiff, Nat.reduceMod, Nat.reduceDiv, Int.reduceToNat, Int.reduceLT, Int.reduceLE, Bool.not_true, Bool.not_false, reduceIte, Int.reduceEq, Int.reduceBEq, Int.reduceBNe, Int.reduceGT, Int.reduceGE, Int.reduceNeg, Int.reduceAdd, Int.reduceSub, Nat.reduceBEq, decide_true, decide_false, undef, beq_self_eq_true, bne_self_eq_false, Bool.and_true, Bool.true_and, Bool.and_false, Bool.false_and, Bool.or_true, Bool.true_or, Bool.or_false, Bool.false_or, undef, List.length_map, List.getElem?_map, hgs, tSn, Option.map_some, hR, hwm, hb, hN0]
          refine ⟨_, Sub.gc [0, 1] [149, 148, 147, 30, 29, 139, 138, 137, 3, 20, 21, 22, 23, 24, 25, 26] rfl rfl, ?_⟩
          rw [hrt]
          rfl
      · rintro s rfl
        rw [List.take_length]
        cases hR : right f f.ss ks
        · rw [hR] at hft
          simp only [Bool.false_eq_true, if_false, List.append_nil] at hft
          simp only [fl5, go_sem, Nat.reduceEqDiff, Nat.reduceAdd, Nat.reduceSub, Nat.reduceMul, Nat.reduceLT, Nat.reduceLeDiff, Nat.reduceMod, Nat.reduceDiv, Int.reduceToNat, Int.reduceLT, Int.reduceLE, Bool.not_true, Bool.not_false, reduceIte, Int.reduceEq, Int.reduceBEq, Int.reduceBNe, Int.reduceGT, Int.reduceGE, Int.reduceNeg, Int.reduceAdd, Int.reduceSub, Nat.reduceBEq, decide_true, decide_false, undef, beq_self_eq_true, bne_self_eq_false, Bool.and_true, Bool.true_and, Bool.and_false, Bool.false_and, Bool.or_true, Bool.true_or, Bool.or_false, Bool.false_or, undef, hR, hw]
          refine ⟨_, Sub.gc [0, 1] [139, 138, 137, 3, 20, 21, 22, 23, 24, 25, 26] rfl rfl, T, hft.symm, rfl⟩
        · rw [hR] at hft
          simp only [if_true] at hft
          have h39 := rsize_ok (upM f ks) (by omega)
          simp only [fl5, go_sem, Nat.reduceEqDiff, Nat.reduceAdd, Nat.reduceSub, Nat.reduceMul, Nat.reduceLT, Nat.reduceLeDiff, Nat.reduceMod, Nat.reduceDiv, Int.reduceToNat, Int.reduceLT, Int.reduceLE, Bool.not_true, Bool.not_false, reduceIte, Int.reduceEq, Int.reduceBEq, Int.reduceBNe, Int.reduceGT, Int.reduceGE, Int.reduceNeg, Int.reduceAdd, Int.reduceSub, Nat.reduceBEq, decide_true, decide_false, undef, beq_self_eq_true, bne_self_eq_false, Bool.and_true, Bool.true_and, Bool.and_false, Bool.false_and, Bool.or_true, Bool.true_or, Bool.or_false, Bool.false_or, undef, hR]
          refine ACallL.quiet1 h39 rfl rfl rfl ?_
          simp only [fl5, go_sem, Nat.reduceEqDiff, Nat.reduceAdd, Nat.reduceSub, Nat.reduceMul, Nat.reduceLT, Nat.reduceLeDiff, Nat.reduceMod, Nat.reduceDiv, Int.reduceToNat, Int.reduceLT, Int.reduceLE, Bool.not_true, Bool.not_false, reduceIte, Int.reduceEq, Int.reduceBEq, Int.reduceBNe, Int.reduceGT, Int.reduceGE, Int.reduceNeg, Int.reduceAdd, Int.reduceSub, Nat.reduceBEq, decide_true, decide_false, undef, beq_self_eq_true, bne_self_eq_false, Bool.and_true, Bool.true_and, Bool.and_false, Bool.false_and, Bool.or_true, Bool.true_or, Bool.or_false, Bool.false_or, undef]
          refine ACallL.fresh1 (span2_ok _ _) rfl ?_
          simp only [fl5, go_sem, Nat.reduceEqDiff, Nat.reduceAdd, Nat.reduceSub, Nat.reduceMul, Nat.reduceLT, Nat.reduceLeDiff, Nat.reduceMod, Nat.reduceDiv, Int.reduceToNat, Int.reduceLT, Int.reduceLE, Bool.not_true, Bool.not_false, reduceIte, Int.reduceEq, Int.reduceBEq, Int.reduceBNe, Int.reduceGT, Int.reduceGE, Int.reduceNeg, Int.reduceAdd, Int.reduceSub, Nat.reduceBEq, decide_true, decide_false, undef, beq_self_eq_true, bne_self_eq_false, Bool.and_true, Bool.true_and, Bool.and_false, Bool.false_and, Bool.or_true, Bool.true_or, Bool.or_false, Bool.false_or, undef]
          have hML : meetM f T < 512 := Nat.lt_of_lt_of_le (maskOf_lt _ _) hp2
          have hJL : joinM f T < 512 := Nat.lt_of_lt_of_le (maskOf_lt _ _) hp2
          have hsm : someF f a b T ≤ T.length := List.countP_le_length
          have o1 := bits_and (a := meetM f T) (b := upM f ks) (by omega) (by omega)
          have o2 := bits_or (a := joinM f T) (b := upM f ks) (by omega) (by omega)
          have o3 := shr_nat (a := upM f ks) (i := a) (by omega)
          have o4 : IntKind.i64.wrap ((b : Int) - a) = ((b - a : Nat) : Int) := by rw [wrap_id (by omega) (by omega)]; omega
          have o5 := shl_one (i := b - a) (by omega)
          have pba := Nat.two_pow_pos (b - a)
          have pbl : 2 ^ (b - a) ≤ 512 := Nat.pow_le_pow_right (n := 2) (by decide) (show b - a ≤ 9 by omega)
          have o6 : IntKind.i64.wrap (((2 ^ (b - a) : Nat) : Int) - 1) = ((2 ^ (b - a) - 1 : Nat) : Int) := by rw [wrap_id (by omega) (by omega)]; omega
          have hUs : upM f ks >>> a ≤ upM f ks := by rw [Nat.shiftRight_eq_div_pow]; exact Nat.div_le_self _ _
          have o7 := bits_and (a := upM f ks >>> a) (b := 2 ^ (b - a) - 1) (by omega) (by omega)
          have hsh := shr_hours (upM f ks) hU5 b (by omega) a hab
          have hss := someF_snoc f a b T ks
          have w1 : IntKind.i64.wrap ((T.length : Int) + 1) = ((T.length + 1 : Nat) : Int) := by rw [wrap_id (by omega) (by omega)]; omega
          have w2 : IntKind.i64.wrap ((someF f a b T : Int) + 1) = ((someF f a b T + 1 : Nat) : Int) := by rw [wrap_id (by omega) (by omega)]; omega
          have ha0 : ((a : Int) < 0) = False := by simp
          have hba0 : (((b - a : Nat) : Int) < 0) = False := by simp
          have hml := meetM_snoc f T ks
          have hjl := joinM_snoc f T ks
          have hlo := loF_snoc f T ks
          have hhi := hiF_snoc f T ks
          cases hC : ((((upM f ks >>> a) &&& (2 ^ (b - a) - 1) : Nat) : Int) != 0)
          · have hC' : ¬ (upM f ks &&& (2 ^ b - 2 ^ a) ≠ 0) := fun h => by
              have h2 := hsh.2 h
              have h3 := bne_eq_false_iff_eq.1 hC
              exact h2 (Int.ofNat_eq_zero.1 h3)
            rw [if_neg hC', Nat.add_zero] at hss
            simp only [fl5, go_sem, Nat.reduceEqDiff, Nat.reduceAdd, Nat.reduceSub, Nat.reduceMul, Nat.reduceLT, Nat.reduceLeDiff, Nat.reduceMod, Nat.reduceDiv, Int.reduceToNat, Int.reduceLT, Int.reduceLE, Bool.not_true, Bool.not_false, reduceIte, Int.reduceEq, Int.reduceBEq, Int.reduceBNe, Int.reduceGT, Int.reduceGE, Int.reduceNeg, Int.reduceAdd, Int.reduceSub, Nat.reduceBEq, decide_true, decide_false, undef, beq_self_eq_true, bne_self_eq_false, Bool.and_true, Bool.true_and, Bool.and_false, Bool.false_and, Bool.or_true, Bool.true_or, Bool.or_false, Bool.false_or, undef, o1, o2, o3, o4, o5, o6, o7, w1, w2, ha0, hba0, hC, hw]
            refine ⟨_, Sub.gc [0, 1] [139, 138, 137, 3, 20, 21, 22, 23, 24, 25, 26] rfl rfl, T ++ [ks], hft.symm, ?_⟩
            rw [hml, hjl, hlo, hhi, hss, List.length_append]
            rfl
          · have hC' : upM f ks &&& (2 ^ b - 2 ^ a) ≠ 0 := hsh.1 fun h => by rw [h] at hC; simp at hC
            rw [if_pos hC'] at hss
            simp only [fl5, go_sem, Nat.reduceEqDiff, Nat.reduceAdd, Nat.reduceSub, Nat.reduceMul, Nat.reduceLT, Nat.reduceLeDiff, Nat.reduceMod, Nat.reduceDiv, Int.reduceToNat, Int.reduceLT, Int.reduceLE, Bool.not_true, Bool.not_false, reduceIte, Int.reduceEq, Int.reduceBEq, Int.reduceBNe, Int.reduceGT, Int.reduceGE, Int.reduceNeg, Int.reduceAdd, Int.reduceSub, Nat.reduceBEq, decide_true, decide_false, undef, beq_self_eq_true, bne_self_eq_false, Bool.and_true, Bool.true_and, Bool.and_false, Bool.false_and, Bool.or_true, Bool.true_or, Bool.or_false, Bool.false_or, undef, o1, o2, o3, o4, o5, o6, o7, w1, w2, ha0, hba0, hC, hw]
            refine ⟨_, Sub.gc [0, 1] [139, 138, 137, 3, 20, 21, 22, 23, 24, 25, 26] rfl rfl, T ++ [ks], hft.symm, ?_⟩
            rw [hml, hjl, hlo, hhi, hss, List.length_append]
            rfl
    · rintro s ⟨T, hT, rfl⟩
      rw [List.take_length] at hT
      have hT' : T = truths f := hT
      subst hT'
      simp only [go_sem, Nat.reduceEqDiff, Nat.reduceAdd, Nat.reduceSub, Nat.reduceMul, Nat.reduceLT, Nat.reduceLeDiff, Nat.reduceMod, Nat.reduceDiv, Int.reduceToNat, Int.reduceLT, Int.reduceLE, Bool.not_true, Bool.not_false, reduceIte, Int.reduceEq, Int.reduceBEq, Int.reduceBNe, Int.reduceGT, Int.reduceGE, Int.reduceNeg, Int.reduceAdd, Int.reduceSub, Nat.reduceBEq, decide_true, decide_false, undef, beq_self_eq_true, bne_self_eq_false, Bool.and_true, Bool.true_and, Bool.and_false, Bool.false_and, Bool.or_true, Bool.true_or, Bool.or_false, Bool.false_or, undef]
      exact ⟨rfl, rfl, rfl, rfl, rfl, rfl, rfl, rfl, rfl, rfl, rfl⟩
  rintro ⟨env, σ, df, k⟩ ⟨q3, q20, q21, q22, q23, q24, q25, q26, hσ, hdf, hk⟩
  simp only at q3 q20 q21 q22 q23 q24 q25 q26 hσ hdf hk
  subst hσ hdf hk
  have hok := (Fl.ok_iff f).2 hf
  have h23 := Under_ok f a b hL
  have h21 := Long_ok f hL
  have e1 : specCount f = ((((truths f).length : Nat) : Int), 0) := by simp only [specCount, hok]; rfl
  rw [e1] at h19
  cases hT : noT f
  · have hT' := noT_ne hT
    have hpos : 0 < (truths f).length := List.length_pos_iff.2 hT'
    obtain ⟨x, e2, hx, hx2, hx0⟩ := under_spec hf hT hab hb
    have e3 : specUp f = (((maskOf (sure f) f.hs.length : Nat) : Int), ((maskOf (perh f) f.hs.length : Nat) : Int), 0) := by simp only [specUp, hok, hT]; rfl
    have hm1 : meetM f (truths f) = maskOf (sure f) f.hs.length := rfl
    have hm2 : joinM f (truths f) = maskOf (perh f) f.hs.length := rfl
    have hsz : ∀ ks, size (upM f ks) = upN f 0 f.hs.length ks := fun ks => size_mask f ks _ hn
    have e4 : specLong f = ((loF f (truths f), hiF f (truths f)), 0) := by
      have := hullO_fold (l := (truths f).map fun ks => ((upN f 0 f.hs.length ks : Nat) : Int)) (n := 40) (by simpa using hT') (fun y hy => by
        obtain ⟨ks, hks, rfl⟩ := List.mem_map.1 hy
        have h1 := upC_le 0 f.hs.length 0 (ups f ks)
        rw [upsP_len, truths_len hks] at h1
        have h2 : upN f 0 f.hs.length ks ≤ f.hs.length := h1
        omega)
      simp only [specLong, hok, hullU, this, List.foldl_map, loF, hiF, hsz]
      rfl
    have c2 : (x == 2) = (((someF f a b (truths f) : Nat) : Int) == (((truths f).length : Nat) : Int)) := by
      rw [Bool.eq_iff_iff, beq_iff_eq, beq_iff_eq, hx2, Int.ofNat_inj]
      unfold someF
      rw [List.countP_eq_length]
      simp only [decide_eq_true_eq, upIn_mask f hf hab hb]
    have c0 : (x == 0) = (((someF f a b (truths f) : Nat) : Int) == 0) := by
      rw [Bool.eq_iff_iff, beq_iff_eq, beq_iff_eq, hx0, Int.ofNat_eq_zero]
      unfold someF
      rw [List.countP_eq_zero]
      simp only [decide_eq_true_eq, upIn_mask f hf hab hb]
    have cT : ((((truths f).length : Nat) : Int) == 0) = false := by rw [beq_eq_false_iff_ne]; omega
    rw [e2] at h23
    rw [e3] at h17
    rw [e4] at h21
    rw [hm1] at q23
    rw [hm2] at q24
    simp only [oneE, twoE, spanE, tSp, fl5] at h17 h19 h21 h23
    simp only [fl5, go_sem, Nat.reduceEqDiff, Nat.reduceAdd, Nat.reduceSub, Nat.reduceMul, Nat.reduceLT, Nat.reduceLeDiff, Nat.reduceMod, Nat.reduceDiv, Int.reduceToNat, Int.reduceLT, Int.reduceLE, Bool.not_true, Bool.not_false, reduceIte, Int.reduceEq, Int.reduceBEq, Int.reduceBNe, Int.reduceGT, Int.reduceGE, Int.reduceNeg, Int.reduceAdd, Int.reduceSub, Nat.reduceBEq, decide_true, decide_false, undef, beq_self_eq_true, bne_self_eq_false, Bool.and_true, Bool.true_and, Bool.and_false, Bool.false_and, Bool.or_true, Bool.true_or, Bool.or_false, Bool.false_or, undef, q3]
    refine ACallL.quiet1 h19 rfl rfl rfl ?_
    simp only [fl5, go_sem, Nat.reduceEqDiff, Nat.reduceAdd, Nat.reduceSub, Nat.reduceMul, Nat.reduceLT, Nat.reduceLeDiff, Nat.reduceMod, Nat.reduceDiv, Int.reduceToNat, Int.reduceLT, Int.reduceLE, Bool.not_true, Bool.not_false, reduceIte, Int.reduceEq, Int.reduceBEq, Int.reduceBNe, Int.reduceGT, Int.reduceGE, Int.reduceNeg, Int.reduceAdd, Int.reduceSub, Nat.reduceBEq, decide_true, decide_false, undef, beq_self_eq_true, bne_self_eq_false, Bool.and_true, Bool.true_and, Bool.and_false, Bool.false_and, Bool.or_true, Bool.true_or, Bool.or_false, Bool.false_or, undef, q3]
    refine ACallL.quiet1 h17 rfl rfl rfl ?_
    simp only [fl5, go_sem, Nat.reduceEqDiff, Nat.reduceAdd, Nat.reduceSub, Nat.reduceMul, Nat.reduceLT, Nat.reduceLeDiff, Nat.reduceMod, Nat.reduceDiv, Int.reduceToNat, Int.reduceLT, Int.reduceLE, Bool.not_true, Bool.not_false, reduceIte, Int.reduceEq, Int.reduceBEq, Int.reduceBNe, Int.reduceGT, Int.reduceGE, Int.reduceNeg, Int.reduceAdd, Int.reduceSub, Nat.reduceBEq, decide_true, decide_false, undef, beq_self_eq_true, bne_self_eq_false, Bool.and_true, Bool.true_and, Bool.and_false, Bool.false_and, Bool.or_true, Bool.true_or, Bool.or_false, Bool.false_or, undef, q3]
    refine ACallL.fresh1 h21 rfl ?_
    simp only [fl5, go_sem, Nat.reduceEqDiff, Nat.reduceAdd, Nat.reduceSub, Nat.reduceMul, Nat.reduceLT, Nat.reduceLeDiff, Nat.reduceMod, Nat.reduceDiv, Int.reduceToNat, Int.reduceLT, Int.reduceLE, Bool.not_true, Bool.not_false, reduceIte, Int.reduceEq, Int.reduceBEq, Int.reduceBNe, Int.reduceGT, Int.reduceGE, Int.reduceNeg, Int.reduceAdd, Int.reduceSub, Nat.reduceBEq, decide_true, decide_false, undef, beq_self_eq_true, bne_self_eq_false, Bool.and_true, Bool.true_and, Bool.and_false, Bool.false_and, Bool.or_true, Bool.true_or, Bool.or_false, Bool.false_or, undef, q3, q20, q21]
    refine ACallL.quiet1 h23 rfl rfl rfl ?_
    simp only [fl5, go_sem, Nat.reduceEqDiff, Nat.reduceAdd, Nat.reduceSub, Nat.reduceMul, Nat.reduceLT, Nat.reduceLeDiff, Nat.reduceMod, Nat.reduceDiv, Int.reduceToNat, Int.reduceLT, Int.reduceLE, Bool.not_true, Bool.not_false, reduceIte, Int.reduceEq, Int.reduceBEq, Int.reduceBNe, Int.reduceGT, Int.reduceGE, Int.reduceNeg, Int.reduceAdd, Int.reduceSub, Nat.reduceBEq, decide_true, decide_false, undef, beq_self_eq_true, bne_self_eq_false, Bool.and_true, Bool.true_and, Bool.and_false, Bool.false_and, Bool.or_true, Bool.true_or, Bool.or_false, Bool.false_or, undef, q3, q20, q21, q22, q23, q24, q25, q26, c2, c0, cT, toKey2, kEq2]
    refine ACallL.quiet1 awake_ok rfl rfl rfl ?_
    simp only [go_sem, Nat.reduceEqDiff, Nat.reduceAdd, Nat.reduceSub, Nat.reduceMul, Nat.reduceLT, Nat.reduceLeDiff, Nat.reduceMod, Nat.reduceDiv, Int.reduceToNat, Int.reduceLT, Int.reduceLE, Bool.not_true, Bool.not_false, reduceIte, Int.reduceEq, Int.reduceBEq, Int.reduceBNe, Int.reduceGT, Int.reduceGE, Int.reduceNeg, Int.reduceAdd, Int.reduceSub, Nat.reduceBEq, decide_true, decide_false, undef, beq_self_eq_true, bne_self_eq_false, Bool.and_true, Bool.true_and, Bool.and_false, Bool.false_and, Bool.or_true, Bool.true_or, Bool.or_false, Bool.false_or, undef, c2, c0, beq_self_eq_true]
    exact finL_ret [] ⟨rfl, rfl, rfl, rfl, _, rfl, res_mk rfl⟩
  · have e2 : specUnder f a b = (0, 10) := by simp only [specUnder, hok, isR_nat hab hb, hullU_no' hT]; rfl
    have e3 : specUp f = (0, 0, 10) := by simp only [specUp, hok, hT]; rfl
    have e4 : specLong f = ((0, 0), 10) := by simp only [specLong, hok, hullU_no' hT]; rfl
    have hl0 : (truths f).length = 0 := by rw [noT_nil hT]; rfl
    rw [e2] at h23
    rw [e3] at h17
    rw [e4] at h21
    rw [hl0] at h19 q22
    simp only [oneE, twoE, spanE, tSp, fl5] at h17 h19 h21 h23
    simp only [fl5, go_sem, Nat.reduceEqDiff, Nat.reduceAdd, Nat.reduceSub, Nat.reduceMul, Nat.reduceLT, Nat.reduceLeDiff, Nat.reduceMod, Nat.reduceDiv, Int.reduceToNat, Int.reduceLT, Int.reduceLE, Bool.not_true, Bool.not_false, reduceIte, Int.reduceEq, Int.reduceBEq, Int.reduceBNe, Int.reduceGT, Int.reduceGE, Int.reduceNeg, Int.reduceAdd, Int.reduceSub, Nat.reduceBEq, decide_true, decide_false, undef, beq_self_eq_true, bne_self_eq_false, Bool.and_true, Bool.true_and, Bool.and_false, Bool.false_and, Bool.or_true, Bool.true_or, Bool.or_false, Bool.false_or, undef, q3]
    refine ACallL.quiet1 h19 rfl rfl rfl ?_
    simp only [fl5, go_sem, Nat.reduceEqDiff, Nat.reduceAdd, Nat.reduceSub, Nat.reduceMul, Nat.reduceLT, Nat.reduceLeDiff, Nat.reduceMod, Nat.reduceDiv, Int.reduceToNat, Int.reduceLT, Int.reduceLE, Bool.not_true, Bool.not_false, reduceIte, Int.reduceEq, Int.reduceBEq, Int.reduceBNe, Int.reduceGT, Int.reduceGE, Int.reduceNeg, Int.reduceAdd, Int.reduceSub, Nat.reduceBEq, decide_true, decide_false, undef, beq_self_eq_true, bne_self_eq_false, Bool.and_true, Bool.true_and, Bool.and_false, Bool.false_and, Bool.or_true, Bool.true_or, Bool.or_false, Bool.false_or, undef, q3]
    refine ACallL.quiet1 h17 rfl rfl rfl ?_
    simp only [fl5, go_sem, Nat.reduceEqDiff, Nat.reduceAdd, Nat.reduceSub, Nat.reduceMul, Nat.reduceLT, Nat.reduceLeDiff, Nat.reduceMod, Nat.reduceDiv, Int.reduceToNat, Int.reduceLT, Int.reduceLE, Bool.not_true, Bool.not_false, reduceIte, Int.reduceEq, Int.reduceBEq, Int.reduceBNe, Int.reduceGT, Int.reduceGE, Int.reduceNeg, Int.reduceAdd, Int.reduceSub, Nat.reduceBEq, decide_true, decide_false, undef, beq_self_eq_true, bne_self_eq_false, Bool.and_true, Bool.true_and, Bool.and_false, Bool.false_and, Bool.or_true, Bool.true_or, Bool.or_false, Bool.false_or, undef, q3]
    refine ACallL.fresh1 h21 rfl ?_
    simp only [fl5, go_sem, Nat.reduceEqDiff, Nat.reduceAdd, Nat.reduceSub, Nat.reduceMul, Nat.reduceLT, Nat.reduceLeDiff, Nat.reduceMod, Nat.reduceDiv, Int.reduceToNat, Int.reduceLT, Int.reduceLE, Bool.not_true, Bool.not_false, reduceIte, Int.reduceEq, Int.reduceBEq, Int.reduceBNe, Int.reduceGT, Int.reduceGE, Int.reduceNeg, Int.reduceAdd, Int.reduceSub, Nat.reduceBEq, decide_true, decide_false, undef, beq_self_eq_true, bne_self_eq_false, Bool.and_true, Bool.true_and, Bool.and_false, Bool.false_and, Bool.or_true, Bool.true_or, Bool.or_false, Bool.false_or, undef, q3, q20, q21]
    refine ACallL.quiet1 h23 rfl rfl rfl ?_
    simp only [fl5, go_sem, Nat.reduceEqDiff, Nat.reduceAdd, Nat.reduceSub, Nat.reduceMul, Nat.reduceLT, Nat.reduceLeDiff, Nat.reduceMod, Nat.reduceDiv, Int.reduceToNat, Int.reduceLT, Int.reduceLE, Bool.not_true, Bool.not_false, reduceIte, Int.reduceEq, Int.reduceBEq, Int.reduceBNe, Int.reduceGT, Int.reduceGE, Int.reduceNeg, Int.reduceAdd, Int.reduceSub, Nat.reduceBEq, decide_true, decide_false, undef, beq_self_eq_true, bne_self_eq_false, Bool.and_true, Bool.true_and, Bool.and_false, Bool.false_and, Bool.or_true, Bool.true_or, Bool.or_false, Bool.false_or, undef, q3, q20, q21, q22, q23, q24, q25, q26, Int.natCast_zero, toKey2, kEq2]
    refine ACallL.quiet1 awake_ok rfl rfl rfl ?_
    simp only [go_sem, Nat.reduceEqDiff, Nat.reduceAdd, Nat.reduceSub, Nat.reduceMul, Nat.reduceLT, Nat.reduceLeDiff, Nat.reduceMod, Nat.reduceDiv, Int.reduceToNat, Int.reduceLT, Int.reduceLE, Bool.not_true, Bool.not_false, reduceIte, Int.reduceEq, Int.reduceBEq, Int.reduceBNe, Int.reduceGT, Int.reduceGE, Int.reduceNeg, Int.reduceAdd, Int.reduceSub, Nat.reduceBEq, decide_true, decide_false, undef, beq_self_eq_true, bne_self_eq_false, Bool.and_true, Bool.true_and, Bool.and_false, Bool.false_and, Bool.or_true, Bool.true_or, Bool.or_false, Bool.false_or, undef]
    exact finL_ret [] ⟨rfl, rfl, rfl, rfl, _, rfl, res_mk rfl⟩
end Go.Proofs.YtkbjodmpmmnhgaaDoor
