/- Proved here: laws that the statements need (FlR, FlS1, FlS2). No conditions but those that each law states. -/
import Derived.Test.YtkbjodmpmmnhgaaDoorMD
import Derived.Test.YtkbjodmpmmnhgaaDoorME

set_option linter.unusedSimpArgs false
set_option linter.unusedVariables false

/- Wrong. -/
namespace Go.Proofs.YtkbjodmpmmnhgaaDoor
open Go Go.Ab

/-- What is left of what was seen without a set of it. -/
def outS (set : Nat) : Nat → List Sn → List Sn
  | _, [] => []
  | i, s :: r => if set.testBit i then outS set (i + 1) r else s :: outS set (i + 1) r
def leave (f : Fl) (set : Nat) : Fl := { f with ss := outS set 0 f.ss }
theorem outS_sub (set : Nat) : ∀ (i : Nat) (l : List Sn), (outS set i l).Sublist l
  | _, [] => List.Sublist.refl _
  | i, s :: r => by
    simp only [outS]
    split
    · exact (outS_sub set (i + 1) r).cons _
    · exact (outS_sub set (i + 1) r).cons_cons _
theorem outS_len (set i : Nat) (l : List Sn) : (outS set i l).length ≤ l.length := (outS_sub set i l).length_le
theorem leave_OK {f : Fl} (hf : f.OK) (set : Nat) : (leave f set).OK :=
  ⟨hf.low, hf.lh, hf.high, hf.quiet, hf.nh, Nat.le_trans (outS_len _ _ _) hf.ns, hf.hs, fun s hs => hf.ss s ((outS_sub _ _ _).subset hs)⟩

/-- The first of so many numbers for which something is told. -/
def ff {α : Type} (p : Nat → Option α) : Nat → Option α
  | 0 => none
  | n + 1 => match ff p n with | some x => some x | none => p n
theorem ff_none {α : Type} {p : Nat → Option α} : ∀ {n : Nat}, ff p n = none ↔ ∀ i < n, p i = none
  | 0 => by simp [ff]
  | n + 1 => by
    simp only [ff]
    cases h : ff p n with
    | some x =>
      simp only [reduceCtorEq, false_iff]
      intro h2
      rw [ff_none.2 fun i hi => h2 i (by omega)] at h
      cases h
    | none =>
      simp only
      have ih := ff_none.1 h
      constructor
      · intro h2 i hi
        by_cases e : i = n
        · subst e; exact h2
        · exact ih i (by omega)
      · intro h2; exact h2 n (by omega)
theorem ff_some {α : Type} {p : Nat → Option α} {x : α} : ∀ {n : Nat}, ff p n = some x ↔ ∃ k < n, p k = some x ∧ ∀ i < k, p i = none
  | 0 => by simp [ff]
  | n + 1 => by
    simp only [ff]
    cases h : ff p n with
    | some y =>
      obtain ⟨k, hk, h1, h2⟩ := ff_some.1 h
      constructor
      · intro e; cases e; exact ⟨k, by omega, h1, h2⟩
      · rintro ⟨k', hk', h3, h4⟩
        have : k = k' := by
          by_cases c : k < k'
          · rw [h4 k c] at h1; cases h1
          · by_cases c' : k' < k
            · rw [h2 k' c'] at h3; cases h3
            · omega
        subst this
        rw [h1] at h3
        exact h3
    | none =>
      have ih := ff_none.1 h
      simp only
      constructor
      · intro e; exact ⟨n, by omega, e, ih⟩
      · rintro ⟨k, hk, h1, h2⟩
        by_cases c : k < n
        · rw [ih k c] at h1; cases h1
        · have : k = n := by omega
          subst this; exact h1

def tryW (f : Fl) (many set : Nat) : Option Nat := if size set = many ∧ noT (leave f set) = false then some set else none
def wrongF (f : Fl) : Option Nat := ff (fun many => ff (tryW f many) (2 ^ f.ss.length)) (f.ss.length + 1)
def specWrong (f : Fl) : Int × Int := if f.ok then (if noT f then (match wrongF f with | some set => ((set : Nat), 0) | none => (0, 0)) else (0, 4)) else (0, 1)

/-- What is left behind so many steps, from behind. -/
def curS (set : Nat) (l : List Sn) (i : Nat) : List Sn := l.take i ++ outS set i (l.drop i)
theorem curS_top (set : Nat) (l : List Sn) : curS set l l.length = l := by simp [curS, outS]
theorem curS_zero (set : Nat) (l : List Sn) : curS set l 0 = outS set 0 l := by simp [curS]
theorem curS_step (set : Nat) (l : List Sn) {i : Nat} (hi : i < l.length) : curS set l i = if set.testBit i then (curS set l (i + 1)).take i ++ (curS set l (i + 1)).drop (i + 1) else curS set l (i + 1) := by
  have hd : l.drop i = l[i] :: l.drop (i + 1) := List.drop_eq_getElem_cons hi
  have ht : l.take (i + 1) = l.take i ++ [l[i]] := by rw [List.take_add_one, List.getElem?_eq_getElem hi]; rfl
  have hl : (l.take i).length = i := by rw [List.length_take]; omega
  unfold curS
  rw [hd, ht]
  simp only [outS]
  split
  · rw [List.append_assoc, List.take_left' hl, ← List.append_assoc, List.drop_left' (by rw [List.length_append, hl]; rfl)]
  · rw [List.append_assoc]; rfl
theorem curS_len (set : Nat) (l : List Sn) {i : Nat} (hi : i ≤ l.length) : i ≤ (curS set l i).length ∧ (curS set l i).length ≤ l.length := by
  unfold curS
  rw [List.length_append, List.length_take]
  have := outS_len set i (l.drop i)
  rw [List.length_drop] at this
  omega

theorem gc_x (A B : AO) (a b c d : T) (l : List Sn) : E.gc [0, 1] [A, B, .cells [.t a, .t b, .t c, .t d, .loc 3 l.length], .row 2 ((l.map tSn).map .t)] 12 (.ptr 2 0) = .t (.ptr (.agg [a, b, c, d, .slice 2 (l.map tSn)]) 0) := by
  rw [E.gc]
  simp only [pos?, Nat.reduceEqDiff, reduceIte, Option.map_none, List.getElem?_cons_succ, List.getElem?_cons_zero, List.map_cons, List.map_nil, gc_t]
  rw [gc_loc (n := 9) (xs := l.map tSn) rfl rfl (by simp)]
  rfl

set_option maxRecDepth 8000 in
set_option maxHeartbeats 4000000 in
theorem Wrong_ok (f : Fl) (hl : f.hs.length < 9223372036854775808 ∧ f.ss.length < 9223372036854775808) : ACall Tryd.prog 29 [.t (.agg (fl5 f))] [] (res (oneE (specWrong f).1 (specWrong f).2)) := by
  refine ACall.walkD k29 ?_
  have h45 := open_ok f true hl
  unfold c29 fl5
  simp only [fl5] at h45
  simp only [go_sem, Nat.reduceEqDiff, Nat.reduceAdd, Nat.reduceSub, Nat.reduceMul, Nat.reduceLT, Nat.reduceLeDiff, Nat.reduceMod, Nat.reduceDiv, Int.reduceToNat, Int.reduceLT, Int.reduceLE, Bool.not_true, Bool.not_false, reduceIte, Int.reduceEq, Int.reduceBEq, Int.reduceBNe, Int.reduceGT, Int.reduceGE, Int.reduceNeg, Int.reduceAdd, Int.reduceSub, Nat.reduceBEq, decide_true, decide_false, undef, beq_self_eq_true, bne_self_eq_false, Bool.and_true, Bool.true_and, Bool.and_false, Bool.false_and, Bool.or_true, Bool.true_or, Bool.or_false, Bool.false_or, List.length_map]
  refine ACallL.fresh1 h45 rfl ?_
  cases hok : f.ok
  · simp only [openO, hok, go_sem, Nat.reduceEqDiff, Nat.reduceAdd, Nat.reduceSub, Nat.reduceMul, Nat.reduceLT, Nat.reduceLeDiff, Nat.reduceMod, Nat.reduceDiv, Int.reduceToNat, Int.reduceLT, Int.reduceLE, Bool.not_true, Bool.not_false, reduceIte, Int.reduceEq, Int.reduceBEq, Int.reduceBNe, Int.reduceGT, Int.reduceGE, Int.reduceNeg, Int.reduceAdd, Int.reduceSub, Nat.reduceBEq, decide_true, decide_false, undef, beq_self_eq_true, bne_self_eq_false, Bool.and_true, Bool.true_and, Bool.and_false, Bool.false_and, Bool.or_true, Bool.true_or, Bool.or_false, Bool.false_or]
    refine finDL_pan rfl rfl ((answer_pan rfl).mono fun σ' h => ?_)
    subst h
    exact ⟨_, rfl, [], rfl, rfl, res_mk (by simp only [specWrong, hok]; rfl)⟩
  · have hf := (f.ok_iff).1 hok
    have hs8 := hf.ns
    have h51 := all_ok f hf
    rw [allN_eq f hf] at h51
    simp only [openO, hok, go_sem, Nat.reduceEqDiff, Nat.reduceAdd, Nat.reduceSub, Nat.reduceMul, Nat.reduceLT, Nat.reduceLeDiff, Nat.reduceMod, Nat.reduceDiv, Int.reduceToNat, Int.reduceLT, Int.reduceLE, Bool.not_true, Bool.not_false, reduceIte, Int.reduceEq, Int.reduceBEq, Int.reduceBNe, Int.reduceGT, Int.reduceGE, Int.reduceNeg, Int.reduceAdd, Int.reduceSub, Nat.reduceBEq, decide_true, decide_false, undef, beq_self_eq_true, bne_self_eq_false, Bool.and_true, Bool.true_and, Bool.and_false, Bool.false_and, Bool.or_true, Bool.true_or, Bool.or_false, Bool.false_or]
    refine ACallL.fresh1 h51 rfl ?_
    simp only [go_sem, Nat.reduceEqDiff, Nat.reduceAdd, Nat.reduceSub, Nat.reduceMul, Nat.reduceLT, Nat.reduceLeDiff, Nat.reduceMod, Nat.reduceDiv, Int.reduceToNat, Int.reduceLT, Int.reduceLE, Bool.not_true, Bool.not_false, reduceIte, Int.reduceEq, Int.reduceBEq, Int.reduceBNe, Int.reduceGT, Int.reduceGE, Int.reduceNeg, Int.reduceAdd, Int.reduceSub, Nat.reduceBEq, decide_true, decide_false, undef, beq_self_eq_true, bne_self_eq_false, Bool.and_true, Bool.true_and, Bool.and_false, Bool.false_and, Bool.or_true, Bool.true_or, Bool.or_false, Bool.false_or]
    refine ACallL.quiet1 (ask_ok _ 4) rfl rfl (by simp only [askO]; split <;> rfl) ?_
    have hz : ((((truths f).length : Int)) == 0) = noT f := by
      unfold noT
      cases truths f with
      | nil => rfl
      | cons x l => simp; omega
    rw [hz]
    cases hT : noT f
    · simp only [askO, go_sem, Nat.reduceEqDiff, Nat.reduceAdd, Nat.reduceSub, Nat.reduceMul, Nat.reduceLT, Nat.reduceLeDiff, Nat.reduceMod, Nat.reduceDiv, Int.reduceToNat, Int.reduceLT, Int.reduceLE, Bool.not_true, Bool.not_false, reduceIte, Int.reduceEq, Int.reduceBEq, Int.reduceBNe, Int.reduceGT, Int.reduceGE, Int.reduceNeg, Int.reduceAdd, Int.reduceSub, Nat.reduceBEq, decide_true, decide_false, undef, beq_self_eq_true, bne_self_eq_false, Bool.and_true, Bool.true_and, Bool.and_false, Bool.false_and, Bool.or_true, Bool.true_or, Bool.or_false, Bool.false_or]
      refine finDL_pan rfl rfl ((answer_pan rfl).mono fun σ' h => ?_)
      subst h
      exact ⟨_, rfl, [], rfl, rfl, res_mk (by simp only [specWrong, hok, hT]; rfl)⟩
    · have hw1 : IntKind.i64.wrap ((f.ss.length : Int) + 1) = ((f.ss.length + 1 : Nat) : Int) := by rw [wrap_id (by omega) (by omega)]; omega
      have hshl := shl_one (show f.ss.length < 62 by omega)
      have hp2 : 2 ^ f.ss.length ≤ 256 := Nat.pow_le_pow_right (n := 2) (by decide) hs8
      simp only [askO, go_sem, Nat.reduceEqDiff, Nat.reduceAdd, Nat.reduceSub, Nat.reduceMul, Nat.reduceLT, Nat.reduceLeDiff, Nat.reduceMod, Nat.reduceDiv, Int.reduceToNat, Int.reduceLT, Int.reduceLE, Bool.not_true, Bool.not_false, reduceIte, Int.reduceEq, Int.reduceBEq, Int.reduceBNe, Int.reduceGT, Int.reduceGE, Int.reduceNeg, Int.reduceAdd, Int.reduceSub, Nat.reduceBEq, decide_true, decide_false, undef, beq_self_eq_true, bne_self_eq_false, Bool.and_true, Bool.true_and, Bool.and_false, Bool.false_and, Bool.or_true, Bool.true_or, Bool.or_false, Bool.false_or, hw1, List.length_map]
      refine awpL_for (i := 17) (L := 16) (f.ss.length + 1) (fun many s => (∀ m < many, ff (tryW f m) (2 ^ f.ss.length) = none) ∧ s = { env := [(17, .t (vi many)), (16, .t (vi (f.ss.length + 1 : Nat))), (1, .ptr 0 0), (3, .ptr 1 0)], σ := [.cells ((fl5 f).map .t), .cells [.t (vi 0)]], df := [.call 44 [.ptr 1 0]] }) ?_ ⟨_, Sub.gc [0, 1] [17, 16, 1, 3] rfl rfl, by simp, rfl⟩ ?_ ?_
      · rintro k s ⟨_, rfl⟩; exact ⟨rfl, rfl⟩
      · rintro many s hmany ⟨hno, rfl⟩
        have hw : IntKind.i64.wrap ((many : Int) + 1) = ((many + 1 : Nat) : Int) := by rw [wrap_id (by omega) (by omega)]; omega
        simp only [fl5, go_sem, Nat.reduceEqDiff, Nat.reduceAdd, Nat.reduceSub, Nat.reduceMul, Nat.reduceLT, Nat.reduceLeDiff, Nat.reduceMod, Nat.reduceDiv, Int.reduceToNat, Int.reduceLT, Int.reduceLE, Bool.not_true, Bool.not_false, reduceIte, Int.reduceEq, Int.reduceBEq, Int.reduceBNe, Int.reduceGT, Int.reduceGE, Int.reduceNeg, Int.reduceAdd, Int.reduceSub, Nat.reduceBEq, decide_true, decide_false, undef, beq_self_eq_true, bne_self_eq_false, Bool.and_true, Bool.true_and, Bool.and_false, Bool.false_and, Bool.or_true, Bool.true_or, Bool.or_false, Bool.false_or, nat_neg, hshl, List.length_map]
        refine awpL_for (i := 24) (L := 23) (2 ^ f.ss.length) (fun set s => (∀ m < set, tryW f many m = none) ∧ s = { env := [(24, .t (vi set)), (23, .t (vi (2 ^ f.ss.length : Nat))), (4, .t (vi many)), (17, .t (vi many)), (16, .t (vi (f.ss.length + 1 : Nat))), (1, .ptr 0 0), (3, .ptr 1 0)], σ := [.cells ((fl5 f).map .t), .cells [.t (vi 0)]], df := [.call 44 [.ptr 1 0]] }) ?_ ⟨_, Sub.gc [0, 1] [24, 23, 4, 17, 16, 1, 3] rfl rfl, by simp, rfl⟩ ?_ ?_
        · rintro k s ⟨_, rfl⟩; exact ⟨rfl, rfl⟩
        · rintro set s hset ⟨hno2, rfl⟩
          have hw2 : IntKind.i64.wrap ((set : Int) + 1) = ((set + 1 : Nat) : Int) := by rw [wrap_id (by omega) (by omega)]; omega
          have hwu : IntKind.u64.wrap (set : Int) = set := (dec256 (p := fun m => IntKind.u64.wrap (m : Int) = m) (by decide +kernel)) set (by omega)
          simp only [go_sem, Nat.reduceEqDiff, Nat.reduceAdd, Nat.reduceSub, Nat.reduceMul, Nat.reduceLT, Nat.reduceLeDiff, Nat.reduceMod, Nat.reduceDiv, Int.reduceToNat, Int.reduceLT, Int.reduceLE, Bool.not_true, Bool.not_false, reduceIte, Int.reduceEq, Int.reduceBEq, Int.reduceBNe, Int.reduceGT, Int.reduceGE, Int.reduceNeg, Int.reduceAdd, Int.reduceSub, Nat.reduceBEq, decide_true, decide_false, undef, beq_self_eq_true, bne_self_eq_false, Bool.and_true, Bool.true_and, Bool.and_false, Bool.false_and, Bool.or_true, Bool.true_or, Bool.or_false, Bool.false_or, hwu]
          refine ACallL.quiet1 (ones_ok set (by omega)) rfl rfl rfl ?_
          simp only [go_sem, Nat.reduceEqDiff, Nat.reduceAdd, Nat.reduceSub, Nat.reduceMul, Nat.reduceLT, Nat.reduceLeDiff, Nat.reduceMod, Nat.reduceDiv, Int.reduceToNat, Int.reduceLT, Int.reduceLE, Bool.not_true, Bool.not_false, reduceIte, Int.reduceEq, Int.reduceBEq, Int.reduceBNe, Int.reduceGT, Int.reduceGE, Int.reduceNeg, Int.reduceAdd, Int.reduceSub, Nat.reduceBEq, decide_true, decide_false, undef, beq_self_eq_true, bne_self_eq_false, Bool.and_true, Bool.true_and, Bool.and_false, Bool.false_and, Bool.or_true, Bool.true_or, Bool.or_false, Bool.false_or]
          refine BrL.mk (fun h1 => ?_) (fun h1 => ?_)
          · have h1' : ¬ size set = many := by simp at h1; omega
            simp only [go_sem, Nat.reduceEqDiff, Nat.reduceAdd, Nat.reduceSub, Nat.reduceMul, Nat.reduceLT, Nat.reduceLeDiff, Nat.reduceMod, Nat.reduceDiv, Int.reduceToNat, Int.reduceLT, Int.reduceLE, Bool.not_true, Bool.not_false, reduceIte, Int.reduceEq, Int.reduceBEq, Int.reduceBNe, Int.reduceGT, Int.reduceGE, Int.reduceNeg, Int.reduceAdd, Int.reduceSub, Nat.reduceBEq, decide_true, decide_false, undef, beq_self_eq_true, bne_self_eq_false, Bool.and_true, Bool.true_and, Bool.and_false, Bool.false_and, Bool.or_true, Bool.true_or, Bool.or_false, Bool.false_or, h1, hw2]
            refine ⟨_, Sub.gc [0, 1] [24, 23, 4, 17, 16, 1, 3] rfl rfl, ?_, rfl⟩
            intro m hm
            by_cases e : m = set
            · subst e; unfold tryW; rw [if_neg (fun h => h1' h.1)]
            · exact hno2 m (by omega)
          · have h1' : size set = many := by simp at h1; omega
            have hw3 : IntKind.i64.wrap ((f.ss.length : Int) - 1) = (f.ss.length : Int) - 1 := wrap_id (by omega) (by omega)
            simp only [fl5, go_sem, Nat.reduceEqDiff, Nat.reduceAdd, Nat.reduceSub, Nat.reduceMul, Nat.reduceLT, Nat.reduceLeDiff, Nat.reduceMod, Nat.reduceDiv, Int.reduceToNat, Int.reduceLT, Int.reduceLE, Bool.not_true, Bool.not_false, reduceIte, Int.reduceEq, Int.reduceBEq, Int.reduceBNe, Int.reduceGT, Int.reduceGE, Int.reduceNeg, Int.reduceAdd, Int.reduceSub, Nat.reduceBEq, decide_true, decide_false, undef, beq_self_eq_true, bne_self_eq_false, Bool.and_true, Bool.true_and, Bool.and_false, Bool.false_and, Bool.or_true, Bool.true_or, Bool.or_false, Bool.false_or, h1, List.length_map, nat_neg, hw3, List.length_replicate]
            refine ⟨by omega, ?_⟩
            refine awpL_loopK f.ss.length (fun j s => s = { env := [(7, .t (vi ((f.ss.length : Int) - 1 - j))), (5, .t (vi set)), (24, .t (vi set)), (23, .t (vi (2 ^ f.ss.length : Nat))), (4, .t (vi many)), (17, .t (vi many)), (16, .t (vi (f.ss.length + 1 : Nat))), (1, .ptr 0 0), (3, .ptr 1 0), (6, .ptr 2 0)], σ := [.cells ((fl5 f).map .t), .cells [.t (vi 0)], .cells [.t (vi f.low), .t (vi f.high), .t (vi f.quiet), .t (.slice 3 (f.hs.map tHr)), .loc 3 (curS set f.ss (f.ss.length - j)).length], .row 2 (((curS set f.ss (f.ss.length - j)).map tSn).map .t)], df := [.call 44 [.ptr 1 0]] }) ?_ ?_
            · refine ⟨_, Sub.gc [0, 1, 2, 3] [7, 5, 24, 23, 4, 17, 16, 1, 3, 6] rfl rfl, ?_⟩
              have hdr : ∀ x : E, List.drop f.ss.length (List.replicate f.ss.length x) = [] := fun x => by simp
              rw [show f.ss.length - 0 = f.ss.length from rfl, curS_top, show (f.ss.length : Int) - 1 - ((0 : Nat) : Int) = f.ss.length - 1 by simp]
              refine St.gc_mk rfl ?_ rfl rfl
              simp only [σgc, AO.gc, List.map_cons, List.map_nil, List.getD_cons_zero, List.getD_cons_succ, List.map_append, List.map_map, gc_t, gc_comp, gc_comp', gc_row, hdr, List.append_nil, gc_row, fl5]
              rfl
            · rintro j s hj rfl
              simp only [fl5, go_sem, Nat.reduceEqDiff, Nat.reduceAdd, Nat.reduceSub, Nat.reduceMul, Nat.reduceLT, Nat.reduceLeDiff, Nat.reduceMod, Nat.reduceDiv, Int.reduceToNat, Int.reduceLT, Int.reduceLE, Bool.not_true, Bool.not_false, reduceIte, Int.reduceEq, Int.reduceBEq, Int.reduceBNe, Int.reduceGT, Int.reduceGE, Int.reduceNeg, Int.reduceAdd, Int.reduceSub, Nat.reduceBEq, decide_true, decide_false, undef, beq_self_eq_true, bne_self_eq_false, Bool.and_true, Bool.true_and, Bool.and_false, Bool.false_and, Bool.or_true, Bool.true_or, Bool.or_false, Bool.false_or]
              refine BrL.mk (fun h2 => ?_) (fun h2 => ?_)
              · have hjn : j < f.ss.length := by simp at h2; omega
                obtain ⟨i, hi, hin⟩ : ∃ i : Nat, i < f.ss.length ∧ f.ss.length - j = i + 1 := ⟨f.ss.length - j - 1, by omega, by omega⟩
                have e1 : (f.ss.length : Int) - 1 - j = i := by omega
                have e2 : f.ss.length - (j + 1) = i := by omega
                have w4 : IntKind.i64.wrap ((i : Int) + 1) = ((i + 1 : Nat) : Int) := by rw [wrap_id (by omega) (by omega)]; omega
                have w5 : IntKind.i64.wrap ((i : Int) - 1) = (f.ss.length : Int) - 1 - (j + 1 : Nat) := by rw [wrap_id (by omega) (by omega)]; omega
                have hbit := bit_eq (a := set) (i := i) (by omega)
                have hst := curS_step set f.ss hi
                have hle := curS_len set f.ss (i := i + 1) (by omega)
                rw [e1] at h2
                rw [e1, hin]
                simp only [go_sem, Nat.reduceEqDiff, Nat.reduceAdd, Nat.reduceSub, Nat.reduceMul, Nat.reduceLT, Nat.reduceLeDiff, Nat.reduceMod, Nat.reduceDiv, Int.reduceToNat, Int.reduceLT, Int.reduceLE, Bool.not_true, Bool.not_false, reduceIte, Int.reduceEq, Int.reduceBEq, Int.reduceBNe, Int.reduceGT, Int.reduceGE, Int.reduceNeg, Int.reduceAdd, Int.reduceSub, Nat.reduceBEq, decide_true, decide_false, undef, beq_self_eq_true, bne_self_eq_false, Bool.and_true, Bool.true_and, Bool.and_false, Bool.false_and, Bool.or_true, Bool.true_or, Bool.or_false, Bool.false_or, h2, nat_neg, hbit]
                generalize curS set f.ss (i + 1) = cur at *
                cases hb : set.testBit i
                · rw [hb] at hst
                  simp only [Bool.false_eq_true, if_false] at hst
                  simp only [go_sem, Nat.reduceEqDiff, Nat.reduceAdd, Nat.reduceSub, Nat.reduceMul, Nat.reduceLT, Nat.reduceLeDiff, Nat.reduceMod, Nat.reduceDiv, Int.reduceToNat, Int.reduceLT, Int.reduceLE, Bool.not_true, Bool.not_false, reduceIte, Int.reduceEq, Int.reduceBEq, Int.reduceBNe, Int.reduceGT, Int.reduceGE, Int.reduceNeg, Int.reduceAdd, Int.reduceSub, Nat.reduceBEq, decide_true, decide_false, undef, beq_self_eq_true, bne_self_eq_false, Bool.and_true, Bool.true_and, Bool.and_false, Bool.false_and, Bool.or_true, Bool.true_or, Bool.or_false, Bool.false_or, w5]
                  refine ⟨by omega, _, Sub.gc [0, 1, 2, 3] [7, 5, 24, 23, 4, 17, 16, 1, 3, 6] rfl rfl, ?_⟩
                  rw [e2, hst]
                  refine St.gc_mk rfl ?_ rfl rfl
                  simp only [σgc, AO.gc, List.map_cons, List.map_nil, List.getD_cons_zero, List.getD_cons_succ, List.map_append, List.map_map, gc_t, gc_comp, gc_comp', gc_row, gc_row, fl5]
                  rfl
                · rw [hb] at hst
                  simp only [if_true] at hst
                  have hc : i + 1 + (cur.length - (i + 1)) ≤ cur.length := by omega
                  have hc2 : (i : Int) ≤ cur.length := by omega
                  have hc3 : ((i + 1 : Nat) : Int) ≤ cur.length := by omega
                  have hc4 : 0 < cur.length := by omega
                  have hc5 : i + (cur.length - (i + 1)) ≤ cur.length := by omega
                  have hy : List.take (cur.length - (i + 1)) (List.drop (i + 1) (List.map E.t (List.map tSn cur))) = ((cur.drop (i + 1)).map tSn).map .t := by
                    rw [List.take_of_length_le (by simp), ← List.map_drop, ← List.map_drop]
                  have hz2 : List.take i (List.map E.t (List.map tSn cur)) = ((cur.take i).map tSn).map .t := by rw [← List.map_take, ← List.map_take]
                  simp only [go_sem, Nat.reduceEqDiff, Nat.reduceAdd, Nat.reduceSub, Nat.reduceMul, Nat.reduceLT, Nat.reduceLeDiff, Nat.reduceMod, Nat.reduceDiv, Int.reduceToNat, Int.reduceLT, Int.reduceLE, Bool.not_true, Bool.not_false, reduceIte, Int.reduceEq, Int.reduceBEq, Int.reduceBNe, Int.reduceGT, Int.reduceGE, Int.reduceNeg, Int.reduceAdd, Int.reduceSub, Nat.reduceBEq, decide_true, decide_false, undef, beq_self_eq_true, bne_self_eq_false, Bool.and_true, Bool.true_and, Bool.and_false, Bool.false_and, Bool.or_true, Bool.true_or, Bool.or_false, Bool.false_or, w4, w5, bnd, List.length_map, hc, hc2, hc3, hc4, hc5, hy, hz2, Nat.sub_zero, List.length_drop]
                  refine ⟨by omega, by omega, _, Sub.gc [0, 1, 2, 4] [7, 5, 24, 23, 4, 17, 16, 1, 3, 6] rfl rfl, ?_⟩
                  have hlen : i + (cur.length - (i + 1)) = (curS set f.ss i).length := by
                    rw [hst, List.length_append, List.length_take, List.length_drop]; omega
                  rw [e2, hlen, hst]
                  refine St.gc_mk rfl ?_ rfl rfl
                  simp only [σgc, AO.gc, List.map_cons, List.map_nil, List.getD_cons_zero, List.getD_cons_succ, List.map_append, List.map_map, gc_t, gc_comp, gc_comp', gc_row, gc_row, fl5, List.map_append]
                  rfl
              · obtain rfl : j = f.ss.length := by simp at h2; omega
                simp only [go_sem, Nat.reduceEqDiff, Nat.reduceAdd, Nat.reduceSub, Nat.reduceMul, Nat.reduceLT, Nat.reduceLeDiff, Nat.reduceMod, Nat.reduceDiv, Int.reduceToNat, Int.reduceLT, Int.reduceLE, Bool.not_true, Bool.not_false, reduceIte, Int.reduceEq, Int.reduceBEq, Int.reduceBNe, Int.reduceGT, Int.reduceGE, Int.reduceNeg, Int.reduceAdd, Int.reduceSub, Nat.reduceBEq, decide_true, decide_false, undef, beq_self_eq_true, bne_self_eq_false, Bool.and_true, Bool.true_and, Bool.and_false, Bool.false_and, Bool.or_true, Bool.true_or, Bool.or_false, Bool.false_or, h2]
                rw [Nat.sub_self, curS_zero]
                have hL := leave_OK hf set
                have hLok := (Fl.ok_iff _).2 hL
                have l45 := open_ok (leave f set) true (by have := hL.nh; have := hL.ns; omega)
                simp only [openO, hLok, fl5] at l45
                have l51 := all_ok (leave f set) hL
                rw [allN_eq _ hL] at l51
                refine awpL_gcpE [0, 1] [5, 24, 23, 4, 17, 16, 1, 3, 6] { env := [(5, .t (vi set)), (24, .t (vi set)), (23, .t (vi (2 ^ f.ss.length : Nat))), (4, .t (vi many)), (17, .t (vi many)), (16, .t (vi (f.ss.length + 1 : Nat))), (1, .ptr 0 0), (3, .ptr 1 0), (6, .t (.ptr (.agg (fl5 (leave f set))) 0))], σ := [.cells ((fl5 f).map .t), .cells [.t (vi 0)]], df := [.call 44 [.ptr 1 0]] } ?_ rfl rfl ?_
                · refine St.gc_mk ?_ rfl rfl rfl
                  simp only [List.map_cons, List.map_nil, lk, Nat.reduceEqDiff, reduceIte, gc_x]
                  rfl
                · simp only [fl5, go_sem, Nat.reduceEqDiff, Nat.reduceAdd, Nat.reduceSub, Nat.reduceMul, Nat.reduceLT, Nat.reduceLeDiff, Nat.reduceMod, Nat.reduceDiv, Int.reduceToNat, Int.reduceLT, Int.reduceLE, Bool.not_true, Bool.not_false, reduceIte, Int.reduceEq, Int.reduceBEq, Int.reduceBNe, Int.reduceGT, Int.reduceGE, Int.reduceNeg, Int.reduceAdd, Int.reduceSub, Nat.reduceBEq, decide_true, decide_false, undef, beq_self_eq_true, bne_self_eq_false, Bool.and_true, Bool.true_and, Bool.and_false, Bool.false_and, Bool.or_true, Bool.true_or, Bool.or_false, Bool.false_or]
                  refine ACallL.fresh1 l45 rfl ?_
                  simp only [go_sem, Nat.reduceEqDiff, Nat.reduceAdd, Nat.reduceSub, Nat.reduceMul, Nat.reduceLT, Nat.reduceLeDiff, Nat.reduceMod, Nat.reduceDiv, Int.reduceToNat, Int.reduceLT, Int.reduceLE, Bool.not_true, Bool.not_false, reduceIte, Int.reduceEq, Int.reduceBEq, Int.reduceBNe, Int.reduceGT, Int.reduceGE, Int.reduceNeg, Int.reduceAdd, Int.reduceSub, Nat.reduceBEq, decide_true, decide_false, undef, beq_self_eq_true, bne_self_eq_false, Bool.and_true, Bool.true_and, Bool.and_false, Bool.false_and, Bool.or_true, Bool.true_or, Bool.or_false, Bool.false_or]
                  refine ACallL.fresh1 l51 rfl ?_
                  simp only [go_sem, Nat.reduceEqDiff, Nat.reduceAdd, Nat.reduceSub, Nat.reduceMul, Nat.reduceLT, Nat.reduceLeDiff, Nat.reduceMod, Nat.reduceDiv, Int.reduceToNat, Int.reduceLT, Int.reduceLE, Bool.not_true, Bool.not_false, reduceIte, Int.reduceEq, Int.reduceBEq, Int.reduceBNe, Int.reduceGT, Int.reduceGE, Int.reduceNeg, Int.reduceAdd, Int.reduceSub, Nat.reduceBEq, decide_true, decide_false, undef, beq_self_eq_true, bne_self_eq_false, Bool.and_true, Bool.true_and, Bool.and_false, Bool.false_and, Bool.or_true, Bool.true_or, Bool.or_false, Bool.false_or, noT_len]
                  cases hLT : noT (leave f set)
                  · simp only [go_sem, Nat.reduceEqDiff, Nat.reduceAdd, Nat.reduceSub, Nat.reduceMul, Nat.reduceLT, Nat.reduceLeDiff, Nat.reduceMod, Nat.reduceDiv, Int.reduceToNat, Int.reduceLT, Int.reduceLE, Bool.not_true, Bool.not_false, reduceIte, Int.reduceEq, Int.reduceBEq, Int.reduceBNe, Int.reduceGT, Int.reduceGE, Int.reduceNeg, Int.reduceAdd, Int.reduceSub, Nat.reduceBEq, decide_true, decide_false, undef, beq_self_eq_true, bne_self_eq_false, Bool.and_true, Bool.true_and, Bool.and_false, Bool.false_and, Bool.or_true, Bool.true_or, Bool.or_false, Bool.false_or]
                    refine finDL_ret rfl rfl (answer_none.mono fun σ' h => ?_)
                    subst h
                    have hW : wrongF f = some set := ff_some.2 ⟨many, by omega, ff_some.2 ⟨set, hset, by unfold tryW; rw [if_pos ⟨h1', hLT⟩], hno2⟩, hno⟩
                    exact ⟨_, rfl, [], rfl, rfl, res_mk (by simp only [specWrong, hok, hT, hW]; rfl)⟩
                  · simp only [go_sem, Nat.reduceEqDiff, Nat.reduceAdd, Nat.reduceSub, Nat.reduceMul, Nat.reduceLT, Nat.reduceLeDiff, Nat.reduceMod, Nat.reduceDiv, Int.reduceToNat, Int.reduceLT, Int.reduceLE, Bool.not_true, Bool.not_false, reduceIte, Int.reduceEq, Int.reduceBEq, Int.reduceBNe, Int.reduceGT, Int.reduceGE, Int.reduceNeg, Int.reduceAdd, Int.reduceSub, Nat.reduceBEq, decide_true, decide_false, undef, beq_self_eq_true, bne_self_eq_false, Bool.and_true, Bool.true_and, Bool.and_false, Bool.false_and, Bool.or_true, Bool.true_or, Bool.or_false, Bool.false_or, hw2]
                    refine ⟨_, Sub.gc [0, 1] [24, 23, 4, 17, 16, 1, 3] rfl rfl, ?_, rfl⟩
                    intro m hm
                    by_cases e : m = set
                    · subst e; unfold tryW; rw [if_neg (fun h => by rw [hLT] at h; cases h.2)]
                    · exact hno2 m (by omega)
        · rintro s ⟨hno2, rfl⟩
          simp only [go_sem, Nat.reduceEqDiff, Nat.reduceAdd, Nat.reduceSub, Nat.reduceMul, Nat.reduceLT, Nat.reduceLeDiff, Nat.reduceMod, Nat.reduceDiv, Int.reduceToNat, Int.reduceLT, Int.reduceLE, Bool.not_true, Bool.not_false, reduceIte, Int.reduceEq, Int.reduceBEq, Int.reduceBNe, Int.reduceGT, Int.reduceGE, Int.reduceNeg, Int.reduceAdd, Int.reduceSub, Nat.reduceBEq, decide_true, decide_false, undef, beq_self_eq_true, bne_self_eq_false, Bool.and_true, Bool.true_and, Bool.and_false, Bool.false_and, Bool.or_true, Bool.true_or, Bool.or_false, Bool.false_or, hw]
          refine ⟨_, Sub.gc [0, 1] [17, 16, 1, 3] rfl rfl, ?_, rfl⟩
          intro m hm
          by_cases e : m = many
          · subst e; exact ff_none.2 hno2
          · exact hno m (by omega)
      · rintro s ⟨hno, rfl⟩
        simp only [go_sem, Nat.reduceEqDiff, Nat.reduceAdd, Nat.reduceSub, Nat.reduceMul, Nat.reduceLT, Nat.reduceLeDiff, Nat.reduceMod, Nat.reduceDiv, Int.reduceToNat, Int.reduceLT, Int.reduceLE, Bool.not_true, Bool.not_false, reduceIte, Int.reduceEq, Int.reduceBEq, Int.reduceBNe, Int.reduceGT, Int.reduceGE, Int.reduceNeg, Int.reduceAdd, Int.reduceSub, Nat.reduceBEq, decide_true, decide_false, undef, beq_self_eq_true, bne_self_eq_false, Bool.and_true, Bool.true_and, Bool.and_false, Bool.false_and, Bool.or_true, Bool.true_or, Bool.or_false, Bool.false_or]
        refine finDL_ret rfl rfl (answer_none.mono fun σ' h => ?_)
        subst h
        have hW : wrongF f = none := ff_none.2 hno
        exact ⟨_, rfl, [], rfl, rfl, res_mk (by simp only [specWrong, hok, hT, hW]; rfl)⟩
end Go.Proofs.YtkbjodmpmmnhgaaDoor

/- The document's small functions. -/
namespace Go.Proofs.YtkbjodmpmmnhgaaDoor
open Go Go.Ab

theorem rin_ok (n lo hi : Int) : ACall Tryd.prog 59 [.t (vi n), .t (vi lo), .t (vi hi)] [] (ret (vb (wI n lo hi))) := by
  refine ACall.walk k59 ?_
  unfold c59
  simp only [go_sem, Nat.reduceEqDiff, Nat.reduceAdd, Nat.reduceSub, Nat.reduceMul, Nat.reduceLT, Nat.reduceLeDiff, Nat.reduceMod, Nat.reduceDiv, Int.reduceToNat, Int.reduceLT, Int.reduceLE, Bool.not_true, Bool.not_false, reduceIte]
  cases hA : decide (lo ≤ n)
  · simp only [go_sem, Nat.reduceEqDiff, Nat.reduceAdd, Nat.reduceSub, Nat.reduceMul, Nat.reduceLT, Nat.reduceLeDiff, Nat.reduceMod, Nat.reduceDiv, Int.reduceToNat, Int.reduceLT, Int.reduceLE, Bool.not_true, Bool.not_false, reduceIte, undef, hA]
    exact finL_ret [] ⟨rfl, rfl, rfl, rfl, _, rfl, res_mk (by
      have : ¬ lo ≤ n := by simpa using hA
      have e : wI n lo hi = false := by simp [wI, this]
      rw [e]; rfl)⟩
  · simp only [go_sem, Nat.reduceEqDiff, Nat.reduceAdd, Nat.reduceSub, Nat.reduceMul, Nat.reduceLT, Nat.reduceLeDiff, Nat.reduceMod, Nat.reduceDiv, Int.reduceToNat, Int.reduceLT, Int.reduceLE, Bool.not_true, Bool.not_false, reduceIte, undef, hA]
    exact finL_ret [] ⟨rfl, rfl, rfl, rfl, _, rfl, res_mk (by
      have : lo ≤ n := by simpa using hA
      have e : wI n lo hi = decide (n ≤ hi) := by simp [wI, this]
      rw [e]; rfl)⟩

theorem rhour_ok (f : Fl) (h : Int) (hl : f.hs.length < 9223372036854775808) : ACall Tryd.prog 47 [.t (.agg (fl5 f)), .t (vi h)] [] (ret (vb (f.isH h))) := by
  refine ACall.walk k47 ?_
  unfold c47 fl5
  have e1 : IntKind.i64.wrap ((f.hs.length : Int) - 1) = f.hs.length - 1 := wrap_id (by omega) (by omega)
  simp only [go_sem, Nat.reduceEqDiff, Nat.reduceAdd, Nat.reduceSub, Nat.reduceMul, Nat.reduceLT, Nat.reduceLeDiff, Nat.reduceMod, Nat.reduceDiv, Int.reduceToNat, Int.reduceLT, Int.reduceLE, Bool.not_true, Bool.not_false, reduceIte, Int.reduceEq, Int.reduceBEq, Int.reduceBNe, Int.reduceGT, Int.reduceGE, Int.reduceNeg, Int.reduceAdd, Int.reduceSub, Nat.reduceBEq, decide_true, decide_false, undef, beq_self_eq_true, bne_self_eq_false, Bool.and_true, Bool.true_and, Bool.and_false, Bool.false_and, Bool.or_true, Bool.true_or, Bool.or_false, Bool.false_or, List.length_map, e1]
  refine ACallL.quiet1 (rin_ok _ _ _) rfl rfl rfl ?_
  simp only [go_sem, Nat.reduceEqDiff, Nat.reduceAdd, Nat.reduceSub, Nat.reduceMul, Nat.reduceLT, Nat.reduceLeDiff, Nat.reduceMod, Nat.reduceDiv, Int.reduceToNat, Int.reduceLT, Int.reduceLE, Bool.not_true, Bool.not_false, reduceIte, Int.reduceEq, Int.reduceBEq, Int.reduceBNe, Int.reduceGT, Int.reduceGE, Int.reduceNeg, Int.reduceAdd, Int.reduceSub, Nat.reduceBEq, decide_true, decide_false, undef, beq_self_eq_true, bne_self_eq_false, Bool.and_true, Bool.true_and, Bool.and_false, Bool.false_and, Bool.or_true, Bool.true_or, Bool.or_false, Bool.false_or]
  exact finL_ret [] ⟨rfl, rfl, rfl, rfl, _, rfl, res_mk rfl⟩

theorem power_ok (n : Nat) (hn : n ≤ 40) : ACall Tryd.prog 49 [.t (vi n)] [] (ret (vi ((2 ^ n : Nat) : Int))) := by
  refine ACall.walk k49 ?_
  unfold c49
  have hp : ∀ k : Nat, k ≤ 40 → 2 ^ k ≤ 2 ^ 40 := fun k hk => Nat.pow_le_pow_right (by omega) hk
  simp only [go_sem, Nat.reduceEqDiff, Nat.reduceAdd, Nat.reduceSub, Nat.reduceMul, Nat.reduceLT, Nat.reduceLeDiff, Nat.reduceMod, Nat.reduceDiv, Int.reduceToNat, Int.reduceLT, Int.reduceLE, Bool.not_true, Bool.not_false, reduceIte]
  refine awpL_loopK n (fun k s => s = { env := [(4, .t (vi k)), (3, .t (vi ((2 ^ k : Nat) : Int))), (0, .t (vi n))], σ := [] }) ⟨_, Sub.gc [] [4, 3, 0] rfl rfl, rfl⟩ ?_
  rintro k s hk rfl
  simp only [go_sem, Nat.reduceEqDiff, Nat.reduceAdd, Nat.reduceSub, Nat.reduceMul, Nat.reduceLT, Nat.reduceLeDiff, Nat.reduceMod, Nat.reduceDiv, Int.reduceToNat, Int.reduceLT, Int.reduceLE, Bool.not_true, Bool.not_false, reduceIte]
  refine BrL.mk (fun h => ?_) (fun h => ?_)
  · have hlt : k < n := by simpa using h
    have h1 := hp k (by omega)
    have e1 : IntKind.i64.wrap (2 * ((2 ^ k : Nat) : Int)) = ((2 ^ (k + 1) : Nat) : Int) := by
      rw [Nat.pow_succ]
      generalize 2 ^ k = q at *
      rw [wrap_id (by omega) (by omega)]; omega
    have e2 : IntKind.i64.wrap ((k : Int) + 1) = ((k + 1 : Nat) : Int) := by rw [wrap_id (by omega) (by omega)]; omega
    simp only [h, go_sem, Nat.reduceEqDiff, Nat.reduceAdd, Nat.reduceSub, Nat.reduceMul, Nat.reduceLT, Nat.reduceLeDiff, Nat.reduceMod, Nat.reduceDiv, Int.reduceToNat, Int.reduceLT, Int.reduceLE, Bool.not_true, Bool.not_false, reduceIte, e1, e2]
    exact ⟨hlt, _, Sub.gc [] [4, 3, 0] rfl rfl, rfl⟩
  · have : k = n := by have : ¬ (k : Int) < n := by simpa using h
                       omega
    subst this
    simp only [h, go_sem, Nat.reduceEqDiff, Nat.reduceAdd, Nat.reduceSub, Nat.reduceMul, Nat.reduceLT, Nat.reduceLeDiff, Nat.reduceMod, Nat.reduceDiv, Int.reduceToNat, Int.reduceLT, Int.reduceLE, Bool.not_true, Bool.not_false, reduceIte]
    exact finL_ret [] ⟨rfl, rfl, rfl, rfl, _, rfl, res_mk rfl⟩

theorem has_ok' (a n : Nat) (ha : a < 4096) (hn : n ≤ 40) : ACall Tryd.prog 86 [.t (vi a), .t (vi n)] [] (ret (vb (a.testBit n))) := by
  refine ACall.walk k86 ?_
  unfold c86
  simp only [go_sem, Nat.reduceEqDiff, Nat.reduceAdd, Nat.reduceSub, Nat.reduceMul, Nat.reduceLT, Nat.reduceLeDiff, Nat.reduceMod, Nat.reduceDiv, Int.reduceToNat, Int.reduceLT, Int.reduceLE, Bool.not_true, Bool.not_false, reduceIte]
  refine ACallL.quiet1 (power_ok n hn) rfl rfl rfl ?_
  have hp := Nat.two_pow_pos n
  have n0 : ¬ (((2 ^ n : Nat) : Int) = 0) := by omega
  have e1 : (a : Int).tdiv ((2 ^ n : Nat) : Int) = ((a / 2 ^ n : Nat) : Int) := by rw [Int.tdiv_eq_ediv_of_nonneg (by omega)]; norm_cast
  have hd : a / 2 ^ n ≤ a := Nat.div_le_self _ _
  have e2 : IntKind.i64.wrap ((a / 2 ^ n : Nat) : Int) = ((a / 2 ^ n : Nat) : Int) := i64_nat (by omega)
  have e3 : ((a / 2 ^ n : Nat) : Int).tmod 2 = ((a / 2 ^ n % 2 : Nat) : Int) := by
    generalize a / 2 ^ n = q at *
    rw [Int.tmod_eq_emod_of_nonneg (by omega)]; norm_cast
  have e4 : ¬ ((2 : Int) = 0) := by omega
  simp only [go_sem, Nat.reduceEqDiff, Nat.reduceAdd, Nat.reduceSub, Nat.reduceMul, Nat.reduceLT, Nat.reduceLeDiff, Nat.reduceMod, Nat.reduceDiv, Int.reduceToNat, Int.reduceLT, Int.reduceLE, Bool.not_true, Bool.not_false, reduceIte, n0, e1, e2, e3, e4]
  refine finL_ret [] ⟨rfl, rfl, rfl, rfl, _, rfl, res_mk (congrArg (fun x => Out.ret (.t (vb x))) ?_)⟩
  rw [Nat.testBit_eq_decide_div_mod_eq]
  by_cases h : a / 2 ^ n % 2 = 1
  · simp [h]
  · have : a / 2 ^ n % 2 = 0 := by omega
    simp [this]

theorem dec1024 {p : Nat → Prop} [DecidablePred p] (h : ((List.range 1024).all fun n => decide (p n)) = true) (n : Nat) (hn : n < 1024) : p n := by
  have := List.all_eq_true.mp h n (List.mem_range.mpr hn)
  simpa using this
theorem size_step : ∀ m : Nat, m < 1024 → size m = size (m / 2) + m % 2 ∧ size m ≤ 10 := dec1024 (by decide +kernel)

theorem rsize_ok (n : Nat) (hn : n < 1024) : ACall Tryd.prog 39 [.t (vi n)] [] (ret (vi (size n))) := by
  refine ACall.walk k39 ?_
  unfold c39
  simp only [go_sem, Nat.reduceEqDiff, Nat.reduceAdd, Nat.reduceSub, Nat.reduceMul, Nat.reduceLT, Nat.reduceLeDiff, Nat.reduceMod, Nat.reduceDiv, Int.reduceToNat, Int.reduceLT, Int.reduceLE, Bool.not_true, Bool.not_false, reduceIte]
  refine awpL_loopK 11 (fun k s => ∃ m o : Nat, m < 1024 ∧ m * 2 ^ k ≤ n ∧ o + size m = size n ∧ o ≤ k ∧ s = { env := [(0, .t (vi m)), (3, .t (vi o))], σ := [] }) ⟨_, Sub.gc [] [0, 3] rfl rfl, n, 0, hn, by simp, by simp, by omega, rfl⟩ ?_
  rintro k s hk ⟨m, o, hm, hmn, hs, ho, rfl⟩
  simp only [go_sem, Nat.reduceEqDiff, Nat.reduceAdd, Nat.reduceSub, Nat.reduceMul, Nat.reduceLT, Nat.reduceLeDiff, Nat.reduceMod, Nat.reduceDiv, Int.reduceToNat, Int.reduceLT, Int.reduceLE, Bool.not_true, Bool.not_false, reduceIte]
  refine BrL.mk (fun h => ?_) (fun h => ?_)
  · have hpos : 0 < m := by have : (m : Int) > 0 := by simpa using h
                            omega
    have hk6 : k < 10 := by
      rcases Nat.lt_or_ge k 10 with h | h
      · exact h
      · have h2 : 2 ^ 10 ≤ 2 ^ k := Nat.pow_le_pow_right (by omega) h
        have h3 : 1 * 2 ^ 10 ≤ m * 2 ^ k := Nat.mul_le_mul hpos h2
        omega
    have hst := (size_step m hm).1
    have n2 : ¬ ((2 : Int) = 0) := by omega
    have t1 : (m : Int).tmod 2 = ((m % 2 : Nat) : Int) := by rw [Int.tmod_eq_emod_of_nonneg (by omega)]; omega
    have t2 : (m : Int).tdiv 2 = ((m / 2 : Nat) : Int) := by rw [Int.tdiv_eq_ediv_of_nonneg (by omega)]; omega
    have w1 : IntKind.i64.wrap ((o : Int) + (m % 2 : Nat)) = ((o + m % 2 : Nat) : Int) := by rw [wrap_id (by omega) (by omega)]; omega
    have w2 : IntKind.i64.wrap ((m / 2 : Nat) : Int) = ((m / 2 : Nat) : Int) := wrap_id (by omega) (by omega)
    simp only [h, go_sem, Nat.reduceEqDiff, Nat.reduceAdd, Nat.reduceSub, Nat.reduceMul, Nat.reduceLT, Nat.reduceLeDiff, Nat.reduceMod, Nat.reduceDiv, Int.reduceToNat, Int.reduceLT, Int.reduceLE, Bool.not_true, Bool.not_false, reduceIte, n2, t1, t2, w1, w2]
    refine ⟨by omega, _, Sub.gc [] [0, 3] rfl rfl, m / 2, o + m % 2, by omega, ?_, by omega, by omega, rfl⟩
    have h3 : m / 2 * 2 ^ (k + 1) = m / 2 * 2 * 2 ^ k := by rw [Nat.pow_succ, Nat.mul_comm (2 ^ k) 2, Nat.mul_assoc]
    have h4 : m / 2 * 2 * 2 ^ k ≤ m * 2 ^ k := Nat.mul_le_mul_right _ (by omega)
    omega
  · have hz : m = 0 := by have : ¬ (m : Int) > 0 := by simpa using h
                          omega
    subst hz
    simp only [h, go_sem, Nat.reduceEqDiff, Nat.reduceAdd, Nat.reduceSub, Nat.reduceMul, Nat.reduceLT, Nat.reduceLeDiff, Nat.reduceMod, Nat.reduceDiv, Int.reduceToNat, Int.reduceLT, Int.reduceLE, Bool.not_true, Bool.not_false, reduceIte]
    have : size 0 = 0 := rfl
    exact finL_ret [] ⟨rfl, rfl, rfl, rfl, _, rfl, res_mk (by rw [← hs, this]; rfl)⟩

/-! ### Kinds -/
def kindZ (f : Fl) (n : Int) (th : Bool) : Int := if th = true ∨ n ≥ f.high then 2 else if n < f.low then 0 else 1

theorem rkind_ok (f : Fl) (n : Int) (th : Bool) : ACall Tryd.prog 71 [.t (.agg (fl5 f)), .t (vi n), .t (vb th)] [] (ret (vi (kindZ f n th))) := by
  refine ACall.walk k71 ?_
  unfold c71 fl5
  cases th
  · simp only [go_sem, Nat.reduceEqDiff, Nat.reduceAdd, Nat.reduceSub, Nat.reduceMul, Nat.reduceLT, Nat.reduceLeDiff, Nat.reduceMod, Nat.reduceDiv, Int.reduceToNat, Int.reduceLT, Int.reduceLE, Bool.not_true, Bool.not_false, reduceIte, Int.reduceEq, Int.reduceBEq, Int.reduceBNe, Int.reduceGT, Int.reduceGE, Int.reduceNeg, Int.reduceAdd, Int.reduceSub, Nat.reduceBEq, decide_true, decide_false, undef, beq_self_eq_true, bne_self_eq_false, Bool.and_true, Bool.true_and, Bool.and_false, Bool.false_and, Bool.or_true, Bool.true_or, Bool.or_false, Bool.false_or]
    refine BrL.mk (fun h1 => ?_) (fun h1 => ?_)
    · simp only [go_sem, Nat.reduceEqDiff, Nat.reduceAdd, Nat.reduceSub, Nat.reduceMul, Nat.reduceLT, Nat.reduceLeDiff, Nat.reduceMod, Nat.reduceDiv, Int.reduceToNat, Int.reduceLT, Int.reduceLE, Bool.not_true, Bool.not_false, reduceIte, Int.reduceEq, Int.reduceBEq, Int.reduceBNe, Int.reduceGT, Int.reduceGE, Int.reduceNeg, Int.reduceAdd, Int.reduceSub, Nat.reduceBEq, decide_true, decide_false, undef, beq_self_eq_true, bne_self_eq_false, Bool.and_true, Bool.true_and, Bool.and_false, Bool.false_and, Bool.or_true, Bool.true_or, Bool.or_false, Bool.false_or, h1]
      exact finL_ret [] ⟨rfl, rfl, rfl, rfl, _, rfl, res_mk (by unfold kindZ; rw [if_pos (.inr (by simpa using h1))]; rfl)⟩
    · simp only [go_sem, Nat.reduceEqDiff, Nat.reduceAdd, Nat.reduceSub, Nat.reduceMul, Nat.reduceLT, Nat.reduceLeDiff, Nat.reduceMod, Nat.reduceDiv, Int.reduceToNat, Int.reduceLT, Int.reduceLE, Bool.not_true, Bool.not_false, reduceIte, Int.reduceEq, Int.reduceBEq, Int.reduceBNe, Int.reduceGT, Int.reduceGE, Int.reduceNeg, Int.reduceAdd, Int.reduceSub, Nat.reduceBEq, decide_true, decide_false, undef, beq_self_eq_true, bne_self_eq_false, Bool.and_true, Bool.true_and, Bool.and_false, Bool.false_and, Bool.or_true, Bool.true_or, Bool.or_false, Bool.false_or, h1]
      refine BrL.mk (fun h2 => ?_) (fun h2 => ?_)
      · simp only [go_sem, Nat.reduceEqDiff, Nat.reduceAdd, Nat.reduceSub, Nat.reduceMul, Nat.reduceLT, Nat.reduceLeDiff, Nat.reduceMod, Nat.reduceDiv, Int.reduceToNat, Int.reduceLT, Int.reduceLE, Bool.not_true, Bool.not_false, reduceIte, Int.reduceEq, Int.reduceBEq, Int.reduceBNe, Int.reduceGT, Int.reduceGE, Int.reduceNeg, Int.reduceAdd, Int.reduceSub, Nat.reduceBEq, decide_true, decide_false, undef, beq_self_eq_true, bne_self_eq_false, Bool.and_true, Bool.true_and, Bool.and_false, Bool.false_and, Bool.or_true, Bool.true_or, Bool.or_false, Bool.false_or, h2]
        exact finL_ret [] ⟨rfl, rfl, rfl, rfl, _, rfl, res_mk (by unfold kindZ; rw [if_neg (by simpa using h1), if_pos (by simpa using h2)]; rfl)⟩
      · simp only [go_sem, Nat.reduceEqDiff, Nat.reduceAdd, Nat.reduceSub, Nat.reduceMul, Nat.reduceLT, Nat.reduceLeDiff, Nat.reduceMod, Nat.reduceDiv, Int.reduceToNat, Int.reduceLT, Int.reduceLE, Bool.not_true, Bool.not_false, reduceIte, Int.reduceEq, Int.reduceBEq, Int.reduceBNe, Int.reduceGT, Int.reduceGE, Int.reduceNeg, Int.reduceAdd, Int.reduceSub, Nat.reduceBEq, decide_true, decide_false, undef, beq_self_eq_true, bne_self_eq_false, Bool.and_true, Bool.true_and, Bool.and_false, Bool.false_and, Bool.or_true, Bool.true_or, Bool.or_false, Bool.false_or, h2]
        exact finL_ret [] ⟨rfl, rfl, rfl, rfl, _, rfl, res_mk (by unfold kindZ; rw [if_neg (by simpa using h1), if_neg (by simpa using h2)]; rfl)⟩
  · simp only [go_sem, Nat.reduceEqDiff, Nat.reduceAdd, Nat.reduceSub, Nat.reduceMul, Nat.reduceLT, Nat.reduceLeDiff, Nat.reduceMod, Nat.reduceDiv, Int.reduceToNat, Int.reduceLT, Int.reduceLE, Bool.not_true, Bool.not_false, reduceIte, Int.reduceEq, Int.reduceBEq, Int.reduceBNe, Int.reduceGT, Int.reduceGE, Int.reduceNeg, Int.reduceAdd, Int.reduceSub, Nat.reduceBEq, decide_true, decide_false, undef, beq_self_eq_true, bne_self_eq_false, Bool.and_true, Bool.true_and, Bool.and_false, Bool.false_and, Bool.or_true, Bool.true_or, Bool.or_false, Bool.false_or]
    exact finL_ret [] ⟨rfl, rfl, rfl, rfl, _, rfl, res_mk (by unfold kindZ; rw [if_pos (.inl rfl)]; rfl)⟩

theorem kBit_bit (f : Fl) (n : Int) (k : Nat) (hk : k < 3) : (kBit f n).testBit k = true ↔ kindZ f n false = k := by
  have : k = 0 ∨ k = 1 ∨ k = 2 := by omega
  unfold kBit kindZ
  simp only [Bool.false_eq_true, false_or]
  by_cases h1 : n ≥ f.high
  · rw [if_pos h1, if_pos h1]
    rcases this with rfl | rfl | rfl <;> decide
  · rw [if_neg h1, if_neg h1]
    by_cases h2 : n < f.low
    · rw [if_pos h2, if_pos h2]
      rcases this with rfl | rfl | rfl <;> decide
    · rw [if_neg h2, if_neg h2]
      rcases this with rfl | rfl | rfl <;> decide
theorem kAcc_bit (f : Fl) (lo : Int) (k : Nat) (hk : k < 3) : ∀ j : Nat, (kAcc f lo j).testBit k = true ↔ ∃ i < j, kindZ f (lo + (i : Nat)) false = k
  | 0 => by simp [kAcc]
  | j + 1 => by
    simp only [kAcc, Nat.testBit_or, Bool.or_eq_true, kAcc_bit f lo k hk j, kBit_bit f _ k hk]
    constructor
    · rintro (⟨i, hi, h⟩ | h)
      · exact ⟨i, by omega, h⟩
      · exact ⟨j, by omega, h⟩
    · rintro ⟨i, hi, h⟩
      by_cases e : i = j
      · subst e; exact .inr h
      · exact .inl ⟨i, by omega, h⟩
/-- Can an hour be of a kind, of a wind? -/
def canW (f : Fl) (h : Hr) (k : Nat) (i : Nat) : Prop := (h.th ≠ 0 ∧ k = 2) ∨ (h.th ≠ 2 ∧ kindZ f (h.lo + (i : Nat)) false = k)
theorem kindsN_bit (f : Fl) (h : Hr) (hh : h.lo ≤ h.hi) (k : Nat) (hk : k < 3) : (kindsN f h).testBit k = true ↔ ∃ i < (h.hi - h.lo + 1).toNat, canW f h k i := by
  unfold kindsN canW
  rw [Nat.testBit_or, Bool.or_eq_true]
  have h4 : ((if h.th = 0 then 0 else 4 : Nat).testBit k = true) ↔ (h.th ≠ 0 ∧ k = 2) := by
    have : k = 0 ∨ k = 1 ∨ k = 2 := by omega
    split
    · rename_i e; simp [e]
    · rename_i e; rcases this with rfl | rfl | rfl <;> simp [e] <;> decide
  have hacc := kAcc_bit f h.lo k hk (h.hi - h.lo + 1).toNat
  rw [h4]
  by_cases e2 : h.th = 2
  · rw [if_pos e2]
    constructor
    · rintro (h | h)
      · simp at h
      · exact ⟨0, by omega, .inl h⟩
    · rintro ⟨i, hi, h | h⟩
      · exact .inr h
      · exact absurd e2 h.1
  · rw [if_neg e2, hacc]
    constructor
    · rintro (⟨i, hi, h⟩ | h)
      · exact ⟨i, hi, .inr ⟨e2, h⟩⟩
      · exact ⟨0, by omega, .inl h⟩
    · rintro ⟨i, hi, h | h⟩
      · exact .inr h
      · exact .inl ⟨i, hi, h.2⟩

set_option maxRecDepth 4000 in
theorem rcan_ok (f : Fl) (hf : f.OK) (n k : Nat) (hn : n < f.hs.length) (hk : k < 3) : ACall Tryd.prog 48 [.t (.agg (fl5 f)), .t (vi n), .t (vi k)] [] (ret (vb ((Kf f n).testBit k))) := by
  refine ACall.walk k48 ?_
  unfold c48 fl5
  have hg : f.hs[n]? = some f.hs[n] := List.getElem?_eq_getElem hn
  have hm := hf.hs _ (List.getElem_mem hn)
  have hK : Kf f n = kindsN f f.hs[n] := by unfold Kf; rw [hg]
  rw [hK]
  generalize f.hs[n] = h at *
  have hb := kindsN_bit f h hm.2.1 k hk
  have hn' : (n : Int) < f.hs.length := by omega
  simp only [go_sem, Nat.reduceEqDiff, Nat.reduceAdd, Nat.reduceSub, Nat.reduceMul, Nat.reduceLT, Nat.reduceLeDiff, Nat.reduceMod, Nat.reduceDiv, Int.reduceToNat, Int.reduceLT, Int.reduceLE, Bool.not_true, Bool.not_false, reduceIte, Int.reduceEq, Int.reduceBEq, Int.reduceBNe, Int.reduceGT, Int.reduceGE, Int.reduceNeg, Int.reduceAdd, Int.reduceSub, Nat.reduceBEq, decide_true, decide_false, undef, beq_self_eq_true, bne_self_eq_false, Bool.and_true, Bool.true_and, Bool.and_false, Bool.false_and, Bool.or_true, Bool.true_or, Bool.or_false, Bool.false_or, List.length_map, List.getElem?_map, hg, tHr, hn']
  refine awpL_loopK (h.hi - h.lo + 1).toNat (fun j s => (∀ i < j, ¬ canW f h k i) ∧ s = { env := [(8, .t (vi (h.lo + j))), (2, .t (vi k)), (3, .ptr 0 0), (7, .ptr 1 0)], σ := [.cells ((fl5 f).map .t), .cells [.t (vi h.lo), .t (vi h.hi), .t (vi h.th)]] }) ⟨_, Sub.gc [0, 1] [8, 2, 3, 7] rfl rfl, by simp, by rw [show h.lo + ((0 : Nat) : Int) = h.lo by simp]; rfl⟩ ?_
  rintro j s hj ⟨hno, rfl⟩
  have hkt := rkind_ok f (h.lo + j) true
  have hkf := rkind_ok f (h.lo + j) false
  rw [show kindZ f (h.lo + j) true = 2 by unfold kindZ; rw [if_pos (.inl rfl)]] at hkt
  simp only [fl5] at hkt hkf
  have hfound : canW f h k j → j < (h.hi - h.lo + 1).toNat → (kindsN f h).testBit k = true := fun hc hj => hb.2 ⟨j, hj, hc⟩
  have hnone : j = (h.hi - h.lo + 1).toNat → (kindsN f h).testBit k = false := fun e => by
    rw [← Bool.not_eq_true, hb]
    rintro ⟨i, hi, hc⟩
    exact hno i (by omega) hc
  have hnext : ¬ canW f h k j → ∀ i < j + 1, ¬ canW f h k i := fun hc i hi => by
    by_cases e : i = j
    · subst e; exact hc
    · exact hno i (by omega)
  simp only [fl5, go_sem, Nat.reduceEqDiff, Nat.reduceAdd, Nat.reduceSub, Nat.reduceMul, Nat.reduceLT, Nat.reduceLeDiff, Nat.reduceMod, Nat.reduceDiv, Int.reduceToNat, Int.reduceLT, Int.reduceLE, Bool.not_true, Bool.not_false, reduceIte, Int.reduceEq, Int.reduceBEq, Int.reduceBNe, Int.reduceGT, Int.reduceGE, Int.reduceNeg, Int.reduceAdd, Int.reduceSub, Nat.reduceBEq, decide_true, decide_false, undef, beq_self_eq_true, bne_self_eq_false, Bool.and_true, Bool.true_and, Bool.and_false, Bool.false_and, Bool.or_true, Bool.true_or, Bool.or_false, Bool.false_or]
  refine BrL.mk (fun h1 => ?_) (fun h1 => ?_)
  · have h1' : j < (h.hi - h.lo + 1).toNat := by simp at h1; omega
    have hw : IntKind.i64.wrap (h.lo + (j : Int) + 1) = h.lo + ((j + 1 : Nat) : Int) := by rw [wrap_id (by omega) (by omega)]; omega
    have second : ¬ (h.th ≠ 0 ∧ k = 2) → (canW f h k j ↔ h.th ≠ 2 ∧ kindZ f (h.lo + (j : Nat)) false = k) := fun hc => by unfold canW; exact ⟨fun h => h.resolve_left hc, .inr⟩
    simp only [go_sem, Nat.reduceEqDiff, Nat.reduceAdd, Nat.reduceSub, Nat.reduceMul, Nat.reduceLT, Nat.reduceLeDiff, Nat.reduceMod, Nat.reduceDiv, Int.reduceToNat, Int.reduceLT, Int.reduceLE, Bool.not_true, Bool.not_false, reduceIte, Int.reduceEq, Int.reduceBEq, Int.reduceBNe, Int.reduceGT, Int.reduceGE, Int.reduceNeg, Int.reduceAdd, Int.reduceSub, Nat.reduceBEq, decide_true, decide_false, undef, beq_self_eq_true, bne_self_eq_false, Bool.and_true, Bool.true_and, Bool.and_false, Bool.false_and, Bool.or_true, Bool.true_or, Bool.or_false, Bool.false_or, h1]
    refine BrL.mk (fun h2 => ?_) (fun h2 => ?_)
    · have h2' : h.th ≠ 0 := by simpa using h2
      simp only [go_sem, Nat.reduceEqDiff, Nat.reduceAdd, Nat.reduceSub, Nat.reduceMul, Nat.reduceLT, Nat.reduceLeDiff, Nat.reduceMod, Nat.reduceDiv, Int.reduceToNat, Int.reduceLT, Int.reduceLE, Bool.not_true, Bool.not_false, reduceIte, Int.reduceEq, Int.reduceBEq, Int.reduceBNe, Int.reduceGT, Int.reduceGE, Int.reduceNeg, Int.reduceAdd, Int.reduceSub, Nat.reduceBEq, decide_true, decide_false, undef, beq_self_eq_true, bne_self_eq_false, Bool.and_true, Bool.true_and, Bool.and_false, Bool.false_and, Bool.or_true, Bool.true_or, Bool.or_false, Bool.false_or, h2]
      refine ACallL.quiet1 hkt rfl rfl rfl ?_
      simp only [go_sem, Nat.reduceEqDiff, Nat.reduceAdd, Nat.reduceSub, Nat.reduceMul, Nat.reduceLT, Nat.reduceLeDiff, Nat.reduceMod, Nat.reduceDiv, Int.reduceToNat, Int.reduceLT, Int.reduceLE, Bool.not_true, Bool.not_false, reduceIte, Int.reduceEq, Int.reduceBEq, Int.reduceBNe, Int.reduceGT, Int.reduceGE, Int.reduceNeg, Int.reduceAdd, Int.reduceSub, Nat.reduceBEq, decide_true, decide_false, undef, beq_self_eq_true, bne_self_eq_false, Bool.and_true, Bool.true_and, Bool.and_false, Bool.false_and, Bool.or_true, Bool.true_or, Bool.or_false, Bool.false_or]
      cases h3 : ((2 : Int) == (k : Int))
      · have h3' : ¬ k = 2 := by rw [beq_eq_false_iff_ne] at h3; omega
        have hs := second fun h => h3' h.2
        simp only [go_sem, Nat.reduceEqDiff, Nat.reduceAdd, Nat.reduceSub, Nat.reduceMul, Nat.reduceLT, Nat.reduceLeDiff, Nat.reduceMod, Nat.reduceDiv, Int.reduceToNat, Int.reduceLT, Int.reduceLE, Bool.not_true, Bool.not_false, reduceIte, Int.reduceEq, Int.reduceBEq, Int.reduceBNe, Int.reduceGT, Int.reduceGE, Int.reduceNeg, Int.reduceAdd, Int.reduceSub, Nat.reduceBEq, decide_true, decide_false, undef, beq_self_eq_true, bne_self_eq_false, Bool.and_true, Bool.true_and, Bool.and_false, Bool.false_and, Bool.or_true, Bool.true_or, Bool.or_false, Bool.false_or, h3]
        refine BrL.mk (fun h4 => ?_) (fun h4 => ?_)
        · have h4' : h.th ≠ 2 := by simpa using h4
          simp only [go_sem, Nat.reduceEqDiff, Nat.reduceAdd, Nat.reduceSub, Nat.reduceMul, Nat.reduceLT, Nat.reduceLeDiff, Nat.reduceMod, Nat.reduceDiv, Int.reduceToNat, Int.reduceLT, Int.reduceLE, Bool.not_true, Bool.not_false, reduceIte, Int.reduceEq, Int.reduceBEq, Int.reduceBNe, Int.reduceGT, Int.reduceGE, Int.reduceNeg, Int.reduceAdd, Int.reduceSub, Nat.reduceBEq, decide_true, decide_false, undef, beq_self_eq_true, bne_self_eq_false, Bool.and_true, Bool.true_and, Bool.and_false, Bool.false_and, Bool.or_true, Bool.true_or, Bool.or_false, Bool.false_or, h4]
          refine ACallL.quiet1 hkf rfl rfl rfl ?_
          simp only [go_sem, Nat.reduceEqDiff, Nat.reduceAdd, Nat.reduceSub, Nat.reduceMul, Nat.reduceLT, Nat.reduceLeDiff, Nat.reduceMod, Nat.reduceDiv, Int.reduceToNat, Int.reduceLT, Int.reduceLE, Bool.not_true, Bool.not_false, reduceIte, Int.reduceEq, Int.reduceBEq, Int.reduceBNe, Int.reduceGT, Int.reduceGE, Int.reduceNeg, Int.reduceAdd, Int.reduceSub, Nat.reduceBEq, decide_true, decide_false, undef, beq_self_eq_true, bne_self_eq_false, Bool.and_true, Bool.true_and, Bool.and_false, Bool.false_and, Bool.or_true, Bool.true_or, Bool.or_false, Bool.false_or]
          cases h5 : (kindZ f (h.lo + (j : Nat)) false == (k : Int))
          · simp only [go_sem, Nat.reduceEqDiff, Nat.reduceAdd, Nat.reduceSub, Nat.reduceMul, Nat.reduceLT, Nat.reduceLeDiff, Nat.reduceMod, Nat.reduceDiv, Int.reduceToNat, Int.reduceLT, Int.reduceLE, Bool.not_true, Bool.not_false, reduceIte, Int.reduceEq, Int.reduceBEq, Int.reduceBNe, Int.reduceGT, Int.reduceGE, Int.reduceNeg, Int.reduceAdd, Int.reduceSub, Nat.reduceBEq, decide_true, decide_false, undef, beq_self_eq_true, bne_self_eq_false, Bool.and_true, Bool.true_and, Bool.and_false, Bool.false_and, Bool.or_true, Bool.true_or, Bool.or_false, Bool.false_or, h5, hw]
            exact ⟨h1', _, Sub.gc [0, 1] [8, 2, 3, 7] rfl rfl, hnext (fun hc => by have := (hs.1 hc).2; simp [this] at h5), rfl⟩
          · simp only [go_sem, Nat.reduceEqDiff, Nat.reduceAdd, Nat.reduceSub, Nat.reduceMul, Nat.reduceLT, Nat.reduceLeDiff, Nat.reduceMod, Nat.reduceDiv, Int.reduceToNat, Int.reduceLT, Int.reduceLE, Bool.not_true, Bool.not_false, reduceIte, Int.reduceEq, Int.reduceBEq, Int.reduceBNe, Int.reduceGT, Int.reduceGE, Int.reduceNeg, Int.reduceAdd, Int.reduceSub, Nat.reduceBEq, decide_true, decide_false, undef, beq_self_eq_true, bne_self_eq_false, Bool.and_true, Bool.true_and, Bool.and_false, Bool.false_and, Bool.or_true, Bool.true_or, Bool.or_false, Bool.false_or, h5]
            exact finL_ret [] ⟨rfl, rfl, rfl, rfl, _, rfl, res_mk (by rw [hfound (hs.2 ⟨h4', by simpa using h5⟩) h1']; rfl)⟩
        · have h4' : h.th = 2 := by simpa using h4
          simp only [go_sem, Nat.reduceEqDiff, Nat.reduceAdd, Nat.reduceSub, Nat.reduceMul, Nat.reduceLT, Nat.reduceLeDiff, Nat.reduceMod, Nat.reduceDiv, Int.reduceToNat, Int.reduceLT, Int.reduceLE, Bool.not_true, Bool.not_false, reduceIte, Int.reduceEq, Int.reduceBEq, Int.reduceBNe, Int.reduceGT, Int.reduceGE, Int.reduceNeg, Int.reduceAdd, Int.reduceSub, Nat.reduceBEq, decide_true, decide_false, undef, beq_self_eq_true, bne_self_eq_false, Bool.and_true, Bool.true_and, Bool.and_false, Bool.false_and, Bool.or_true, Bool.true_or, Bool.or_false, Bool.false_or, h4, hw]
          exact ⟨h1', _, Sub.gc [0, 1] [8, 2, 3, 7] rfl rfl, hnext (fun hc => (hs.1 hc).1 h4'), rfl⟩
      · have h3' : k = 2 := by rw [beq_iff_eq] at h3; omega
        simp only [go_sem, Nat.reduceEqDiff, Nat.reduceAdd, Nat.reduceSub, Nat.reduceMul, Nat.reduceLT, Nat.reduceLeDiff, Nat.reduceMod, Nat.reduceDiv, Int.reduceToNat, Int.reduceLT, Int.reduceLE, Bool.not_true, Bool.not_false, reduceIte, Int.reduceEq, Int.reduceBEq, Int.reduceBNe, Int.reduceGT, Int.reduceGE, Int.reduceNeg, Int.reduceAdd, Int.reduceSub, Nat.reduceBEq, decide_true, decide_false, undef, beq_self_eq_true, bne_self_eq_false, Bool.and_true, Bool.true_and, Bool.and_false, Bool.false_and, Bool.or_true, Bool.true_or, Bool.or_false, Bool.false_or, h3]
        exact finL_ret [] ⟨rfl, rfl, rfl, rfl, _, rfl, res_mk (by rw [hfound (.inl ⟨h2', h3'⟩) h1']; rfl)⟩
    · have h2' : h.th = 0 := by simpa using h2
      have hs := second fun h => h.1 h2'
      have h4 : (h.th != 2) = true := by rw [h2']; rfl
      simp only [go_sem, Nat.reduceEqDiff, Nat.reduceAdd, Nat.reduceSub, Nat.reduceMul, Nat.reduceLT, Nat.reduceLeDiff, Nat.reduceMod, Nat.reduceDiv, Int.reduceToNat, Int.reduceLT, Int.reduceLE, Bool.not_true, Bool.not_false, reduceIte, Int.reduceEq, Int.reduceBEq, Int.reduceBNe, Int.reduceGT, Int.reduceGE, Int.reduceNeg, Int.reduceAdd, Int.reduceSub, Nat.reduceBEq, decide_true, decide_false, undef, beq_self_eq_true, bne_self_eq_false, Bool.and_true, Bool.true_and, Bool.and_false, Bool.false_and, Bool.or_true, Bool.true_or, Bool.or_false, Bool.false_or, h2, h4]
      refine ACallL.quiet1 hkf rfl rfl rfl ?_
      simp only [go_sem, Nat.reduceEqDiff, Nat.reduceAdd, Nat.reduceSub, Nat.reduceMul, Nat.reduceLT, Nat.reduceLeDiff, Nat.reduceMod, Nat.reduceDiv, Int.reduceToNat, Int.reduceLT, Int.reduceLE, Bool.not_true, Bool.not_false, reduceIte, Int.reduceEq, Int.reduceBEq, Int.reduceBNe, Int.reduceGT, Int.reduceGE, Int.reduceNeg, Int.reduceAdd, Int.reduceSub, Nat.reduceBEq, decide_true, decide_false, undef, beq_self_eq_true, bne_self_eq_false, Bool.and_true, Bool.true_and, Bool.and_false, Bool.false_and, Bool.or_true, Bool.true_or, Bool.or_false, Bool.false_or]
      cases h5 : (kindZ f (h.lo + (j : Nat)) false == (k : Int))
      · simp only [go_sem, Nat.reduceEqDiff, Nat.reduceAdd, Nat.reduceSub, Nat.reduceMul, Nat.reduceLT, Nat.reduceLeDiff, Nat.reduceMod, Nat.reduceDiv, Int.reduceToNat, Int.reduceLT, Int.reduceLE, Bool.not_true, Bool.not_false, reduceIte, Int.reduceEq, Int.reduceBEq, Int.reduceBNe, Int.reduceGT, Int.reduceGE, Int.reduceNeg, Int.reduceAdd, Int.reduceSub, Nat.reduceBEq, decide_true, decide_false, undef, beq_self_eq_true, bne_self_eq_false, Bool.and_true, Bool.true_and, Bool.and_false, Bool.false_and, Bool.or_true, Bool.true_or, Bool.or_false, Bool.false_or, h5, hw]
        exact ⟨h1', _, Sub.gc [0, 1] [8, 2, 3, 7] rfl rfl, hnext (fun hc => by have := (hs.1 hc).2; simp [this] at h5), rfl⟩
      · simp only [go_sem, Nat.reduceEqDiff, Nat.reduceAdd, Nat.reduceSub, Nat.reduceMul, Nat.reduceLT, Nat.reduceLeDiff, Nat.reduceMod, Nat.reduceDiv, Int.reduceToNat, Int.reduceLT, Int.reduceLE, Bool.not_true, Bool.not_false, reduceIte, Int.reduceEq, Int.reduceBEq, Int.reduceBNe, Int.reduceGT, Int.reduceGE, Int.reduceNeg, Int.reduceAdd, Int.reduceSub, Nat.reduceBEq, decide_true, decide_false, undef, beq_self_eq_true, bne_self_eq_false, Bool.and_true, Bool.true_and, Bool.and_false, Bool.false_and, Bool.or_true, Bool.true_or, Bool.or_false, Bool.false_or, h5]
        exact finL_ret [] ⟨rfl, rfl, rfl, rfl, _, rfl, res_mk (by rw [hfound (hs.2 ⟨by omega, by simpa using h5⟩) h1']; rfl)⟩
  · have h1' : j = (h.hi - h.lo + 1).toNat := by simp at h1; omega
    simp only [go_sem, Nat.reduceEqDiff, Nat.reduceAdd, Nat.reduceSub, Nat.reduceMul, Nat.reduceLT, Nat.reduceLeDiff, Nat.reduceMod, Nat.reduceDiv, Int.reduceToNat, Int.reduceLT, Int.reduceLE, Bool.not_true, Bool.not_false, reduceIte, Int.reduceEq, Int.reduceBEq, Int.reduceBNe, Int.reduceGT, Int.reduceGE, Int.reduceNeg, Int.reduceAdd, Int.reduceSub, Nat.reduceBEq, decide_true, decide_false, undef, beq_self_eq_true, bne_self_eq_false, Bool.and_true, Bool.true_and, Bool.and_false, Bool.false_and, Bool.or_true, Bool.true_or, Bool.or_false, Bool.false_or, h1]
    exact finL_ret [] ⟨rfl, rfl, rfl, rfl, _, rfl, res_mk (by rw [hnone h1']; rfl)⟩
end Go.Proofs.YtkbjodmpmmnhgaaDoor

/- The document: is a flag valid; when it is raised; is what was seen right. -/
namespace Go.Proofs.YtkbjodmpmmnhgaaDoor
open Go Go.Ab

set_option maxRecDepth 4000 in
theorem rflag_ok (f : Fl) (hl : f.hs.length < 9223372036854775808 ∧ f.ss.length < 9223372036854775808) : ACall Tryd.prog 36 [.t (.agg (fl5 f))] [] (ret (vb f.ok)) := by
  refine ACall.walk k36 ?_
  unfold c36 fl5
  have bad : ¬ f.OK → f.ok = false := fun h => by rw [← Bool.not_eq_true, f.ok_iff]; exact h
  cases h1 : decide (f.low < 1)
  rotate_left
  · simp only [go_sem, Nat.reduceEqDiff, Nat.reduceAdd, Nat.reduceSub, Nat.reduceMul, Nat.reduceLT, Nat.reduceLeDiff, Nat.reduceMod, Nat.reduceDiv, Int.reduceToNat, Int.reduceLT, Int.reduceLE, Bool.not_true, Bool.not_false, reduceIte, Int.reduceEq, Int.reduceBEq, Int.reduceBNe, Int.reduceGT, Int.reduceGE, Int.reduceNeg, Int.reduceAdd, Int.reduceSub, Nat.reduceBEq, decide_true, decide_false, undef, beq_self_eq_true, bne_self_eq_false, Bool.and_true, Bool.true_and, Bool.and_false, Bool.false_and, Bool.or_true, Bool.true_or, Bool.or_false, Bool.false_or, h1]
    exact finL_ret [] ⟨rfl, rfl, rfl, rfl, _, rfl, res_mk (by rw [bad fun k => by have := k.low; simp at h1; omega]; rfl)⟩
  cases h2 : decide (f.low > f.high)
  rotate_left
  · simp only [go_sem, Nat.reduceEqDiff, Nat.reduceAdd, Nat.reduceSub, Nat.reduceMul, Nat.reduceLT, Nat.reduceLeDiff, Nat.reduceMod, Nat.reduceDiv, Int.reduceToNat, Int.reduceLT, Int.reduceLE, Bool.not_true, Bool.not_false, reduceIte, Int.reduceEq, Int.reduceBEq, Int.reduceBNe, Int.reduceGT, Int.reduceGE, Int.reduceNeg, Int.reduceAdd, Int.reduceSub, Nat.reduceBEq, decide_true, decide_false, undef, beq_self_eq_true, bne_self_eq_false, Bool.and_true, Bool.true_and, Bool.and_false, Bool.false_and, Bool.or_true, Bool.true_or, Bool.or_false, Bool.false_or, h1, h2]
    exact finL_ret [] ⟨rfl, rfl, rfl, rfl, _, rfl, res_mk (by rw [bad fun k => by have := k.lh; simp at h2; omega]; rfl)⟩
  cases h3 : decide (f.high > 12)
  rotate_left
  · simp only [go_sem, Nat.reduceEqDiff, Nat.reduceAdd, Nat.reduceSub, Nat.reduceMul, Nat.reduceLT, Nat.reduceLeDiff, Nat.reduceMod, Nat.reduceDiv, Int.reduceToNat, Int.reduceLT, Int.reduceLE, Bool.not_true, Bool.not_false, reduceIte, Int.reduceEq, Int.reduceBEq, Int.reduceBNe, Int.reduceGT, Int.reduceGE, Int.reduceNeg, Int.reduceAdd, Int.reduceSub, Nat.reduceBEq, decide_true, decide_false, undef, beq_self_eq_true, bne_self_eq_false, Bool.and_true, Bool.true_and, Bool.and_false, Bool.false_and, Bool.or_true, Bool.true_or, Bool.or_false, Bool.false_or, h1, h2, h3]
    exact finL_ret [] ⟨rfl, rfl, rfl, rfl, _, rfl, res_mk (by rw [bad fun k => by have := k.high; simp at h3; omega]; rfl)⟩
  have h59 := rin_ok f.quiet 1 4
  cases h4 : wI f.quiet 1 4
  · rw [h4] at h59
    simp only [go_sem, Nat.reduceEqDiff, Nat.reduceAdd, Nat.reduceSub, Nat.reduceMul, Nat.reduceLT, Nat.reduceLeDiff, Nat.reduceMod, Nat.reduceDiv, Int.reduceToNat, Int.reduceLT, Int.reduceLE, Bool.not_true, Bool.not_false, reduceIte, Int.reduceEq, Int.reduceBEq, Int.reduceBNe, Int.reduceGT, Int.reduceGE, Int.reduceNeg, Int.reduceAdd, Int.reduceSub, Nat.reduceBEq, decide_true, decide_false, undef, beq_self_eq_true, bne_self_eq_false, Bool.and_true, Bool.true_and, Bool.and_false, Bool.false_and, Bool.or_true, Bool.true_or, Bool.or_false, Bool.false_or, h1, h2, h3]
    refine ACallL.quiet1 h59 rfl rfl rfl ?_
    simp only [go_sem, Nat.reduceEqDiff, Nat.reduceAdd, Nat.reduceSub, Nat.reduceMul, Nat.reduceLT, Nat.reduceLeDiff, Nat.reduceMod, Nat.reduceDiv, Int.reduceToNat, Int.reduceLT, Int.reduceLE, Bool.not_true, Bool.not_false, reduceIte, Int.reduceEq, Int.reduceBEq, Int.reduceBNe, Int.reduceGT, Int.reduceGE, Int.reduceNeg, Int.reduceAdd, Int.reduceSub, Nat.reduceBEq, decide_true, decide_false, undef, beq_self_eq_true, bne_self_eq_false, Bool.and_true, Bool.true_and, Bool.and_false, Bool.false_and, Bool.or_true, Bool.true_or, Bool.or_false, Bool.false_or]
    exact finL_ret [] ⟨rfl, rfl, rfl, rfl, _, rfl, res_mk (by rw [bad fun k => by have := k.quiet; simp [wI] at h4; omega]; rfl)⟩
  rw [h4] at h59
  cases h5 : decide ((f.hs.length : Int) > 9)
  rotate_left
  · simp only [go_sem, Nat.reduceEqDiff, Nat.reduceAdd, Nat.reduceSub, Nat.reduceMul, Nat.reduceLT, Nat.reduceLeDiff, Nat.reduceMod, Nat.reduceDiv, Int.reduceToNat, Int.reduceLT, Int.reduceLE, Bool.not_true, Bool.not_false, reduceIte, Int.reduceEq, Int.reduceBEq, Int.reduceBNe, Int.reduceGT, Int.reduceGE, Int.reduceNeg, Int.reduceAdd, Int.reduceSub, Nat.reduceBEq, decide_true, decide_false, undef, beq_self_eq_true, bne_self_eq_false, Bool.and_true, Bool.true_and, Bool.and_false, Bool.false_and, Bool.or_true, Bool.true_or, Bool.or_false, Bool.false_or, h1, h2, h3]
    refine ACallL.quiet1 h59 rfl rfl rfl ?_
    simp only [go_sem, Nat.reduceEqDiff, Nat.reduceAdd, Nat.reduceSub, Nat.reduceMul, Nat.reduceLT, Nat.reduceLeDiff, Nat.reduceMod, Nat.reduceDiv, Int.reduceToNat, Int.reduceLT, Int.reduceLE, Bool.not_true, Bool.not_false, reduceIte, Int.reduceEq, Int.reduceBEq, Int.reduceBNe, Int.reduceGT, Int.reduceGE, Int.reduceNeg, Int.reduceAdd, Int.reduceSub, Nat.reduceBEq, decide_true, decide_false, undef, beq_self_eq_true, bne_self_eq_false, Bool.and_true, Bool.true_and, Bool.and_false, Bool.false_and, Bool.or_true, Bool.true_or, Bool.or_false, Bool.false_or, List.length_map, h5]
    exact finL_ret [] ⟨rfl, rfl, rfl, rfl, _, rfl, res_mk (by rw [bad fun k => by have := k.nh; simp at h5; omega]; rfl)⟩
  cases h6 : decide ((f.ss.length : Int) > 8)
  rotate_left
  · simp only [go_sem, Nat.reduceEqDiff, Nat.reduceAdd, Nat.reduceSub, Nat.reduceMul, Nat.reduceLT, Nat.reduceLeDiff, Nat.reduceMod, Nat.reduceDiv, Int.reduceToNat, Int.reduceLT, Int.reduceLE, Bool.not_true, Bool.not_false, reduceIte, Int.reduceEq, Int.reduceBEq, Int.reduceBNe, Int.reduceGT, Int.reduceGE, Int.reduceNeg, Int.reduceAdd, Int.reduceSub, Nat.reduceBEq, decide_true, decide_false, undef, beq_self_eq_true, bne_self_eq_false, Bool.and_true, Bool.true_and, Bool.and_false, Bool.false_and, Bool.or_true, Bool.true_or, Bool.or_false, Bool.false_or, h1, h2, h3]
    refine ACallL.quiet1 h59 rfl rfl rfl ?_
    simp only [go_sem, Nat.reduceEqDiff, Nat.reduceAdd, Nat.reduceSub, Nat.reduceMul, Nat.reduceLT, Nat.reduceLeDiff, Nat.reduceMod, Nat.reduceDiv, Int.reduceToNat, Int.reduceLT, Int.reduceLE, Bool.not_true, Bool.not_false, reduceIte, Int.reduceEq, Int.reduceBEq, Int.reduceBNe, Int.reduceGT, Int.reduceGE, Int.reduceNeg, Int.reduceAdd, Int.reduceSub, Nat.reduceBEq, decide_true, decide_false, undef, beq_self_eq_true, bne_self_eq_false, Bool.and_true, Bool.true_and, Bool.and_false, Bool.false_and, Bool.or_true, Bool.true_or, Bool.or_false, Bool.false_or, List.length_map, h5, h6]
    exact finL_ret [] ⟨rfl, rfl, rfl, rfl, _, rfl, res_mk (by rw [bad fun k => by have := k.ns; simp at h6; omega]; rfl)⟩
  simp only [go_sem, Nat.reduceEqDiff, Nat.reduceAdd, Nat.reduceSub, Nat.reduceMul, Nat.reduceLT, Nat.reduceLeDiff, Nat.reduceMod, Nat.reduceDiv, Int.reduceToNat, Int.reduceLT, Int.reduceLE, Bool.not_true, Bool.not_false, reduceIte, Int.reduceEq, Int.reduceBEq, Int.reduceBNe, Int.reduceGT, Int.reduceGE, Int.reduceNeg, Int.reduceAdd, Int.reduceSub, Nat.reduceBEq, decide_true, decide_false, undef, beq_self_eq_true, bne_self_eq_false, Bool.and_true, Bool.true_and, Bool.and_false, Bool.false_and, Bool.or_true, Bool.true_or, Bool.or_false, Bool.false_or, h1, h2, h3]
  refine ACallL.quiet1 h59 rfl rfl rfl ?_
  simp only [go_sem, Nat.reduceEqDiff, Nat.reduceAdd, Nat.reduceSub, Nat.reduceMul, Nat.reduceLT, Nat.reduceLeDiff, Nat.reduceMod, Nat.reduceDiv, Int.reduceToNat, Int.reduceLT, Int.reduceLE, Bool.not_true, Bool.not_false, reduceIte, Int.reduceEq, Int.reduceBEq, Int.reduceBNe, Int.reduceGT, Int.reduceGE, Int.reduceNeg, Int.reduceAdd, Int.reduceSub, Nat.reduceBEq, decide_true, decide_false, undef, beq_self_eq_true, bne_self_eq_false, Bool.and_true, Bool.true_and, Bool.and_false, Bool.false_and, Bool.or_true, Bool.true_or, Bool.or_false, Bool.false_or, List.length_map, h5, h6]
  refine awpL_loopK f.hs.length (fun k s => (∀ h ∈ f.hs.take k, Hr.ok h = true) ∧ s = { env := [(3, .t (vi k)), (1, .ptr 0 0)], σ := [.cells ((fl5 f).map .t)] }) ⟨_, Sub.gc [0] [3, 1] rfl rfl, by simp, rfl⟩ ?_
  rintro k s hk ⟨hK, rfl⟩
  simp only [fl5, go_sem, Nat.reduceEqDiff, Nat.reduceAdd, Nat.reduceSub, Nat.reduceMul, Nat.reduceLT, Nat.reduceLeDiff, Nat.reduceMod, Nat.reduceDiv, Int.reduceToNat, Int.reduceLT, Int.reduceLE, Bool.not_true, Bool.not_false, reduceIte, Int.reduceEq, Int.reduceBEq, Int.reduceBNe, Int.reduceGT, Int.reduceGE, Int.reduceNeg, Int.reduceAdd, Int.reduceSub, Nat.reduceBEq, decide_true, decide_false, undef, beq_self_eq_true, bne_self_eq_false, Bool.and_true, Bool.true_and, Bool.and_false, Bool.false_and, Bool.or_true, Bool.true_or, Bool.or_false, Bool.false_or, List.length_map]
  refine BrL.mk (fun g1 => ?_) (fun g1 => ?_)
  · have hk' : k < f.hs.length := by simp at g1; omega
    have hg : f.hs[k]? = some f.hs[k] := List.getElem?_eq_getElem hk'
    have htk : f.hs.take (k + 1) = f.hs.take k ++ [f.hs[k]] := by rw [List.take_add_one, hg]; rfl
    have hmem : f.hs[k] ∈ f.hs := List.getElem_mem hk'
    have hw : IntKind.i64.wrap ((k : Int) + 1) = ((k + 1 : Nat) : Int) := by rw [wrap_id (by omega) (by omega)]; omega
    generalize f.hs[k] = x at *
    obtain ⟨lo, hi, th⟩ := x
    have badh : ¬ (0 ≤ lo ∧ lo ≤ hi ∧ hi ≤ 12 ∧ 0 ≤ th ∧ th ≤ 2) → f.ok = false := fun h => bad fun k => h (k.hs _ hmem)
    cases q1 : decide (lo < 0)
    rotate_left
    · simp only [g1, go_sem, Nat.reduceEqDiff, Nat.reduceAdd, Nat.reduceSub, Nat.reduceMul, Nat.reduceLT, Nat.reduceLeDiff, Nat.reduceMod, Nat.reduceDiv, Int.reduceToNat, Int.reduceLT, Int.reduceLE, Bool.not_true, Bool.not_false, reduceIte, Int.reduceEq, Int.reduceBEq, Int.reduceBNe, Int.reduceGT, Int.reduceGE, Int.reduceNeg, Int.reduceAdd, Int.reduceSub, Nat.reduceBEq, decide_true, decide_false, undef, beq_self_eq_true, bne_self_eq_false, Bool.and_true, Bool.true_and, Bool.and_false, Bool.false_and, Bool.or_true, Bool.true_or, Bool.or_false, Bool.false_or, List.length_map, List.getElem?_map, hg, tHr, q1]
      exact finL_ret [] ⟨rfl, rfl, rfl, rfl, _, rfl, res_mk (by rw [badh (by simp at q1; omega)]; rfl)⟩
    cases q2 : decide (lo > hi)
    rotate_left
    · simp only [g1, go_sem, Nat.reduceEqDiff, Nat.reduceAdd, Nat.reduceSub, Nat.reduceMul, Nat.reduceLT, Nat.reduceLeDiff, Nat.reduceMod, Nat.reduceDiv, Int.reduceToNat, Int.reduceLT, Int.reduceLE, Bool.not_true, Bool.not_false, reduceIte, Int.reduceEq, Int.reduceBEq, Int.reduceBNe, Int.reduceGT, Int.reduceGE, Int.reduceNeg, Int.reduceAdd, Int.reduceSub, Nat.reduceBEq, decide_true, decide_false, undef, beq_self_eq_true, bne_self_eq_false, Bool.and_true, Bool.true_and, Bool.and_false, Bool.false_and, Bool.or_true, Bool.true_or, Bool.or_false, Bool.false_or, List.length_map, List.getElem?_map, hg, tHr, q1, q2]
      exact finL_ret [] ⟨rfl, rfl, rfl, rfl, _, rfl, res_mk (by rw [badh (by simp at q2; omega)]; rfl)⟩
    cases q3 : decide (hi > 12)
    rotate_left
    · simp only [g1, go_sem, Nat.reduceEqDiff, Nat.reduceAdd, Nat.reduceSub, Nat.reduceMul, Nat.reduceLT, Nat.reduceLeDiff, Nat.reduceMod, Nat.reduceDiv, Int.reduceToNat, Int.reduceLT, Int.reduceLE, Bool.not_true, Bool.not_false, reduceIte, Int.reduceEq, Int.reduceBEq, Int.reduceBNe, Int.reduceGT, Int.reduceGE, Int.reduceNeg, Int.reduceAdd, Int.reduceSub, Nat.reduceBEq, decide_true, decide_false, undef, beq_self_eq_true, bne_self_eq_false, Bool.and_true, Bool.true_and, Bool.and_false, Bool.false_and, Bool.or_true, Bool.true_or, Bool.or_false, Bool.false_or, List.length_map, List.getElem?_map, hg, tHr, q1, q2, q3]
      exact finL_ret [] ⟨rfl, rfl, rfl, rfl, _, rfl, res_mk (by rw [badh (by simp at q3; omega)]; rfl)⟩
    have h592 := rin_ok th 0 2
    simp only [g1, go_sem, Nat.reduceEqDiff, Nat.reduceAdd, Nat.reduceSub, Nat.reduceMul, Nat.reduceLT, Nat.reduceLeDiff, Nat.reduceMod, Nat.reduceDiv, Int.reduceToNat, Int.reduceLT, Int.reduceLE, Bool.not_true, Bool.not_false, reduceIte, Int.reduceEq, Int.reduceBEq, Int.reduceBNe, Int.reduceGT, Int.reduceGE, Int.reduceNeg, Int.reduceAdd, Int.reduceSub, Nat.reduceBEq, decide_true, decide_false, undef, beq_self_eq_true, bne_self_eq_false, Bool.and_true, Bool.true_and, Bool.and_false, Bool.false_and, Bool.or_true, Bool.true_or, Bool.or_false, Bool.false_or, List.length_map, List.getElem?_map, hg, tHr, q1, q2, q3]
    refine ACallL.quiet1 h592 rfl rfl rfl ?_
    cases q4 : wI th 0 2
    · simp only [go_sem, Nat.reduceEqDiff, Nat.reduceAdd, Nat.reduceSub, Nat.reduceMul, Nat.reduceLT, Nat.reduceLeDiff, Nat.reduceMod, Nat.reduceDiv, Int.reduceToNat, Int.reduceLT, Int.reduceLE, Bool.not_true, Bool.not_false, reduceIte, Int.reduceEq, Int.reduceBEq, Int.reduceBNe, Int.reduceGT, Int.reduceGE, Int.reduceNeg, Int.reduceAdd, Int.reduceSub, Nat.reduceBEq, decide_true, decide_false, undef, beq_self_eq_true, bne_self_eq_false, Bool.and_true, Bool.true_and, Bool.and_false, Bool.false_and, Bool.or_true, Bool.true_or, Bool.or_false, Bool.false_or]
      exact finL_ret [] ⟨rfl, rfl, rfl, rfl, _, rfl, res_mk (by rw [badh (by simp [wI] at q4; omega)]; rfl)⟩
    · simp only [go_sem, Nat.reduceEqDiff, Nat.reduceAdd, Nat.reduceSub, Nat.reduceMul, Nat.reduceLT, Nat.reduceLeDiff, Nat.reduceMod, Nat.reduceDiv, Int.reduceToNat, Int.reduceLT, Int.reduceLE, Bool.not_true, Bool.not_false, reduceIte, Int.reduceEq, Int.reduceBEq, Int.reduceBNe, Int.reduceGT, Int.reduceGE, Int.reduceNeg, Int.reduceAdd, Int.reduceSub, Nat.reduceBEq, decide_true, decide_false, undef, beq_self_eq_true, bne_self_eq_false, Bool.and_true, Bool.true_and, Bool.and_false, Bool.false_and, Bool.or_true, Bool.true_or, Bool.or_false, Bool.false_or, hw]
      refine ⟨hk', _, Sub.gc [0] [3, 1] rfl rfl, ?_, rfl⟩
      intro h hh
      rw [htk] at hh
      rcases List.mem_append.1 hh with hh | hh
      · exact hK h hh
      · simp at hh
        subst hh
        simp only [Hr.ok, q4, Bool.and_true, Bool.and_eq_true, decide_eq_true_eq]
        simp at q1 q2 q3
        omega
  · have hkn : k = f.hs.length := by simp at g1; omega
    subst hkn
    rw [List.take_length] at hK
    simp only [g1, go_sem, Nat.reduceEqDiff, Nat.reduceAdd, Nat.reduceSub, Nat.reduceMul, Nat.reduceLT, Nat.reduceLeDiff, Nat.reduceMod, Nat.reduceDiv, Int.reduceToNat, Int.reduceLT, Int.reduceLE, Bool.not_true, Bool.not_false, reduceIte, Int.reduceEq, Int.reduceBEq, Int.reduceBNe, Int.reduceGT, Int.reduceGE, Int.reduceNeg, Int.reduceAdd, Int.reduceSub, Nat.reduceBEq, decide_true, decide_false, undef, beq_self_eq_true, bne_self_eq_false, Bool.and_true, Bool.true_and, Bool.and_false, Bool.false_and, Bool.or_true, Bool.true_or, Bool.or_false, Bool.false_or, List.length_map]
    refine awpL_loopK f.ss.length (fun k s => (∀ s ∈ f.ss.take k, f.isH s.h = true) ∧ s = { env := [(5, .t (vi k)), (1, .ptr 0 0)], σ := [.cells ((fl5 f).map .t)] }) ⟨_, Sub.gc [0] [5, 1] rfl rfl, by simp, rfl⟩ ?_
    rintro k s hk ⟨hS, rfl⟩
    simp only [fl5, go_sem, Nat.reduceEqDiff, Nat.reduceAdd, Nat.reduceSub, Nat.reduceMul, Nat.reduceLT, Nat.reduceLeDiff, Nat.reduceMod, Nat.reduceDiv, Int.reduceToNat, Int.reduceLT, Int.reduceLE, Bool.not_true, Bool.not_false, reduceIte, Int.reduceEq, Int.reduceBEq, Int.reduceBNe, Int.reduceGT, Int.reduceGE, Int.reduceNeg, Int.reduceAdd, Int.reduceSub, Nat.reduceBEq, decide_true, decide_false, undef, beq_self_eq_true, bne_self_eq_false, Bool.and_true, Bool.true_and, Bool.and_false, Bool.false_and, Bool.or_true, Bool.true_or, Bool.or_false, Bool.false_or, List.length_map]
    refine BrL.mk (fun g2 => ?_) (fun g2 => ?_)
    · have hk' : k < f.ss.length := by simp at g2; omega
      have hg : f.ss[k]? = some f.ss[k] := List.getElem?_eq_getElem hk'
      have htk : f.ss.take (k + 1) = f.ss.take k ++ [f.ss[k]] := by rw [List.take_add_one, hg]; rfl
      have hmem : f.ss[k] ∈ f.ss := List.getElem_mem hk'
      have hw : IntKind.i64.wrap ((k : Int) + 1) = ((k + 1 : Nat) : Int) := by rw [wrap_id (by omega) (by omega)]; omega
      generalize f.ss[k] = x at *
      obtain ⟨h, up⟩ := x
      have h47 := rhour_ok f h hl.1
      simp only [fl5] at h47
      simp only [g2, go_sem, Nat.reduceEqDiff, Nat.reduceAdd, Nat.reduceSub, Nat.reduceMul, Nat.reduceLT, Nat.reduceLeDiff, Nat.reduceMod, Nat.reduceDiv, Int.reduceToNat, Int.reduceLT, Int.reduceLE, Bool.not_true, Bool.not_false, reduceIte, Int.reduceEq, Int.reduceBEq, Int.reduceBNe, Int.reduceGT, Int.reduceGE, Int.reduceNeg, Int.reduceAdd, Int.reduceSub, Nat.reduceBEq, decide_true, decide_false, undef, beq_self_eq_true, bne_self_eq_false, Bool.and_true, Bool.true_and, Bool.and_false, Bool.false_and, Bool.or_true, Bool.true_or, Bool.or_false, Bool.false_or, List.length_map, List.getElem?_map, hg, tSn]
      refine ACallL.quiet1 h47 rfl rfl rfl ?_
      cases q1 : f.isH h
      · simp only [go_sem, Nat.reduceEqDiff, Nat.reduceAdd, Nat.reduceSub, Nat.reduceMul, Nat.reduceLT, Nat.reduceLeDiff, Nat.reduceMod, Nat.reduceDiv, Int.reduceToNat, Int.reduceLT, Int.reduceLE, Bool.not_true, Bool.not_false, reduceIte, Int.reduceEq, Int.reduceBEq, Int.reduceBNe, Int.reduceGT, Int.reduceGE, Int.reduceNeg, Int.reduceAdd, Int.reduceSub, Nat.reduceBEq, decide_true, decide_false, undef, beq_self_eq_true, bne_self_eq_false, Bool.and_true, Bool.true_and, Bool.and_false, Bool.false_and, Bool.or_true, Bool.true_or, Bool.or_false, Bool.false_or, List.length_map, List.getElem?_map, hg, tSn]
        have hb : f.ok = false := bad fun k => by
          have := k.ss _ hmem
          rw [← Bool.not_eq_true, isH_iff] at q1
          exact q1 this
        exact finL_ret [] ⟨rfl, rfl, rfl, rfl, _, rfl, res_mk (by rw [hb]; rfl)⟩
      · simp only [go_sem, Nat.reduceEqDiff, Nat.reduceAdd, Nat.reduceSub, Nat.reduceMul, Nat.reduceLT, Nat.reduceLeDiff, Nat.reduceMod, Nat.reduceDiv, Int.reduceToNat, Int.reduceLT, Int.reduceLE, Bool.not_true, Bool.not_false, reduceIte, Int.reduceEq, Int.reduceBEq, Int.reduceBNe, Int.reduceGT, Int.reduceGE, Int.reduceNeg, Int.reduceAdd, Int.reduceSub, Nat.reduceBEq, decide_true, decide_false, undef, beq_self_eq_true, bne_self_eq_false, Bool.and_true, Bool.true_and, Bool.and_false, Bool.false_and, Bool.or_true, Bool.true_or, Bool.or_false, Bool.false_or, List.length_map, List.getElem?_map, hg, tSn, hw]
        refine ⟨hk', _, Sub.gc [0] [5, 1] rfl rfl, ?_, rfl⟩
        intro h hh
        rw [htk] at hh
        rcases List.mem_append.1 hh with hh | hh
        · exact hS h hh
        · simp at hh
          subst hh
          exact q1
    · have hkn : k = f.ss.length := by simp at g2; omega
      subst hkn
      rw [List.take_length] at hS
      simp only [g2, go_sem, Nat.reduceEqDiff, Nat.reduceAdd, Nat.reduceSub, Nat.reduceMul, Nat.reduceLT, Nat.reduceLeDiff, Nat.reduceMod, Nat.reduceDiv, Int.reduceToNat, Int.reduceLT, Int.reduceLE, Bool.not_true, Bool.not_false, reduceIte, Int.reduceEq, Int.reduceBEq, Int.reduceBNe, Int.reduceGT, Int.reduceGE, Int.reduceNeg, Int.reduceAdd, Int.reduceSub, Nat.reduceBEq, decide_true, decide_false, undef, beq_self_eq_true, bne_self_eq_false, Bool.and_true, Bool.true_and, Bool.and_false, Bool.false_and, Bool.or_true, Bool.true_or, Bool.or_false, Bool.false_or]
      have : f.ok = true := by
        unfold Fl.ok
        simp at h1 h2 h3 h5 h6
        simp only [h4, Bool.and_eq_true, decide_eq_true_eq, List.all_eq_true]
        exact ⟨⟨⟨⟨⟨⟨⟨by omega, by omega⟩, by omega⟩, trivial⟩, by omega⟩, by omega⟩, hK⟩, hS⟩
      exact finL_ret [] ⟨rfl, rfl, rfl, rfl, _, rfl, res_mk (by rw [this]; rfl)⟩

/-! ### When the flag is up -/
def tK (ks : List Nat) : T := .slice 1 (ks.map fun k : Nat => vi k)
def poleA (q : Int) (p : Pole) (ks : List Nat) : Pole := ks.foldl (fun p (k : Nat) => (hourF q p k).1) p
theorem upsP_snoc (q : Int) : ∀ (ks : List Nat) (p : Pole) (k : Nat), upsP q p (ks ++ [k]) = upsP q p ks ++ [(hourF q (poleA q p ks) k).2]
  | [], p, k => rfl
  | x :: ks, p, k => by rw [List.cons_append, upsP_cons, upsP_snoc q ks, upsP_cons]; rfl
theorem poleA_snoc (q : Int) (ks : List Nat) (p : Pole) (k : Nat) : poleA q p (ks ++ [k]) = (hourF q (poleA q p ks) k).1 := by simp [poleA]
theorem poleA_calm (q : Int) : ∀ (ks : List Nat) (p : Pole) (n : Nat), 0 ≤ p.2 ∧ p.2 ≤ n → 0 ≤ (poleA q p ks).2 ∧ (poleA q p ks).2 ≤ (n + ks.length : Nat)
  | [], p, n, h => h
  | x :: ks, p, n, h => by
    have := poleA_calm q ks _ _ (hour_calm (q := q) (k := x) h)
    rw [List.length_cons, show n + (ks.length + 1) = n + 1 + ks.length by omega]
    exact this
theorem poleA_down (q : Int) (ks : List Nat) : ∀ (p : Pole), (p.1 = false → p.2 = 0) → (poleA q p ks).1 = false → (poleA q p ks).2 = 0 := by
  induction ks with
  | nil => intro p h; exact h
  | cons k ks ih =>
    intro p h
    refine ih _ ?_
    show (hourF q p k).1.1 = false → (hourF q p k).1.2 = 0
    unfold hourF
    split
    · simp
    · split
      · simp
      · split
        · simp
        · simp only; intro e; rename_i c _; exact absurd (.inl e) c

set_option maxRecDepth 4000 in
theorem raised_ok (f : Fl) (hq : 1 ≤ f.quiet) (ks : List Nat) (hk : ks.length ≤ 1000) (hk3 : ∀ k ∈ ks, k < 3) : ACall Tryd.prog 58 [.t (.agg (fl5 f)), .t (tK ks)] [] (ret (.slice 1 ((ups f ks).map vb))) := by
  refine ACall.walk k58 ?_
  unfold c58 fl5 tK
  simp only [go_sem, Nat.reduceEqDiff, Nat.reduceAdd, Nat.reduceSub, Nat.reduceMul, Nat.reduceLT, Nat.reduceLeDiff, Nat.reduceMod, Nat.reduceDiv, Int.reduceToNat, Int.reduceLT, Int.reduceLE, Bool.not_true, Bool.not_false, reduceIte, Int.reduceEq, Int.reduceBEq, Int.reduceBNe, Int.reduceGT, Int.reduceGE, Int.reduceNeg, Int.reduceAdd, Int.reduceSub, Nat.reduceBEq, decide_true, decide_false, undef, beq_self_eq_true, bne_self_eq_false, Bool.and_true, Bool.true_and, Bool.and_false, Bool.false_and, Bool.or_true, Bool.true_or, Bool.or_false, Bool.false_or]
  refine awpL_loopK ks.length (fun j s => s = { env := [(8, .t (vi j)), (5, .loc 1 j), (6, .t (vb (poleA f.quiet pole0 (ks.take j)).1)), (7, .t (vi (poleA f.quiet pole0 (ks.take j)).2)), (1, .t (tK ks)), (2, .ptr 0 0)], σ := [.cells ((fl5 f).map .t), .row 1 (((upsP f.quiet pole0 (ks.take j)).map vb).map .t)] })
    ⟨_, (Sub.ghost 5 1 (by decide) rfl).trans (Sub.gc [0, 1] [8, 5, 6, 7, 1, 2] rfl rfl), rfl⟩ ?_
  rintro j s hj rfl
  unfold tK
  simp only [fl5, go_sem, Nat.reduceEqDiff, Nat.reduceAdd, Nat.reduceSub, Nat.reduceMul, Nat.reduceLT, Nat.reduceLeDiff, Nat.reduceMod, Nat.reduceDiv, Int.reduceToNat, Int.reduceLT, Int.reduceLE, Bool.not_true, Bool.not_false, reduceIte, Int.reduceEq, Int.reduceBEq, Int.reduceBNe, Int.reduceGT, Int.reduceGE, Int.reduceNeg, Int.reduceAdd, Int.reduceSub, Nat.reduceBEq, decide_true, decide_false, undef, beq_self_eq_true, bne_self_eq_false, Bool.and_true, Bool.true_and, Bool.and_false, Bool.false_and, Bool.or_true, Bool.true_or, Bool.or_false, Bool.false_or, List.length_map]
  refine BrL.mk (fun h1 => ?_) (fun h1 => ?_)
  · have hj' : j < ks.length := by simp at h1; omega
    have hg : ks[j]? = some ks[j] := List.getElem?_eq_getElem hj'
    have htk : ks.take (j + 1) = ks.take j ++ [ks[j]] := by rw [List.take_add_one, hg]; rfl
    have hw : IntKind.i64.wrap ((j : Int) + 1) = ((j + 1 : Nat) : Int) := by rw [wrap_id (by omega) (by omega)]; omega
    have hlen : (upsP f.quiet pole0 (ks.take j)).length = j := by rw [upsP_len, List.length_take]; omega
    have hu := upsP_snoc f.quiet (ks.take j) pole0 ks[j]
    have hp := poleA_snoc f.quiet (ks.take j) pole0 ks[j]
    have hc := poleA_calm f.quiet (ks.take j) pole0 0 (by simp)
    have hd := poleA_down f.quiet (ks.take j) pole0 (fun _ => rfl)
    have hx3 : ks[j] < 3 := hk3 _ (List.getElem_mem hj')
    rw [← htk] at hu hp
    rw [List.length_take] at hc
    generalize ks[j] = x at *
    generalize upsP f.quiet pole0 (ks.take j) = us at *
    generalize poleA f.quiet pole0 (ks.take j) = p at *
    obtain ⟨up, calm⟩ := p
    simp only at hc hd
    have hwc : IntKind.i64.wrap (calm + 1) = calm + 1 := wrap_id (by omega) (by omega)
    have hj9 : j + 1 ≤ 2 ^ 63 - 1 ∧ (j + 1) * 1 ≤ 140737488355328 := by omega
    cases up
    · have hcalm := hd rfl
      subst hcalm
      cases h2 : ((x : Int) == 2)
      · have h2' : ¬ (x : Int) = 2 := by simpa using h2
        have hh : hourF f.quiet (false, 0) x = ((false, 0), false) := by simp [hourF, h2']
        simp only [h1, go_sem, Nat.reduceEqDiff, Nat.reduceAdd, Nat.reduceSub, Nat.reduceMul, Nat.reduceLT, Nat.reduceLeDiff, Nat.reduceMod, Nat.reduceDiv, Int.reduceToNat, Int.reduceLT, Int.reduceLE, Bool.not_true, Bool.not_false, reduceIte, Int.reduceEq, Int.reduceBEq, Int.reduceBNe, Int.reduceGT, Int.reduceGE, Int.reduceNeg, Int.reduceAdd, Int.reduceSub, Nat.reduceBEq, decide_true, decide_false, undef, beq_self_eq_true, bne_self_eq_false, Bool.and_true, Bool.true_and, Bool.and_false, Bool.false_and, Bool.or_true, Bool.true_or, Bool.or_false, Bool.false_or, List.length_map, List.getElem?_map, hg, h2, hw, hlen, maxLen]
        refine ⟨hj9, hj', _, Sub.gc [0, 1] [8, 5, 6, 7, 1, 2] rfl rfl, ?_⟩
        rw [hp, hu, hh]
        refine St.gc_mk rfl ?_ rfl rfl
        simp only [σgc, AO.gc, List.map_cons, List.map_nil, List.getD_cons_zero, List.getD_cons_succ, List.map_append, List.map_map, gc_t, gc_comp, gc_comp', gc_row, gc_row, fl5]
        rfl
      · have h2' : (x : Int) = 2 := by simpa using h2
        have h3 : ((x : Int) == 0) = false := by rw [h2']; rfl
        have h4 : ((0 : Int) == f.quiet) = false := by rw [beq_eq_false_iff_ne]; omega
        have hh : hourF f.quiet (false, 0) x = ((true, 0), true) := by simp [hourF, h2']
        simp only [h1, go_sem, Nat.reduceEqDiff, Nat.reduceAdd, Nat.reduceSub, Nat.reduceMul, Nat.reduceLT, Nat.reduceLeDiff, Nat.reduceMod, Nat.reduceDiv, Int.reduceToNat, Int.reduceLT, Int.reduceLE, Bool.not_true, Bool.not_false, reduceIte, Int.reduceEq, Int.reduceBEq, Int.reduceBNe, Int.reduceGT, Int.reduceGE, Int.reduceNeg, Int.reduceAdd, Int.reduceSub, Nat.reduceBEq, decide_true, decide_false, undef, beq_self_eq_true, bne_self_eq_false, Bool.and_true, Bool.true_and, Bool.and_false, Bool.false_and, Bool.or_true, Bool.true_or, Bool.or_false, Bool.false_or, List.length_map, List.getElem?_map, hg, h2, h3, h4, hw, hlen, maxLen]
        refine ⟨hj9, hj', _, Sub.gc [0, 1] [8, 5, 6, 7, 1, 2] rfl rfl, ?_⟩
        rw [hp, hu, hh]
        refine St.gc_mk rfl ?_ rfl rfl
        simp only [σgc, AO.gc, List.map_cons, List.map_nil, List.getD_cons_zero, List.getD_cons_succ, List.map_append, List.map_map, gc_t, gc_comp, gc_comp', gc_row, gc_row, fl5]
        rfl
    · cases h3 : ((x : Int) == 0)
      · have h3' : ¬ (x : Int) = 0 := by simpa using h3
        have h4 : ((0 : Int) == f.quiet) = false := by rw [beq_eq_false_iff_ne]; omega
        simp only [h1, go_sem, Nat.reduceEqDiff, Nat.reduceAdd, Nat.reduceSub, Nat.reduceMul, Nat.reduceLT, Nat.reduceLeDiff, Nat.reduceMod, Nat.reduceDiv, Int.reduceToNat, Int.reduceLT, Int.reduceLE, Bool.not_true, Bool.not_false, reduceIte, Int.reduceEq, Int.reduceBEq, Int.reduceBNe, Int.reduceGT, Int.reduceGE, Int.reduceNeg, Int.reduceAdd, Int.reduceSub, Nat.reduceBEq, decide_true, decide_false, undef, beq_self_eq_true, bne_self_eq_false, Bool.and_true, Bool.true_and, Bool.and_false, Bool.false_and, Bool.or_true, Bool.true_or, Bool.or_false, Bool.false_or, List.length_map, List.getElem?_map, hg, h3, h4, hw, hlen, maxLen]
        have hh : hourF f.quiet (true, calm) x = ((true, 0), true) := by
          have : x = 1 ∨ x = 2 := by omega
          rcases this with rfl | rfl <;> simp [hourF]
        refine ⟨hj9, hj', _, Sub.gc [0, 1] [8, 5, 6, 7, 1, 2] rfl rfl, ?_⟩
        rw [hp, hu, hh]
        refine St.gc_mk rfl ?_ rfl rfl
        simp only [σgc, AO.gc, List.map_cons, List.map_nil, List.getD_cons_zero, List.getD_cons_succ, List.map_append, List.map_map, gc_t, gc_comp, gc_comp', gc_row, gc_row, fl5]
        rfl
      · have h3' : (x : Int) = 0 := by simpa using h3
        cases h4 : (calm + 1 == f.quiet)
        · have h4' : ¬ calm + 1 = f.quiet := by simpa using h4
          have hh : hourF f.quiet (true, calm) x = ((true, calm + 1), true) := by simp [hourF, h3', h4']
          simp only [h1, go_sem, Nat.reduceEqDiff, Nat.reduceAdd, Nat.reduceSub, Nat.reduceMul, Nat.reduceLT, Nat.reduceLeDiff, Nat.reduceMod, Nat.reduceDiv, Int.reduceToNat, Int.reduceLT, Int.reduceLE, Bool.not_true, Bool.not_false, reduceIte, Int.reduceEq, Int.reduceBEq, Int.reduceBNe, Int.reduceGT, Int.reduceGE, Int.reduceNeg, Int.reduceAdd, Int.reduceSub, Nat.reduceBEq, decide_true, decide_false, undef, beq_self_eq_true, bne_self_eq_false, Bool.and_true, Bool.true_and, Bool.and_false, Bool.false_and, Bool.or_true, Bool.true_or, Bool.or_false, Bool.false_or, List.length_map, List.getElem?_map, hg, h3, h4, hw, hwc, hlen, maxLen]
          refine ⟨hj9, hj', _, Sub.gc [0, 1] [8, 5, 6, 7, 1, 2] rfl rfl, ?_⟩
          rw [hp, hu, hh]
          refine St.gc_mk rfl ?_ rfl rfl
          simp only [σgc, AO.gc, List.map_cons, List.map_nil, List.getD_cons_zero, List.getD_cons_succ, List.map_append, List.map_map, gc_t, gc_comp, gc_comp', gc_row, gc_row, fl5]
          rfl
        · have h4' : calm + 1 = f.quiet := by simpa using h4
          have hh : hourF f.quiet (true, calm) x = ((false, 0), true) := by simp [hourF, h3', h4']
          simp only [h1, go_sem, Nat.reduceEqDiff, Nat.reduceAdd, Nat.reduceSub, Nat.reduceMul, Nat.reduceLT, Nat.reduceLeDiff, Nat.reduceMod, Nat.reduceDiv, Int.reduceToNat, Int.reduceLT, Int.reduceLE, Bool.not_true, Bool.not_false, reduceIte, Int.reduceEq, Int.reduceBEq, Int.reduceBNe, Int.reduceGT, Int.reduceGE, Int.reduceNeg, Int.reduceAdd, Int.reduceSub, Nat.reduceBEq, decide_true, decide_false, undef, beq_self_eq_true, bne_self_eq_false, Bool.and_true, Bool.true_and, Bool.and_false, Bool.false_and, Bool.or_true, Bool.true_or, Bool.or_false, Bool.false_or, List.length_map, List.getElem?_map, hg, h3, h4, hw, hwc, hlen, maxLen]
          refine ⟨hj9, hj', _, Sub.gc [0, 1] [8, 5, 6, 7, 1, 2] rfl rfl, ?_⟩
          rw [hp, hu, hh]
          refine St.gc_mk rfl ?_ rfl rfl
          simp only [σgc, AO.gc, List.map_cons, List.map_nil, List.getD_cons_zero, List.getD_cons_succ, List.map_append, List.map_map, gc_t, gc_comp, gc_comp', gc_row, gc_row, fl5]
          rfl
  · have hjn : j = ks.length := by simp at h1; omega
    subst hjn
    simp only [h1, go_sem, Nat.reduceEqDiff, Nat.reduceAdd, Nat.reduceSub, Nat.reduceMul, Nat.reduceLT, Nat.reduceLeDiff, Nat.reduceMod, Nat.reduceDiv, Int.reduceToNat, Int.reduceLT, Int.reduceLE, Bool.not_true, Bool.not_false, reduceIte, Int.reduceEq, Int.reduceBEq, Int.reduceBNe, Int.reduceGT, Int.reduceGE, Int.reduceNeg, Int.reduceAdd, Int.reduceSub, Nat.reduceBEq, decide_true, decide_false, undef, beq_self_eq_true, bne_self_eq_false, Bool.and_true, Bool.true_and, Bool.and_false, Bool.false_and, Bool.or_true, Bool.true_or, Bool.or_false, Bool.false_or]
    rw [List.take_length]
    refine finL_ret [] ⟨rfl, rfl, rfl, rfl, _, rfl, res_mk ?_⟩
    rw [show lk _ 4 = E.loc 1 ks.length from rfl, gc_loc (n := 10) (xs := (ups f ks).map vb) rfl rfl (by simp [upsP_len])]

/-! ### Is what was seen right, of a set of it -/
/-- What was seen, of a set of it. -/
def inS (set : Nat) : Nat → List Sn → List Sn
  | _, [] => []
  | i, s :: r => if set.testBit i then s :: inS set (i + 1) r else inS set (i + 1) r
theorem inS_snoc (set : Nat) : ∀ (l : List Sn) (i : Nat) (s : Sn), inS set i (l ++ [s]) = inS set i l ++ if set.testBit (i + l.length) then [s] else []
  | [], i, s => by simp only [List.nil_append, inS, List.length_nil, Nat.add_zero]
  | x :: l, i, s => by
    simp only [List.cons_append, inS, inS_snoc set l (i + 1) s, List.length_cons]
    rw [show i + 1 + l.length = i + (l.length + 1) by omega]
    split <;> simp
theorem right_snoc (f : Fl) (l : List Sn) (s : Sn) (ks : List Nat) : right f (l ++ [s]) ks = (right f l ks && (upAt f ks s.h.toNat == s.up)) := by simp [right]
theorem inS_take_false (f : Fl) (set : Nat) (ks : List Nat) (l : List Sn) {j : Nat} {s : Sn} (hs : l[j]? = some s) (hb : set.testBit j = true) (h : (upAt f ks s.h.toNat == s.up) = false) : right f (inS set 0 l) ks = false := by
  have key : ∀ (l : List Sn) (i j : Nat), l[j]? = some s → set.testBit (i + j) = true → s ∈ inS set i l := by
    intro l
    induction l with
    | nil => intro i j h; simp at h
    | cons x l ih =>
      intro i j h hb
      simp only [inS]
      cases j with
      | zero => simp at h; subst h; rw [if_pos (by simpa using hb)]; simp
      | succ j =>
        have := ih (i + 1) j (by simpa using h) (by rw [show i + 1 + j = i + (j + 1) by omega]; exact hb)
        split
        · exact List.mem_cons_of_mem _ this
        · exact this
  have := key l 0 j hs (by simpa using hb)
  rw [← Bool.not_eq_true]
  intro hr
  have := List.all_eq_true.1 hr s this
  rw [h] at this
  cases this

set_option maxRecDepth 4000 in
theorem rseen_ok (f : Fl) (hf : f.OK) (ks : List Nat) (hl : ks.length = f.hs.length) (hk3 : ∀ k ∈ ks, k < 3) (set : Nat) (hset : set < 4096) : ACall Tryd.prog 82 [.t (.agg (fl5 f)), .t (tK ks), .t (vi set)] [] (ret (vb (right f (inS set 0 f.ss) ks))) := by
  refine ACall.walk k82 ?_
  unfold c82 fl5
  have hn := hf.nh
  have hns := hf.ns
  have h58 := raised_ok f hf.quiet.1 ks (by omega) hk3
  simp only [fl5] at h58
  simp only [go_sem, Nat.reduceEqDiff, Nat.reduceAdd, Nat.reduceSub, Nat.reduceMul, Nat.reduceLT, Nat.reduceLeDiff, Nat.reduceMod, Nat.reduceDiv, Int.reduceToNat, Int.reduceLT, Int.reduceLE, Bool.not_true, Bool.not_false, reduceIte, Int.reduceEq, Int.reduceBEq, Int.reduceBNe, Int.reduceGT, Int.reduceGE, Int.reduceNeg, Int.reduceAdd, Int.reduceSub, Nat.reduceBEq, decide_true, decide_false, undef, beq_self_eq_true, bne_self_eq_false, Bool.and_true, Bool.true_and, Bool.and_false, Bool.false_and, Bool.or_true, Bool.true_or, Bool.or_false, Bool.false_or]
  refine ACallL.fresh1 h58 rfl ?_
  simp only [go_sem, Nat.reduceEqDiff, Nat.reduceAdd, Nat.reduceSub, Nat.reduceMul, Nat.reduceLT, Nat.reduceLeDiff, Nat.reduceMod, Nat.reduceDiv, Int.reduceToNat, Int.reduceLT, Int.reduceLE, Bool.not_true, Bool.not_false, reduceIte, Int.reduceEq, Int.reduceBEq, Int.reduceBNe, Int.reduceGT, Int.reduceGE, Int.reduceNeg, Int.reduceAdd, Int.reduceSub, Nat.reduceBEq, decide_true, decide_false, undef, beq_self_eq_true, bne_self_eq_false, Bool.and_true, Bool.true_and, Bool.and_false, Bool.false_and, Bool.or_true, Bool.true_or, Bool.or_false, Bool.false_or]
  refine awpL_loopK f.ss.length (fun j s => right f (inS set 0 (f.ss.take j)) ks = true ∧ s = { env := [(8, .t (vi j)), (7, .t (.slice 1 ((ups f ks).map vb))), (2, .t (vi set)), (3, .ptr 0 0)], σ := [.cells ((fl5 f).map .t)] }) ⟨_, Sub.gc [0] [8, 7, 2, 3] rfl rfl, rfl, rfl⟩ ?_
  rintro j s hj ⟨hR, rfl⟩
  simp only [fl5, go_sem, Nat.reduceEqDiff, Nat.reduceAdd, Nat.reduceSub, Nat.reduceMul, Nat.reduceLT, Nat.reduceLeDiff, Nat.reduceMod, Nat.reduceDiv, Int.reduceToNat, Int.reduceLT, Int.reduceLE, Bool.not_true, Bool.not_false, reduceIte, Int.reduceEq, Int.reduceBEq, Int.reduceBNe, Int.reduceGT, Int.reduceGE, Int.reduceNeg, Int.reduceAdd, Int.reduceSub, Nat.reduceBEq, decide_true, decide_false, undef, beq_self_eq_true, bne_self_eq_false, Bool.and_true, Bool.true_and, Bool.and_false, Bool.false_and, Bool.or_true, Bool.true_or, Bool.or_false, Bool.false_or, List.length_map]
  refine BrL.mk (fun h1 => ?_) (fun h1 => ?_)
  · have hj' : j < f.ss.length := by simp at h1; omega
    have hg : f.ss[j]? = some f.ss[j] := List.getElem?_eq_getElem hj'
    have htk : f.ss.take (j + 1) = f.ss.take j ++ [f.ss[j]] := by rw [List.take_add_one, hg]; rfl
    have hw : IntKind.i64.wrap ((j : Int) + 1) = ((j + 1 : Nat) : Int) := by rw [wrap_id (by omega) (by omega)]; omega
    have hss := hf.ss _ (List.getElem_mem hj')
    have hsn := inS_snoc set (f.ss.take j) 0 f.ss[j]
    rw [← htk, List.length_take, show 0 + min j f.ss.length = j by omega] at hsn
    have hfalse := inS_take_false f set ks f.ss hg
    generalize f.ss[j] = x at *
    obtain ⟨h, up⟩ := x
    simp only at hss hfalse
    obtain ⟨n, rfl⟩ : ∃ n : Nat, h = n := ⟨h.toNat, by omega⟩
    have hlu : (ups f ks).length = f.hs.length := by rw [upsP_len, hl]
    have hgu : (ups f ks)[n]? = some (upAt f ks n) := by
      rw [List.getElem?_eq_getElem (by omega), upAt, List.getD_eq_getElem?_getD, List.getElem?_eq_getElem (by omega)]; rfl
    have hnl : (n : Int) < f.hs.length := by omega
    simp only [Int.toNat_natCast] at hfalse
    simp only [h1, go_sem, Nat.reduceEqDiff, Nat.reduceAdd, Nat.reduceSub, Nat.reduceMul, Nat.reduceLT, Nat.reduceLeDiff, Nat.reduceMod, Nat.reduceDiv, Int.reduceToNat, Int.reduceLT, Int.reduceLE, Bool.not_true, Bool.not_false, reduceIte, Int.reduceEq, Int.reduceBEq, Int.reduceBNe, Int.reduceGT, Int.reduceGE, Int.reduceNeg, Int.reduceAdd, Int.reduceSub, Nat.reduceBEq, decide_true, decide_false, undef, beq_self_eq_true, bne_self_eq_false, Bool.and_true, Bool.true_and, Bool.and_false, Bool.false_and, Bool.or_true, Bool.true_or, Bool.or_false, Bool.false_or, List.length_map, List.getElem?_map, hg, tSn]
    refine ACallL.quiet1 (has_ok' set j hset (by omega)) rfl rfl rfl ?_
    cases hb : set.testBit j
    · simp only [go_sem, Nat.reduceEqDiff, Nat.reduceAdd, Nat.reduceSub, Nat.reduceMul, Nat.reduceLT, Nat.reduceLeDiff, Nat.reduceMod, Nat.reduceDiv, Int.reduceToNat, Int.reduceLT, Int.reduceLE, Bool.not_true, Bool.not_false, reduceIte, Int.reduceEq, Int.reduceBEq, Int.reduceBNe, Int.reduceGT, Int.reduceGE, Int.reduceNeg, Int.reduceAdd, Int.reduceSub, Nat.reduceBEq, decide_true, decide_false, undef, beq_self_eq_true, bne_self_eq_false, Bool.and_true, Bool.true_and, Bool.and_false, Bool.false_and, Bool.or_true, Bool.true_or, Bool.or_false, Bool.false_or, List.length_map, List.getElem?_map, hg, hw]
      refine ⟨hj', _, Sub.gc [0] [8, 7, 2, 3] rfl rfl, ?_, rfl⟩
      rw [hsn, hb]
      simpa using hR
    · cases he : (upAt f ks n == up)
      · have he' : (upAt f ks n == up) = false := he
        simp only [go_sem, Nat.reduceEqDiff, Nat.reduceAdd, Nat.reduceSub, Nat.reduceMul, Nat.reduceLT, Nat.reduceLeDiff, Nat.reduceMod, Nat.reduceDiv, Int.reduceToNat, Int.reduceLT, Int.reduceLE, Bool.not_true, Bool.not_false, reduceIte, Int.reduceEq, Int.reduceBEq, Int.reduceBNe, Int.reduceGT, Int.reduceGE, Int.reduceNeg, Int.reduceAdd, Int.reduceSub, Nat.reduceBEq, decide_true, decide_false, undef, beq_self_eq_true, bne_self_eq_false, Bool.and_true, Bool.true_and, Bool.and_false, Bool.false_and, Bool.or_true, Bool.true_or, Bool.or_false, Bool.false_or, List.length_map, List.getElem?_map, hg, hgu, tSn, he']
        exact finL_ret [] ⟨rfl, rfl, rfl, rfl, _, rfl, res_mk (by rw [hfalse hb he]; rfl)⟩
      · have he' : (upAt f ks n == up) = true := he
        simp only [go_sem, Nat.reduceEqDiff, Nat.reduceAdd, Nat.reduceSub, Nat.reduceMul, Nat.reduceLT, Nat.reduceLeDiff, Nat.reduceMod, Nat.reduceDiv, Int.reduceToNat, Int.reduceLT, Int.reduceLE, Bool.not_true, Bool.not_false, reduceIte, Int.reduceEq, Int.reduceBEq, Int.reduceBNe, Int.reduceGT, Int.reduceGE, Int.reduceNeg, Int.reduceAdd, Int.reduceSub, Nat.reduceBEq, decide_true, decide_false, undef, beq_self_eq_true, bne_self_eq_false, Bool.and_true, Bool.true_and, Bool.and_false, Bool.false_and, Bool.or_true, Bool.true_or, Bool.or_false, Bool.false_or, List.length_map, List.getElem?_map, hg, hgu, tSn, he', hw]
        refine ⟨hj', _, Sub.gc [0] [8, 7, 2, 3] rfl rfl, ?_, rfl⟩
        rw [hsn, hb, if_pos rfl, right_snoc, hR]
        simpa using he
  · have hjn : j = f.ss.length := by simp at h1; omega
    subst hjn
    rw [List.take_length] at hR
    simp only [h1, go_sem, Nat.reduceEqDiff, Nat.reduceAdd, Nat.reduceSub, Nat.reduceMul, Nat.reduceLT, Nat.reduceLeDiff, Nat.reduceMod, Nat.reduceDiv, Int.reduceToNat, Int.reduceLT, Int.reduceLE, Bool.not_true, Bool.not_false, reduceIte, Int.reduceEq, Int.reduceBEq, Int.reduceBNe, Int.reduceGT, Int.reduceGE, Int.reduceNeg, Int.reduceAdd, Int.reduceSub, Nat.reduceBEq, decide_true, decide_false, undef, beq_self_eq_true, bne_self_eq_false, Bool.and_true, Bool.true_and, Bool.and_false, Bool.false_and, Bool.or_true, Bool.true_or, Bool.or_false, Bool.false_or]
    exact finL_ret [] ⟨rfl, rfl, rfl, rfl, _, rfl, res_mk (by rw [hR]; rfl)⟩
end Go.Proofs.YtkbjodmpmmnhgaaDoor
