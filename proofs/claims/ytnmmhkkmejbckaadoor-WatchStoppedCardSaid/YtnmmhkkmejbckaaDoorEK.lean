/- Proved here: laws that the statements need (WaU5). No conditions but those that each law states. -/
import Derived.Test.YtnmmhkkmejbckaaDoorEJ

set_option linter.unusedSimpArgs false
set_option linter.unusedVariables false

/- WatchStopped. -/
namespace Go.Proofs.YtnmmhkkmejbckaaDoor
open Go Go.Ab

theorem specStopped_at {w : Wa} (hok : w.ok = true) {i k : Nat} {f : Fi} {o : Ow} (hi : w.fs[i]? = some f) (hk : w.os[k]? = some o) : specStopped w i k = if f.stopped then (if minsL o f = [] then ([], 4) else (spansL (minsL o f), 0)) else ([], 11) := by
  have h1 := (List.getElem?_eq_some_iff.1 hi).1
  have h2 := (List.getElem?_eq_some_iff.1 hk).1
  unfold specStopped
  rw [hok, if_pos rfl, isF_at h1, isO_at h2, Bool.true_and, if_pos rfl, Int.toNat_natCast, Int.toNat_natCast, hi, hk]
theorem specFits_at {w : Wa} (hok : w.ok = true) {i : Nat} {f : Fi} (hi : w.fs[i]? = some f) : specFits w i = (((fitN w.os f : Nat) : Int), 0) := by
  have h1 := (List.getElem?_eq_some_iff.1 hi).1
  have e : w.fits.getD i 0 = fitN w.os f := by
    unfold Wa.fits
    rw [List.getD_eq_getElem?_getD, List.getElem?_map, hi]
    rfl
  unfold specFits
  rw [hok, if_pos rfl, isF_at h1, if_pos rfl, Int.toNat_natCast, e]
/-- Slots behind the calls. -/
def S6 (w : Wa) (i k : Nat) (f : Fi) (o : Ow) : St := { env := [(3, .t (.ptr (tWa w) 0)), (7, .t (vi i)), (8, .t (.ptr (.agg [vi k]) 0)), (9, .t (.ptr (tFi f) 0)), (10, .t (.ptr (tOw o) 0))], σ := [] }
def spsT (r : List (Int × Int) × Int) : T := if r.2 = 0 then .slice 2 (tSps r.1) else .lit (.slice none 0 0)
def M6 (w : Wa) (i k : Nat) (f : Fi) (o : Ow) (st : St) : Prop := lk st.env 3 = .t (.ptr (tWa w) 0) ∧ lk st.env 7 = .t (vi i) ∧ lk st.env 8 = .t (.ptr (.agg [vi k]) 0) ∧ lk st.env 9 = .t (.ptr (tFi f) 0) ∧ lk st.env 10 = .t (.ptr (tOw o) 0) ∧ lk st.env 11 = .t (spsT (specStopped w i k)) ∧ lk st.env 12 = .t (vi (specStopped w i k).2) ∧ st.σ = [] ∧ st.df = [] ∧ st.k = 0
set_option maxRecDepth 8000 in
set_option maxHeartbeats 8000000 in
theorem WatchStopped_ok (w : Wa) (hL : Lens w) (u : Nat) (hu : u < 256) (v : Nat) (hv : v < 256) : ACall Tryd.prog 6 [.t (tWa w), .t (.lit (.int .u8 u)), .t (.lit (.int .u8 v))] [] (res (.ret (.t (vb true)))) := by
  refine ACall.walk k6 ?_
  have h26 := long_ok w
  have h27 := rwatches_ok w hL
  unfold c6
  refine awpL_chop 5 (c1 := ?a1) (c2 := ?a2) (fun st => w.OK ∧ ∃ (i k : Nat) (f : Fi) (o : Ow), w.fs[i]? = some f ∧ w.os[k]? = some o ∧ M6 w i k f o st) ?hc ?_ ?_
  case hc => simp only [chop]; rfl
  · unfold tWa wa2 at h26 h27 ⊢
    simp only [go_sem, Nat.reduceEqDiff, Nat.reduceAdd, Nat.reduceSub, Nat.reduceMul, Nat.reduceLT, Nat.reduceLeDiff, Nat.reduceMod, Nat.reduceDiv, Int.reduceToNat, Int.reduceLT, Int.reduceLE, Bool.not_true, Bool.not_false, reduceIte, Int.reduceEq, Int.reduceBEq, Int.reduceBNe, Int.reduceGT, Int.reduceGE, Int.reduceNeg, Int.reduceAdd, Int.reduceSub, Nat.reduceBEq, decide_true, decide_false, undef, beq_self_eq_true, bne_self_eq_false, Bool.and_true, Bool.true_and, Bool.and_false, Bool.false_and, Bool.or_true, Bool.true_or, Bool.or_false, Bool.false_or]
    refine ACallL.quiet1 h26 rfl rfl rfl ?_
    cases hlg : w.long
    rotate_left
    · simp only [go_sem, Nat.reduceEqDiff, Nat.reduceAdd, Nat.reduceSub, Nat.reduceMul, Nat.reduceLT, Nat.reduceLeDiff, Nat.reduceMod, Nat.reduceDiv, Int.reduceToNat, Int.reduceLT, Int.reduceLE, Bool.not_true, Bool.not_false, reduceIte, Int.reduceEq, Int.reduceBEq, Int.reduceBNe, Int.reduceGT, Int.reduceGE, Int.reduceNeg, Int.reduceAdd, Int.reduceSub, Nat.reduceBEq, decide_true, decide_false, undef, beq_self_eq_true, bne_self_eq_false, Bool.and_true, Bool.true_and, Bool.and_false, Bool.false_and, Bool.or_true, Bool.true_or, Bool.or_false, Bool.false_or]
      refine ACallL.quiet1 alive_ok rfl rfl rfl ?_
      simp only [go_sem, Nat.reduceEqDiff, Nat.reduceAdd, Nat.reduceSub, Nat.reduceMul, Nat.reduceLT, Nat.reduceLeDiff, Nat.reduceMod, Nat.reduceDiv, Int.reduceToNat, Int.reduceLT, Int.reduceLE, Bool.not_true, Bool.not_false, reduceIte, Int.reduceEq, Int.reduceBEq, Int.reduceBNe, Int.reduceGT, Int.reduceGE, Int.reduceNeg, Int.reduceAdd, Int.reduceSub, Nat.reduceBEq, decide_true, decide_false, undef, beq_self_eq_true, bne_self_eq_false, Bool.and_true, Bool.true_and, Bool.and_false, Bool.false_and, Bool.or_true, Bool.true_or, Bool.or_false, Bool.false_or]
      exact finL_ret [] ⟨rfl, rfl, rfl, rfl, _, rfl, res_mk rfl⟩
    simp only [go_sem, Nat.reduceEqDiff, Nat.reduceAdd, Nat.reduceSub, Nat.reduceMul, Nat.reduceLT, Nat.reduceLeDiff, Nat.reduceMod, Nat.reduceDiv, Int.reduceToNat, Int.reduceLT, Int.reduceLE, Bool.not_true, Bool.not_false, reduceIte, Int.reduceEq, Int.reduceBEq, Int.reduceBNe, Int.reduceGT, Int.reduceGE, Int.reduceNeg, Int.reduceAdd, Int.reduceSub, Nat.reduceBEq, decide_true, decide_false, undef, beq_self_eq_true, bne_self_eq_false, Bool.and_true, Bool.true_and, Bool.and_false, Bool.false_and, Bool.or_true, Bool.true_or, Bool.or_false, Bool.false_or]
    refine ACallL.quiet1 h27 rfl rfl rfl ?_
    cases hok : w.ok
    · simp only [go_sem, Nat.reduceEqDiff, Nat.reduceAdd, Nat.reduceSub, Nat.reduceMul, Nat.reduceLT, Nat.reduceLeDiff, Nat.reduceMod, Nat.reduceDiv, Int.reduceToNat, Int.reduceLT, Int.reduceLE, Bool.not_true, Bool.not_false, reduceIte, Int.reduceEq, Int.reduceBEq, Int.reduceBNe, Int.reduceGT, Int.reduceGE, Int.reduceNeg, Int.reduceAdd, Int.reduceSub, Nat.reduceBEq, decide_true, decide_false, undef, beq_self_eq_true, bne_self_eq_false, Bool.and_true, Bool.true_and, Bool.and_false, Bool.false_and, Bool.or_true, Bool.true_or, Bool.or_false, Bool.false_or]
      refine ACallL.quiet1 alive_ok rfl rfl rfl ?_
      simp only [go_sem, Nat.reduceEqDiff, Nat.reduceAdd, Nat.reduceSub, Nat.reduceMul, Nat.reduceLT, Nat.reduceLeDiff, Nat.reduceMod, Nat.reduceDiv, Int.reduceToNat, Int.reduceLT, Int.reduceLE, Bool.not_true, Bool.not_false, reduceIte, Int.reduceEq, Int.reduceBEq, Int.reduceBNe, Int.reduceGT, Int.reduceGE, Int.reduceNeg, Int.reduceAdd, Int.reduceSub, Nat.reduceBEq, decide_true, decide_false, undef, beq_self_eq_true, bne_self_eq_false, Bool.and_true, Bool.true_and, Bool.and_false, Bool.false_and, Bool.or_true, Bool.true_or, Bool.or_false, Bool.false_or]
      exact finL_ret [] ⟨rfl, rfl, rfl, rfl, _, rfl, res_mk rfl⟩
    have hw := (w.ok_iff).1 hok
    simp only [go_sem, Nat.reduceEqDiff, Nat.reduceAdd, Nat.reduceSub, Nat.reduceMul, Nat.reduceLT, Nat.reduceLeDiff, Nat.reduceMod, Nat.reduceDiv, Int.reduceToNat, Int.reduceLT, Int.reduceLE, Bool.not_true, Bool.not_false, reduceIte, Int.reduceEq, Int.reduceBEq, Int.reduceBNe, Int.reduceGT, Int.reduceGE, Int.reduceNeg, Int.reduceAdd, Int.reduceSub, Nat.reduceBEq, decide_true, decide_false, undef, beq_self_eq_true, bne_self_eq_false, Bool.and_true, Bool.true_and, Bool.and_false, Bool.false_and, Bool.or_true, Bool.true_or, Bool.or_false, Bool.false_or, List.length_map]
    cases h0 : ((w.os.length : Int) == 0)
    rotate_left
    · simp only [go_sem, Nat.reduceEqDiff, Nat.reduceAdd, Nat.reduceSub, Nat.reduceMul, Nat.reduceLT, Nat.reduceLeDiff, Nat.reduceMod, Nat.reduceDiv, Int.reduceToNat, Int.reduceLT, Int.reduceLE, Bool.not_true, Bool.not_false, reduceIte, Int.reduceEq, Int.reduceBEq, Int.reduceBNe, Int.reduceGT, Int.reduceGE, Int.reduceNeg, Int.reduceAdd, Int.reduceSub, Nat.reduceBEq, decide_true, decide_false, undef, beq_self_eq_true, bne_self_eq_false, Bool.and_true, Bool.true_and, Bool.and_false, Bool.false_and, Bool.or_true, Bool.true_or, Bool.or_false, Bool.false_or]
      refine ACallL.quiet1 alive_ok rfl rfl rfl ?_
      simp only [go_sem, Nat.reduceEqDiff, Nat.reduceAdd, Nat.reduceSub, Nat.reduceMul, Nat.reduceLT, Nat.reduceLeDiff, Nat.reduceMod, Nat.reduceDiv, Int.reduceToNat, Int.reduceLT, Int.reduceLE, Bool.not_true, Bool.not_false, reduceIte, Int.reduceEq, Int.reduceBEq, Int.reduceBNe, Int.reduceGT, Int.reduceGE, Int.reduceNeg, Int.reduceAdd, Int.reduceSub, Nat.reduceBEq, decide_true, decide_false, undef, beq_self_eq_true, bne_self_eq_false, Bool.and_true, Bool.true_and, Bool.and_false, Bool.false_and, Bool.or_true, Bool.true_or, Bool.or_false, Bool.false_or]
      exact finL_ret [] ⟨rfl, rfl, rfl, rfl, _, rfl, res_mk rfl⟩
    simp only [go_sem, Nat.reduceEqDiff, Nat.reduceAdd, Nat.reduceSub, Nat.reduceMul, Nat.reduceLT, Nat.reduceLeDiff, Nat.reduceMod, Nat.reduceDiv, Int.reduceToNat, Int.reduceLT, Int.reduceLE, Bool.not_true, Bool.not_false, reduceIte, Int.reduceEq, Int.reduceBEq, Int.reduceBNe, Int.reduceGT, Int.reduceGE, Int.reduceNeg, Int.reduceAdd, Int.reduceSub, Nat.reduceBEq, decide_true, decide_false, undef, beq_self_eq_true, bne_self_eq_false, Bool.and_true, Bool.true_and, Bool.and_false, Bool.false_and, Bool.or_true, Bool.true_or, Bool.or_false, Bool.false_or, List.length_map]
    cases h1 : ((w.fs.length : Int) == 0)
    rotate_left
    · simp only [go_sem, Nat.reduceEqDiff, Nat.reduceAdd, Nat.reduceSub, Nat.reduceMul, Nat.reduceLT, Nat.reduceLeDiff, Nat.reduceMod, Nat.reduceDiv, Int.reduceToNat, Int.reduceLT, Int.reduceLE, Bool.not_true, Bool.not_false, reduceIte, Int.reduceEq, Int.reduceBEq, Int.reduceBNe, Int.reduceGT, Int.reduceGE, Int.reduceNeg, Int.reduceAdd, Int.reduceSub, Nat.reduceBEq, decide_true, decide_false, undef, beq_self_eq_true, bne_self_eq_false, Bool.and_true, Bool.true_and, Bool.and_false, Bool.false_and, Bool.or_true, Bool.true_or, Bool.or_false, Bool.false_or]
      refine ACallL.quiet1 alive_ok rfl rfl rfl ?_
      simp only [go_sem, Nat.reduceEqDiff, Nat.reduceAdd, Nat.reduceSub, Nat.reduceMul, Nat.reduceLT, Nat.reduceLeDiff, Nat.reduceMod, Nat.reduceDiv, Int.reduceToNat, Int.reduceLT, Int.reduceLE, Bool.not_true, Bool.not_false, reduceIte, Int.reduceEq, Int.reduceBEq, Int.reduceBNe, Int.reduceGT, Int.reduceGE, Int.reduceNeg, Int.reduceAdd, Int.reduceSub, Nat.reduceBEq, decide_true, decide_false, undef, beq_self_eq_true, bne_self_eq_false, Bool.and_true, Bool.true_and, Bool.and_false, Bool.false_and, Bool.or_true, Bool.true_or, Bool.or_false, Bool.false_or]
      exact finL_ret [] ⟨rfl, rfl, rfl, rfl, _, rfl, res_mk rfl⟩
    have n0 : ((w.os.length : Int) = 0) = False := eq_false (by simpa using h0)
    have n1 : ((w.fs.length : Int) = 0) = False := eq_false (by simpa using h1)
    have hnp : 0 < w.os.length := by have : ¬ ((w.os.length : Int) = 0) := by simpa using h0
                                     omega
    have hnf : 0 < w.fs.length := by have : ¬ ((w.fs.length : Int) = 0) := by simpa using h1
                                     omega
    have ha : u % w.fs.length < w.fs.length := Nat.mod_lt _ hnf
    have hb : v % w.os.length < w.os.length := Nat.mod_lt _ hnp
    have t1 := mod_nat u w.fs.length
    have t2 := mod_nat v w.os.length
    have w0 : IntKind.i64.wrap (u : Int) = u := wrap_id (by omega) (by omega)
    have w1 : IntKind.i64.wrap (v : Int) = v := wrap_id (by omega) (by omega)
    have hn5 := hw.no
    have hn4 := hw.nf
    have w2 : IntKind.i64.wrap ((u % w.fs.length : Nat) : Int) = ((u % w.fs.length : Nat) : Int) := wrap_id (by omega) (by omega)
    have w3 : IntKind.i64.wrap ((v % w.os.length : Nat) : Int) = ((v % w.os.length : Nat) : Int) := wrap_id (by omega) (by omega)
    generalize u % w.fs.length = i at *
    generalize v % w.os.length = k at *
    have hxf : w.fs[i]? = some w.fs[i] := List.getElem?_eq_getElem ha
    have hxo : w.os[k]? = some w.os[k] := List.getElem?_eq_getElem hb
    generalize w.fs[i] = f at *
    generalize w.os[k] = o at *
    have hto : tOw o = .agg [vi o.set_, vi o.lo, vi o.hi, vi o.huts] := rfl
    have htf : tFi f = .agg [vi f.hut, vi f.minute, vi f.lo, vi f.hi, vb f.stopped] := rfl
    have hi0 : ((i : Int) < 0) = False := eq_false (by omega)
    have hk0 : ((k : Int) < 0) = False := eq_false (by omega)
    simp only [go_sem, Nat.reduceEqDiff, Nat.reduceAdd, Nat.reduceSub, Nat.reduceMul, Nat.reduceLT, Nat.reduceLeDiff, Nat.reduceMod, Nat.reduceDiv, Int.reduceToNat, Int.reduceLT, Int.reduceLE, Bool.not_true, Bool.not_false, reduceIte, Int.reduceEq, Int.reduceBEq, Int.reduceBNe, Int.reduceGT, Int.reduceGE, Int.reduceNeg, Int.reduceAdd, Int.reduceSub, Nat.reduceBEq, decide_true, decide_false, undef, beq_self_eq_true, bne_self_eq_false, Bool.and_true, Bool.true_and, Bool.and_false, Bool.false_and, Bool.or_true, Bool.true_or, Bool.or_false, Bool.false_or, List.length_map, n0, n1, t1, t2, w0, w1, w2, w3, hi0, hk0, List.getElem?_map, hxf, hxo, Option.map_some, hto, htf]
    refine AndL.mk ?_ ?_
    all_goals
      simp only [go_sem, Nat.reduceEqDiff, Nat.reduceAdd, Nat.reduceSub, Nat.reduceMul, Nat.reduceLT, Nat.reduceLeDiff, Nat.reduceMod, Nat.reduceDiv, Int.reduceToNat, Int.reduceLT, Int.reduceLE, Bool.not_true, Bool.not_false, reduceIte, Int.reduceEq, Int.reduceBEq, Int.reduceBNe, Int.reduceGT, Int.reduceGE, Int.reduceNeg, Int.reduceAdd, Int.reduceSub, Nat.reduceBEq, decide_true, decide_false, undef, beq_self_eq_true, bne_self_eq_false, Bool.and_true, Bool.true_and, Bool.and_false, Bool.false_and, Bool.or_true, Bool.true_or, Bool.or_false, Bool.false_or, List.length_map, n0, n1, t1, t2, w0, w1, w2, w3, hi0, hk0, List.getElem?_map, hxf, hxo, Option.map_some, hto, htf]
      refine awpL_gcpE [] [3, 7, 8, 9, 10] (S6 w i k f o) (St.gc_mk rfl rfl rfl rfl) rfl rfl ?_
      have q1 := Stopped_ok w i k hL
      have q1' : ACall Tryd.prog 14 [.t (tWa w), .t (vi i), .t (vi k)] [] (res (.ret (.tup [.t (spsT (specStopped w i k)), .t (vi (specStopped w i k).2)]))) := q1
      clear q1
      have hM : ∀ env : List (Nat × E), lk env 3 = .t (.ptr (tWa w) 0) → lk env 7 = .t (vi i) → lk env 8 = .t (.ptr (.agg [vi k]) 0) → lk env 9 = .t (.ptr (tFi f) 0) → lk env 10 = .t (.ptr (tOw o) 0) → lk env 11 = .t (spsT (specStopped w i k)) → lk env 12 = .t (vi (specStopped w i k).2) → w.OK ∧ ∃ (i k : Nat) (f : Fi) (o : Ow), w.fs[i]? = some f ∧ w.os[k]? = some o ∧ M6 w i k f o { env := env, σ := [] } := fun env a b c d e g h => ⟨hw, i, k, f, o, hxf, hxo, a, b, c, d, e, g, h, rfl, rfl, rfl⟩
      generalize spsT (specStopped w i k) = L1 at *
      generalize (specStopped w i k).2 = e1 at *
      unfold S6
      unfold tWa wa2 at q1' hM ⊢
      simp only [go_sem, Nat.reduceEqDiff, Nat.reduceAdd, Nat.reduceSub, Nat.reduceMul, Nat.reduceLT, Nat.reduceLeDiff, Nat.reduceMod, Nat.reduceDiv, Int.reduceToNat, Int.reduceLT, Int.reduceLE, Bool.not_true, Bool.not_false, reduceIte, Int.reduceEq, Int.reduceBEq, Int.reduceBNe, Int.reduceGT, Int.reduceGE, Int.reduceNeg, Int.reduceAdd, Int.reduceSub, Nat.reduceBEq, decide_true, decide_false, undef, beq_self_eq_true, bne_self_eq_false, Bool.and_true, Bool.true_and, Bool.and_false, Bool.false_and, Bool.or_true, Bool.true_or, Bool.or_false, Bool.false_or]
      refine ACallL.fresh1 q1' rfl ?_
      simp only [go_sem, Nat.reduceEqDiff, Nat.reduceAdd, Nat.reduceSub, Nat.reduceMul, Nat.reduceLT, Nat.reduceLeDiff, Nat.reduceMod, Nat.reduceDiv, Int.reduceToNat, Int.reduceLT, Int.reduceLE, Bool.not_true, Bool.not_false, reduceIte, Int.reduceEq, Int.reduceBEq, Int.reduceBNe, Int.reduceGT, Int.reduceGE, Int.reduceNeg, Int.reduceAdd, Int.reduceSub, Nat.reduceBEq, decide_true, decide_false, undef, beq_self_eq_true, bne_self_eq_false, Bool.and_true, Bool.true_and, Bool.and_false, Bool.false_and, Bool.or_true, Bool.true_or, Bool.or_false, Bool.false_or]
      exact hM _ rfl rfl rfl rfl rfl rfl rfl
  rintro ⟨env, σ, df, dk⟩ ⟨hw, i, k, f, o, hxf, hxo, p1, p2, p3, p4, p5, p6, p7, hσ, hdf, hk⟩
  simp only at p1 p2 p3 p4 p5 p6 p7 hσ hdf hk
  subst hσ hdf hk
  have hok := (w.ok_iff).2 hw
  rw [specStopped_at hok hxf hxo] at p6 p7
  have q2 := Fits_ok w i hL
  rw [specFits_at hok hxf] at q2
  have hn5 := hw.no
  have hf := hw.fs f (List.mem_of_getElem? hxf)
  have ho := hw.os o (List.mem_of_getElem? hxo)
  have hko := (List.getElem?_eq_some_iff.1 hxo).1
  have hfit := fitN_bit w.os f k
  rw [fitP_at hxo] at hfit
  have hflt : fitN w.os f < 2 ^ w.os.length := maskW_lt _ _
  have hf64 : fitN w.os f < 64 := by
    have : 2 ^ w.os.length ≤ 2 ^ 5 := Nat.pow_le_pow_right (by omega) hn5
    omega
  have hz : bits .and .i64 0 0 = 0 := by decide
  have hcan := fun m => can_ok w hL hw hxo f m
  have hto : tOw o = .agg [vi o.set_, vi o.lo, vi o.hi, vi o.huts] := rfl
  have htf : tFi f = .agg [vi f.hut, vi f.minute, vi f.lo, vi f.hi, vb f.stopped] := rfl
  unfold tWa wa2 at p1 q2 hcan
  rw [htf] at p4 hcan
  rw [hto] at p5
  generalize hA : w.os.map tOw = A at *
  generalize w.fs.map tFi = B at *
  have hl : A.length = w.os.length := by rw [← hA, List.length_map]
  have g1 : decide (((fitN w.os f : Nat) : Int) < 0) = false := decide_eq_false (by omega)
  have n1 : ((w.os.length : Int) < 0) = False := eq_false (by omega)
  have n2 : ((k : Int) < 0) = False := eq_false (by omega)
  have n3 : (f.hut < 0) = False := eq_false (by have := hf.hut; omega)
  have hsh : ((fitN w.os f : Nat) : Int).fdiv (2 ^ (min w.os.length 64)) = 0 := by
    rw [Nat.min_eq_left (by omega), Int.fdiv_eq_ediv_of_nonneg _ (by exact Int.le_of_lt (Int.pow_pos (by omega)))]
    have : ((2 : Int) ^ w.os.length) = ((2 ^ w.os.length : Nat) : Int) := by norm_cast
    rw [this]
    exact Int.ediv_eq_zero_of_lt (by omega) (by omega)
  have his : (bits .and .i64 (((fitN w.os f : Nat) : Int).fdiv (2 ^ (min k 64))) 1 == 1) = fitB o f := by
    have := bit_eq (a := fitN w.os f) (i := k) (by omega)
    rw [hfit] at this
    exact this
  have hbit : (bits .and .i64 (o.huts.fdiv (2 ^ (min f.hut.toNat 64))) 1 == 1) = hutB o f := by
    have h1 := ho.huts
    have h2 := hf.hut
    have := bit_eq (a := o.huts.toNat) (i := f.hut.toNat) (by omega)
    rw [show ((o.huts.toNat : Nat) : Int) = o.huts by omega] at this
    exact this
  generalize fitN w.os f = F at *
  have hN : ∀ b : Bool, ((if b = true then true else false) : Bool) = b := by decide
  cases hs : f.stopped
  · have hfb := fit_go (o := o) hf hs
    have hcm := hcan f.minute
    rw [hs] at p4 p6 p7 hcm
    have p6' : lk env 11 = .t (.lit (.slice none 0 0)) := p6
    have p7' : lk env 12 = .t (vi 11) := p7
    rw [hfb] at his
    cases hh : hutB o f
    · rw [hh] at his hbit
      simp only [go_sem, Nat.reduceEqDiff, Nat.reduceAdd, Nat.reduceSub, Nat.reduceMul, Nat.reduceLT, Nat.reduceLeDiff, Nat.reduceMod, Nat.reduceDiv, Int.reduceToNat, Int.reduceLT, Int.reduceLE, Bool.not_true, Bool.not_false, reduceIte, Int.reduceEq, Int.reduceBEq, Int.reduceBNe, Int.reduceGT, Int.reduceGE, Int.reduceNeg, Int.reduceAdd, Int.reduceSub, Nat.reduceBEq, decide_true, decide_false, undef, beq_self_eq_true, bne_self_eq_false, Bool.and_true, Bool.true_and, Bool.and_false, Bool.false_and, Bool.or_true, Bool.true_or, Bool.or_false, Bool.false_or, p1, p2, p3, p4, p5, p6', p7']
      refine ACallL.quiet1 q2 rfl rfl rfl ?_
      simp only [go_sem, Nat.reduceEqDiff, Nat.reduceAdd, Nat.reduceSub, Nat.reduceMul, Nat.reduceLT, Nat.reduceLeDiff, Nat.reduceMod, Nat.reduceDiv, Int.reduceToNat, Int.reduceLT, Int.reduceLE, Bool.not_true, Bool.not_false, reduceIte, Int.reduceEq, Int.reduceBEq, Int.reduceBNe, Int.reduceGT, Int.reduceGE, Int.reduceNeg, Int.reduceAdd, Int.reduceSub, Nat.reduceBEq, decide_true, decide_false, undef, beq_self_eq_true, bne_self_eq_false, Bool.and_true, Bool.true_and, Bool.and_false, Bool.false_and, Bool.or_true, Bool.true_or, Bool.or_false, Bool.false_or, oneE, p1, p2, p3, p4, p5, p6', p7', g1, n1, n2, n3, hl, hsh, IntKind.bits, his, hbit, Bool.false_and]
      refine ACallL.quiet1 alive_ok rfl rfl rfl ?_
      simp only [go_sem, Nat.reduceEqDiff, Nat.reduceAdd, Nat.reduceSub, Nat.reduceMul, Nat.reduceLT, Nat.reduceLeDiff, Nat.reduceMod, Nat.reduceDiv, Int.reduceToNat, Int.reduceLT, Int.reduceLE, Bool.not_true, Bool.not_false, reduceIte, Int.reduceEq, Int.reduceBEq, Int.reduceBNe, Int.reduceGT, Int.reduceGE, Int.reduceNeg, Int.reduceAdd, Int.reduceSub, Nat.reduceBEq, decide_true, decide_false, undef, beq_self_eq_true, bne_self_eq_false, Bool.and_true, Bool.true_and, Bool.and_false, Bool.false_and, Bool.or_true, Bool.true_or, Bool.or_false, Bool.false_or]
      exact finL_ret [] ⟨rfl, rfl, rfl, rfl, _, rfl, res_mk rfl⟩
    · rw [hh, Bool.true_and] at his
      rw [hh] at hbit
      generalize canB o f f.minute = c at *
      simp only [go_sem, Nat.reduceEqDiff, Nat.reduceAdd, Nat.reduceSub, Nat.reduceMul, Nat.reduceLT, Nat.reduceLeDiff, Nat.reduceMod, Nat.reduceDiv, Int.reduceToNat, Int.reduceLT, Int.reduceLE, Bool.not_true, Bool.not_false, reduceIte, Int.reduceEq, Int.reduceBEq, Int.reduceBNe, Int.reduceGT, Int.reduceGE, Int.reduceNeg, Int.reduceAdd, Int.reduceSub, Nat.reduceBEq, decide_true, decide_false, undef, beq_self_eq_true, bne_self_eq_false, Bool.and_true, Bool.true_and, Bool.and_false, Bool.false_and, Bool.or_true, Bool.true_or, Bool.or_false, Bool.false_or, p1, p2, p3, p4, p5, p6', p7']
      refine ACallL.quiet1 q2 rfl rfl rfl ?_
      simp only [go_sem, Nat.reduceEqDiff, Nat.reduceAdd, Nat.reduceSub, Nat.reduceMul, Nat.reduceLT, Nat.reduceLeDiff, Nat.reduceMod, Nat.reduceDiv, Int.reduceToNat, Int.reduceLT, Int.reduceLE, Bool.not_true, Bool.not_false, reduceIte, Int.reduceEq, Int.reduceBEq, Int.reduceBNe, Int.reduceGT, Int.reduceGE, Int.reduceNeg, Int.reduceAdd, Int.reduceSub, Nat.reduceBEq, decide_true, decide_false, undef, beq_self_eq_true, bne_self_eq_false, Bool.and_true, Bool.true_and, Bool.and_false, Bool.false_and, Bool.or_true, Bool.true_or, Bool.or_false, Bool.false_or, oneE, p1, p2, p3, p4, p5, p6', p7', g1, n1, n2, n3, hl, hsh, IntKind.bits, his, hbit]
      refine ACallL.quiet1 hcm rfl rfl rfl ?_
      have hcc : (c == c) = true := beq_self_eq_true c
      simp only [go_sem, Nat.reduceEqDiff, Nat.reduceAdd, Nat.reduceSub, Nat.reduceMul, Nat.reduceLT, Nat.reduceLeDiff, Nat.reduceMod, Nat.reduceDiv, Int.reduceToNat, Int.reduceLT, Int.reduceLE, Bool.not_true, Bool.not_false, reduceIte, Int.reduceEq, Int.reduceBEq, Int.reduceBNe, Int.reduceGT, Int.reduceGE, Int.reduceNeg, Int.reduceAdd, Int.reduceSub, Nat.reduceBEq, decide_true, decide_false, undef, beq_self_eq_true, bne_self_eq_false, Bool.and_true, Bool.true_and, Bool.and_false, Bool.false_and, Bool.or_true, Bool.true_or, Bool.or_false, Bool.false_or, hcc]
      refine ACallL.quiet1 alive_ok rfl rfl rfl ?_
      simp only [go_sem, Nat.reduceEqDiff, Nat.reduceAdd, Nat.reduceSub, Nat.reduceMul, Nat.reduceLT, Nat.reduceLeDiff, Nat.reduceMod, Nat.reduceDiv, Int.reduceToNat, Int.reduceLT, Int.reduceLE, Bool.not_true, Bool.not_false, reduceIte, Int.reduceEq, Int.reduceBEq, Int.reduceBNe, Int.reduceGT, Int.reduceGE, Int.reduceNeg, Int.reduceAdd, Int.reduceSub, Nat.reduceBEq, decide_true, decide_false, undef, beq_self_eq_true, bne_self_eq_false, Bool.and_true, Bool.true_and, Bool.and_false, Bool.false_and, Bool.or_true, Bool.true_or, Bool.or_false, Bool.false_or]
      exact finL_ret [] ⟨rfl, rfl, rfl, rfl, _, rfl, res_mk rfl⟩
  have hfb : fitB o f = !(minsL o f).isEmpty := rfl
  rw [hs] at p4 p6 p7 hcan
  rw [if_pos rfl] at p6 p7
  cases hh : hutB o f
  · rw [fit_no hh] at hfb p6 p7
    have p6' : lk env 11 = .t (.lit (.slice none 0 0)) := p6
    have p7' : lk env 12 = .t (vi 4) := p7
    rw [hfb] at his
    rw [hh] at hbit
    have his' : (bits .and .i64 (((F : Nat) : Int).fdiv (2 ^ (min k 64))) 1 == 1) = false := his
    simp only [go_sem, Nat.reduceEqDiff, Nat.reduceAdd, Nat.reduceSub, Nat.reduceMul, Nat.reduceLT, Nat.reduceLeDiff, Nat.reduceMod, Nat.reduceDiv, Int.reduceToNat, Int.reduceLT, Int.reduceLE, Bool.not_true, Bool.not_false, reduceIte, Int.reduceEq, Int.reduceBEq, Int.reduceBNe, Int.reduceGT, Int.reduceGE, Int.reduceNeg, Int.reduceAdd, Int.reduceSub, Nat.reduceBEq, decide_true, decide_false, undef, beq_self_eq_true, bne_self_eq_false, Bool.and_true, Bool.true_and, Bool.and_false, Bool.false_and, Bool.or_true, Bool.true_or, Bool.or_false, Bool.false_or, p1, p2, p3, p4, p5, p6', p7']
    refine ACallL.quiet1 q2 rfl rfl rfl ?_
    simp only [go_sem, Nat.reduceEqDiff, Nat.reduceAdd, Nat.reduceSub, Nat.reduceMul, Nat.reduceLT, Nat.reduceLeDiff, Nat.reduceMod, Nat.reduceDiv, Int.reduceToNat, Int.reduceLT, Int.reduceLE, Bool.not_true, Bool.not_false, reduceIte, Int.reduceEq, Int.reduceBEq, Int.reduceBNe, Int.reduceGT, Int.reduceGE, Int.reduceNeg, Int.reduceAdd, Int.reduceSub, Nat.reduceBEq, decide_true, decide_false, undef, beq_self_eq_true, bne_self_eq_false, Bool.and_true, Bool.true_and, Bool.and_false, Bool.false_and, Bool.or_true, Bool.true_or, Bool.or_false, Bool.false_or, oneE, p1, p2, p3, p4, p5, p6', p7', g1, n1, n2, n3, hl, hsh, IntKind.bits, his', hbit]
    refine ACallL.quiet1 alive_ok rfl rfl rfl ?_
    simp only [go_sem, Nat.reduceEqDiff, Nat.reduceAdd, Nat.reduceSub, Nat.reduceMul, Nat.reduceLT, Nat.reduceLeDiff, Nat.reduceMod, Nat.reduceDiv, Int.reduceToNat, Int.reduceLT, Int.reduceLE, Bool.not_true, Bool.not_false, reduceIte, Int.reduceEq, Int.reduceBEq, Int.reduceBNe, Int.reduceGT, Int.reduceGE, Int.reduceNeg, Int.reduceAdd, Int.reduceSub, Nat.reduceBEq, decide_true, decide_false, undef, beq_self_eq_true, bne_self_eq_false, Bool.and_true, Bool.true_and, Bool.and_false, Bool.false_and, Bool.or_true, Bool.true_or, Bool.or_false, Bool.false_or]
    exact finL_ret [] ⟨rfl, rfl, rfl, rfl, _, rfl, res_mk rfl⟩
  rw [hh] at hbit
  have hstop := fun x => @canB_stop o ho f hf hs hh x
  have hmem := fun x => @stop_mem o f hs x
  have hpw := minsL_pw o f
  have hlen := minsL_len o ho f hf
  generalize minsL o f = L at *
  by_cases hne : L = []
  · subst hne
    have p6' : lk env 11 = .t (.lit (.slice none 0 0)) := p6
    have p7' : lk env 12 = .t (vi 4) := p7
    rw [hfb] at his
    have his' : (bits .and .i64 (((F : Nat) : Int).fdiv (2 ^ (min k 64))) 1 == 1) = false := his
    have hcm := hcan f.minute
    have hc0 : canB o f f.minute = false := by
      cases hc : canB o f f.minute
      · rfl
      · have := (hstop f.minute (by omega)).1 hc
        cases this
    rw [hc0] at hcm
    simp only [go_sem, Nat.reduceEqDiff, Nat.reduceAdd, Nat.reduceSub, Nat.reduceMul, Nat.reduceLT, Nat.reduceLeDiff, Nat.reduceMod, Nat.reduceDiv, Int.reduceToNat, Int.reduceLT, Int.reduceLE, Bool.not_true, Bool.not_false, reduceIte, Int.reduceEq, Int.reduceBEq, Int.reduceBNe, Int.reduceGT, Int.reduceGE, Int.reduceNeg, Int.reduceAdd, Int.reduceSub, Nat.reduceBEq, decide_true, decide_false, undef, beq_self_eq_true, bne_self_eq_false, Bool.and_true, Bool.true_and, Bool.and_false, Bool.false_and, Bool.or_true, Bool.true_or, Bool.or_false, Bool.false_or, p1, p2, p3, p4, p5, p6', p7']
    refine ACallL.quiet1 q2 rfl rfl rfl ?_
    simp only [go_sem, Nat.reduceEqDiff, Nat.reduceAdd, Nat.reduceSub, Nat.reduceMul, Nat.reduceLT, Nat.reduceLeDiff, Nat.reduceMod, Nat.reduceDiv, Int.reduceToNat, Int.reduceLT, Int.reduceLE, Bool.not_true, Bool.not_false, reduceIte, Int.reduceEq, Int.reduceBEq, Int.reduceBNe, Int.reduceGT, Int.reduceGE, Int.reduceNeg, Int.reduceAdd, Int.reduceSub, Nat.reduceBEq, decide_true, decide_false, undef, beq_self_eq_true, bne_self_eq_false, Bool.and_true, Bool.true_and, Bool.and_false, Bool.false_and, Bool.or_true, Bool.true_or, Bool.or_false, Bool.false_or, oneE, p1, p2, p3, p4, p5, p6', p7', g1, n1, n2, n3, hl, hsh, IntKind.bits, his', hbit]
    refine ACallL.quiet1 hcm rfl rfl rfl ?_
    simp only [go_sem, Nat.reduceEqDiff, Nat.reduceAdd, Nat.reduceSub, Nat.reduceMul, Nat.reduceLT, Nat.reduceLeDiff, Nat.reduceMod, Nat.reduceDiv, Int.reduceToNat, Int.reduceLT, Int.reduceLE, Bool.not_true, Bool.not_false, reduceIte, Int.reduceEq, Int.reduceBEq, Int.reduceBNe, Int.reduceGT, Int.reduceGE, Int.reduceNeg, Int.reduceAdd, Int.reduceSub, Nat.reduceBEq, decide_true, decide_false, undef, beq_self_eq_true, bne_self_eq_false, Bool.and_true, Bool.true_and, Bool.and_false, Bool.false_and, Bool.or_true, Bool.true_or, Bool.or_false, Bool.false_or]
    refine ACallL.quiet1 alive_ok rfl rfl rfl ?_
    simp only [go_sem, Nat.reduceEqDiff, Nat.reduceAdd, Nat.reduceSub, Nat.reduceMul, Nat.reduceLT, Nat.reduceLeDiff, Nat.reduceMod, Nat.reduceDiv, Int.reduceToNat, Int.reduceLT, Int.reduceLE, Bool.not_true, Bool.not_false, reduceIte, Int.reduceEq, Int.reduceBEq, Int.reduceBNe, Int.reduceGT, Int.reduceGE, Int.reduceNeg, Int.reduceAdd, Int.reduceSub, Nat.reduceBEq, decide_true, decide_false, undef, beq_self_eq_true, bne_self_eq_false, Bool.and_true, Bool.true_and, Bool.and_false, Bool.false_and, Bool.or_true, Bool.true_or, Bool.or_false, Bool.false_or]
    exact finL_ret [] ⟨rfl, rfl, rfl, rfl, _, rfl, res_mk rfl⟩
  rw [if_neg hne] at p6 p7
  have hX := spans_P hpw
  have hXl := spansL_len L
  have hXp := spansL_pos hne
  have hf1 : fitB o f = true := by
    rw [hfb]
    cases L with
    | nil => exact absurd rfl hne
    | cons _ _ => rfl
  rw [hf1] at his
  generalize spansL L = X at *
  have p6' : lk env 11 = .t (.slice 2 (tSps X)) := p6
  have p7' : lk env 12 = .t (vi 0) := p7
  clear p6 p7
  have hXn : ((X.length : Int) == 0) = false := beq_false_of_ne (by omega)
  have hlX : (tSps X).length = X.length := by unfold tSps; rw [List.length_map]
  simp only [go_sem, Nat.reduceEqDiff, Nat.reduceAdd, Nat.reduceSub, Nat.reduceMul, Nat.reduceLT, Nat.reduceLeDiff, Nat.reduceMod, Nat.reduceDiv, Int.reduceToNat, Int.reduceLT, Int.reduceLE, Bool.not_true, Bool.not_false, reduceIte, Int.reduceEq, Int.reduceBEq, Int.reduceBNe, Int.reduceGT, Int.reduceGE, Int.reduceNeg, Int.reduceAdd, Int.reduceSub, Nat.reduceBEq, decide_true, decide_false, undef, beq_self_eq_true, bne_self_eq_false, Bool.and_true, Bool.true_and, Bool.and_false, Bool.false_and, Bool.or_true, Bool.true_or, Bool.or_false, Bool.false_or, p1, p2, p3, p4, p5, p6', p7']
  refine ACallL.quiet1 q2 rfl rfl rfl ?_
  simp only [go_sem, Nat.reduceEqDiff, Nat.reduceAdd, Nat.reduceSub, Nat.reduceMul, Nat.reduceLT, Nat.reduceLeDiff, Nat.reduceMod, Nat.reduceDiv, Int.reduceToNat, Int.reduceLT, Int.reduceLE, Bool.not_true, Bool.not_false, reduceIte, Int.reduceEq, Int.reduceBEq, Int.reduceBNe, Int.reduceGT, Int.reduceGE, Int.reduceNeg, Int.reduceAdd, Int.reduceSub, Nat.reduceBEq, decide_true, decide_false, undef, beq_self_eq_true, bne_self_eq_false, Bool.and_true, Bool.true_and, Bool.and_false, Bool.false_and, Bool.or_true, Bool.true_or, Bool.or_false, Bool.false_or, oneE, p1, p2, p3, p4, p5, p6', p7', g1, n1, n2, n3, hl, hsh, IntKind.bits, his, hbit, hXn, hlX, List.length_map]
  refine awpL_loopK X.length (fun j s => s = { env := [(166, .t (vi j)), (9, .t (.ptr (.agg [vi f.hut, vi f.minute, vi f.lo, vi f.hi, vb true]) 0)), (10, .t (.ptr (.agg [vi o.set_, vi o.lo, vi o.hi, vi o.huts]) 0)), (11, .t (.slice 2 (tSps X))), (16, .t (.fn (.func 29) [] [.ptr (.agg [.slice 4 A, .slice 5 B]) 0, .ptr (.agg [vi k]) 0, .ptr (.agg [vi f.hut, vi f.minute, vi f.lo, vi f.hi, vb true]) 0])), (164, .t (.slice 2 (tSps X))), (165, .t (vi X.length))], σ := [] })
    ⟨_, Sub.gc [] [166, 9, 10, 11, 16, 164, 165] rfl rfl, St.gc_mk (by simp only [List.map_cons, List.map_nil, lk, Nat.reduceEqDiff, reduceIte, p4, p5, p6']; rfl) rfl rfl rfl⟩ ?_
  rintro j s hj rfl
  have hj0 : ((j : Int) < 0) = False := eq_false (by omega)
  cases g : decide ((j : Int) < X.length)
  · simp only [go_sem, Nat.reduceEqDiff, Nat.reduceAdd, Nat.reduceSub, Nat.reduceMul, Nat.reduceLT, Nat.reduceLeDiff, Nat.reduceMod, Nat.reduceDiv, Int.reduceToNat, Int.reduceLT, Int.reduceLE, Bool.not_true, Bool.not_false, reduceIte, Int.reduceEq, Int.reduceBEq, Int.reduceBNe, Int.reduceGT, Int.reduceGE, Int.reduceNeg, Int.reduceAdd, Int.reduceSub, Nat.reduceBEq, decide_true, decide_false, undef, beq_self_eq_true, bne_self_eq_false, Bool.and_true, Bool.true_and, Bool.and_false, Bool.false_and, Bool.or_true, Bool.true_or, Bool.or_false, Bool.false_or, g]
    refine ACallL.quiet1 alive_ok rfl rfl rfl ?_
    simp only [go_sem, Nat.reduceEqDiff, Nat.reduceAdd, Nat.reduceSub, Nat.reduceMul, Nat.reduceLT, Nat.reduceLeDiff, Nat.reduceMod, Nat.reduceDiv, Int.reduceToNat, Int.reduceLT, Int.reduceLE, Bool.not_true, Bool.not_false, reduceIte, Int.reduceEq, Int.reduceBEq, Int.reduceBNe, Int.reduceGT, Int.reduceGE, Int.reduceNeg, Int.reduceAdd, Int.reduceSub, Nat.reduceBEq, decide_true, decide_false, undef, beq_self_eq_true, bne_self_eq_false, Bool.and_true, Bool.true_and, Bool.and_false, Bool.false_and, Bool.or_true, Bool.true_or, Bool.or_false, Bool.false_or]
    exact finL_ret [] ⟨rfl, rfl, rfl, rfl, _, rfl, res_mk rfl⟩
  have hjl : j < X.length := by have := of_decide_eq_true g; omega
  have hxj : X[j]? = some X[j] := List.getElem?_eq_getElem hjl
  have hp := hX.each _ (List.getElem_mem hjl)
  have hprev : 0 < j → ∃ y, X[j - 1]? = some y ∧ y.2 + 1 < X[j].1 := fun h => ⟨_, List.getElem?_eq_getElem (by omega), (List.pairwise_iff_getElem.1 hX.apart) (j - 1) j (by omega) hjl (by omega)⟩
  generalize X[j] = p at *
  obtain ⟨a, b⟩ := p
  obtain ⟨e1, e2, e3, e4⟩ := hp
  simp only at e1 e2 e3 e4 hprev
  have hma := (hmem a).1 (e2 a (by omega) e1)
  have hmb := (hmem b).1 (e2 b e1 (by omega))
  have hset := ho.set_
  have hmin := hf.minute
  have hmid : (a + b).tdiv 2 = (a + b) / 2 := Int.tdiv_eq_ediv_of_nonneg (by omega)
  have r1 : canB o f a = true := (hstop a (by omega)).2 (e2 a (by omega) e1)
  have r2 : canB o f b = true := (hstop b (by omega)).2 (e2 b e1 (by omega))
  have r3 : canB o f ((a + b) / 2) = true := (hstop _ (by omega)).2 (e2 _ (by omega) (by omega))
  have r4 : canB o f (a - 1) = false := by
    cases hc : canB o f (a - 1)
    · rfl
    · exact absurd ((hstop _ (by omega)).1 hc) e3
  have r5 : b < f.minute → canB o f (b + 1) = false := fun h => by
    cases hc : canB o f (b + 1)
    · rfl
    · exact absurd ((hstop _ (by omega)).1 hc) e4
  have c1 := hcan a
  have c2 := hcan b
  have c3 := hcan ((a + b) / 2)
  have c4 := hcan (a - 1)
  have c5 := hcan (b + 1)
  rw [r1] at c1
  rw [r2] at c2
  rw [r3] at c3
  rw [r4] at c4
  have wj : IntKind.i64.wrap ((j : Int) + 1) = ((j + 1 : Nat) : Int) := by rw [wrap_id (by omega) (by omega)]; omega
  have d1 : decide (a > b) = false := decide_eq_false (by omega)
  have d2 : decide (a < o.set_) = false := decide_eq_false (by omega)
  have d3 : decide (b > f.minute) = false := decide_eq_false (by omega)
  have wa1 : IntKind.i64.wrap (a + b) = a + b := wrap_id (by omega) (by omega)
  have wa2 : IntKind.i64.wrap ((a + b) / 2) = (a + b) / 2 := wrap_id (by omega) (by omega)
  have wa3 : IntKind.i64.wrap (a - 1) = a - 1 := wrap_id (by omega) (by omega)
  have wa4 : IntKind.i64.wrap (b + 1) = b + 1 := wrap_id (by omega) (by omega)
  have n22 : ((2 : Int) = 0) = False := eq_false (by omega)
  have htj : (tSps X)[j]? = some (.agg [vi a, vi b]) := by unfold tSps; rw [List.getElem?_map, hxj]; rfl
  have hpm : ∃ d6 : Bool, decide ((j : Int) > 0) = d6 ∧ (d6 = true → ∃ y : Int × Int, (tSps X)[j - 1]? = some (.agg [vi y.1, vi y.2]) ∧ decide (a ≤ IntKind.i64.wrap (y.2 + 1)) = false) := by
    refine ⟨_, rfl, fun h => ?_⟩
    have hj1 : 0 < j := by have := of_decide_eq_true h; omega
    obtain ⟨y, hy, hlt⟩ := hprev hj1
    have hby := (hmem y.2).1 ((hX.each y (List.mem_of_getElem? hy)).2.1 y.2 (hX.each y (List.mem_of_getElem? hy)).1 (by omega))
    refine ⟨y, by unfold tSps; rw [List.getElem?_map, hy]; rfl, decide_eq_false ?_⟩
    rw [wrap_id (by omega) (by omega)]
    omega
  obtain ⟨d6, hd6, hd6'⟩ := hpm
  cases d6
  · cases d7 : decide (b < f.minute)
    · simp only [go_sem, Nat.reduceEqDiff, Nat.reduceAdd, Nat.reduceSub, Nat.reduceMul, Nat.reduceLT, Nat.reduceLeDiff, Nat.reduceMod, Nat.reduceDiv, Int.reduceToNat, Int.reduceLT, Int.reduceLE, Bool.not_true, Bool.not_false, reduceIte, Int.reduceEq, Int.reduceBEq, Int.reduceBNe, Int.reduceGT, Int.reduceGE, Int.reduceNeg, Int.reduceAdd, Int.reduceSub, Nat.reduceBEq, decide_true, decide_false, undef, beq_self_eq_true, bne_self_eq_false, Bool.and_true, Bool.true_and, Bool.and_false, Bool.false_and, Bool.or_true, Bool.true_or, Bool.or_false, Bool.false_or, g, hj0, htj, d1, d2, d3, hd6, wa1, wa2, wa3, wa4, hmid, n22]
      refine ACallL.quiet1 c1 rfl rfl rfl ?_
      simp only [go_sem, Nat.reduceEqDiff, Nat.reduceAdd, Nat.reduceSub, Nat.reduceMul, Nat.reduceLT, Nat.reduceLeDiff, Nat.reduceMod, Nat.reduceDiv, Int.reduceToNat, Int.reduceLT, Int.reduceLE, Bool.not_true, Bool.not_false, reduceIte, Int.reduceEq, Int.reduceBEq, Int.reduceBNe, Int.reduceGT, Int.reduceGE, Int.reduceNeg, Int.reduceAdd, Int.reduceSub, Nat.reduceBEq, decide_true, decide_false, undef, beq_self_eq_true, bne_self_eq_false, Bool.and_true, Bool.true_and, Bool.and_false, Bool.false_and, Bool.or_true, Bool.true_or, Bool.or_false, Bool.false_or]
      refine ACallL.quiet1 c2 rfl rfl rfl ?_
      simp only [go_sem, Nat.reduceEqDiff, Nat.reduceAdd, Nat.reduceSub, Nat.reduceMul, Nat.reduceLT, Nat.reduceLeDiff, Nat.reduceMod, Nat.reduceDiv, Int.reduceToNat, Int.reduceLT, Int.reduceLE, Bool.not_true, Bool.not_false, reduceIte, Int.reduceEq, Int.reduceBEq, Int.reduceBNe, Int.reduceGT, Int.reduceGE, Int.reduceNeg, Int.reduceAdd, Int.reduceSub, Nat.reduceBEq, decide_true, decide_false, undef, beq_self_eq_true, bne_self_eq_false, Bool.and_true, Bool.true_and, Bool.and_false, Bool.false_and, Bool.or_true, Bool.true_or, Bool.or_false, Bool.false_or, wa1, wa2, wa3, wa4, hmid, n22]
      refine ACallL.quiet1 c3 rfl rfl rfl ?_
      simp only [go_sem, Nat.reduceEqDiff, Nat.reduceAdd, Nat.reduceSub, Nat.reduceMul, Nat.reduceLT, Nat.reduceLeDiff, Nat.reduceMod, Nat.reduceDiv, Int.reduceToNat, Int.reduceLT, Int.reduceLE, Bool.not_true, Bool.not_false, reduceIte, Int.reduceEq, Int.reduceBEq, Int.reduceBNe, Int.reduceGT, Int.reduceGE, Int.reduceNeg, Int.reduceAdd, Int.reduceSub, Nat.reduceBEq, decide_true, decide_false, undef, beq_self_eq_true, bne_self_eq_false, Bool.and_true, Bool.true_and, Bool.and_false, Bool.false_and, Bool.or_true, Bool.true_or, Bool.or_false, Bool.false_or, wa1, wa2, wa3, wa4, hmid, n22]
      refine ACallL.quiet1 c4 rfl rfl rfl ?_
      simp only [go_sem, Nat.reduceEqDiff, Nat.reduceAdd, Nat.reduceSub, Nat.reduceMul, Nat.reduceLT, Nat.reduceLeDiff, Nat.reduceMod, Nat.reduceDiv, Int.reduceToNat, Int.reduceLT, Int.reduceLE, Bool.not_true, Bool.not_false, reduceIte, Int.reduceEq, Int.reduceBEq, Int.reduceBNe, Int.reduceGT, Int.reduceGE, Int.reduceNeg, Int.reduceAdd, Int.reduceSub, Nat.reduceBEq, decide_true, decide_false, undef, beq_self_eq_true, bne_self_eq_false, Bool.and_true, Bool.true_and, Bool.and_false, Bool.false_and, Bool.or_true, Bool.true_or, Bool.or_false, Bool.false_or, d7, wj]
      exact ⟨hjl, _, Sub.gc [] [166, 9, 10, 11, 16, 164, 165] rfl rfl, St.gc_mk rfl rfl rfl rfl⟩
    · rw [r5 (of_decide_eq_true d7)] at c5
      simp only [go_sem, Nat.reduceEqDiff, Nat.reduceAdd, Nat.reduceSub, Nat.reduceMul, Nat.reduceLT, Nat.reduceLeDiff, Nat.reduceMod, Nat.reduceDiv, Int.reduceToNat, Int.reduceLT, Int.reduceLE, Bool.not_true, Bool.not_false, reduceIte, Int.reduceEq, Int.reduceBEq, Int.reduceBNe, Int.reduceGT, Int.reduceGE, Int.reduceNeg, Int.reduceAdd, Int.reduceSub, Nat.reduceBEq, decide_true, decide_false, undef, beq_self_eq_true, bne_self_eq_false, Bool.and_true, Bool.true_and, Bool.and_false, Bool.false_and, Bool.or_true, Bool.true_or, Bool.or_false, Bool.false_or, g, hj0, htj, d1, d2, d3, hd6, wa1, wa2, wa3, wa4, hmid, n22]
      refine ACallL.quiet1 c1 rfl rfl rfl ?_
      simp only [go_sem, Nat.reduceEqDiff, Nat.reduceAdd, Nat.reduceSub, Nat.reduceMul, Nat.reduceLT, Nat.reduceLeDiff, Nat.reduceMod, Nat.reduceDiv, Int.reduceToNat, Int.reduceLT, Int.reduceLE, Bool.not_true, Bool.not_false, reduceIte, Int.reduceEq, Int.reduceBEq, Int.reduceBNe, Int.reduceGT, Int.reduceGE, Int.reduceNeg, Int.reduceAdd, Int.reduceSub, Nat.reduceBEq, decide_true, decide_false, undef, beq_self_eq_true, bne_self_eq_false, Bool.and_true, Bool.true_and, Bool.and_false, Bool.false_and, Bool.or_true, Bool.true_or, Bool.or_false, Bool.false_or]
      refine ACallL.quiet1 c2 rfl rfl rfl ?_
      simp only [go_sem, Nat.reduceEqDiff, Nat.reduceAdd, Nat.reduceSub, Nat.reduceMul, Nat.reduceLT, Nat.reduceLeDiff, Nat.reduceMod, Nat.reduceDiv, Int.reduceToNat, Int.reduceLT, Int.reduceLE, Bool.not_true, Bool.not_false, reduceIte, Int.reduceEq, Int.reduceBEq, Int.reduceBNe, Int.reduceGT, Int.reduceGE, Int.reduceNeg, Int.reduceAdd, Int.reduceSub, Nat.reduceBEq, decide_true, decide_false, undef, beq_self_eq_true, bne_self_eq_false, Bool.and_true, Bool.true_and, Bool.and_false, Bool.false_and, Bool.or_true, Bool.true_or, Bool.or_false, Bool.false_or, wa1, wa2, wa3, wa4, hmid, n22]
      refine ACallL.quiet1 c3 rfl rfl rfl ?_
      simp only [go_sem, Nat.reduceEqDiff, Nat.reduceAdd, Nat.reduceSub, Nat.reduceMul, Nat.reduceLT, Nat.reduceLeDiff, Nat.reduceMod, Nat.reduceDiv, Int.reduceToNat, Int.reduceLT, Int.reduceLE, Bool.not_true, Bool.not_false, reduceIte, Int.reduceEq, Int.reduceBEq, Int.reduceBNe, Int.reduceGT, Int.reduceGE, Int.reduceNeg, Int.reduceAdd, Int.reduceSub, Nat.reduceBEq, decide_true, decide_false, undef, beq_self_eq_true, bne_self_eq_false, Bool.and_true, Bool.true_and, Bool.and_false, Bool.false_and, Bool.or_true, Bool.true_or, Bool.or_false, Bool.false_or, wa1, wa2, wa3, wa4, hmid, n22]
      refine ACallL.quiet1 c4 rfl rfl rfl ?_
      simp only [go_sem, Nat.reduceEqDiff, Nat.reduceAdd, Nat.reduceSub, Nat.reduceMul, Nat.reduceLT, Nat.reduceLeDiff, Nat.reduceMod, Nat.reduceDiv, Int.reduceToNat, Int.reduceLT, Int.reduceLE, Bool.not_true, Bool.not_false, reduceIte, Int.reduceEq, Int.reduceBEq, Int.reduceBNe, Int.reduceGT, Int.reduceGE, Int.reduceNeg, Int.reduceAdd, Int.reduceSub, Nat.reduceBEq, decide_true, decide_false, undef, beq_self_eq_true, bne_self_eq_false, Bool.and_true, Bool.true_and, Bool.and_false, Bool.false_and, Bool.or_true, Bool.true_or, Bool.or_false, Bool.false_or, d7, wa4]
      refine ACallL.quiet1 c5 rfl rfl rfl ?_
      simp only [go_sem, Nat.reduceEqDiff, Nat.reduceAdd, Nat.reduceSub, Nat.reduceMul, Nat.reduceLT, Nat.reduceLeDiff, Nat.reduceMod, Nat.reduceDiv, Int.reduceToNat, Int.reduceLT, Int.reduceLE, Bool.not_true, Bool.not_false, reduceIte, Int.reduceEq, Int.reduceBEq, Int.reduceBNe, Int.reduceGT, Int.reduceGE, Int.reduceNeg, Int.reduceAdd, Int.reduceSub, Nat.reduceBEq, decide_true, decide_false, undef, beq_self_eq_true, bne_self_eq_false, Bool.and_true, Bool.true_and, Bool.and_false, Bool.false_and, Bool.or_true, Bool.true_or, Bool.or_false, Bool.false_or, wj]
      exact ⟨hjl, _, Sub.gc [] [166, 9, 10, 11, 16, 164, 165] rfl rfl, St.gc_mk rfl rfl rfl rfl⟩
  · obtain ⟨y, hy, hd8⟩ := hd6' rfl
    have wj1 : IntKind.i64.wrap ((j : Int) - 1) = ((j - 1 : Nat) : Int) := by have := of_decide_eq_true hd6; rw [wrap_id (by omega) (by omega)]; omega
    have hj10 : (((j - 1 : Nat) : Int) < 0) = False := eq_false (by omega)
    cases d7 : decide (b < f.minute)
    · simp only [go_sem, Nat.reduceEqDiff, Nat.reduceAdd, Nat.reduceSub, Nat.reduceMul, Nat.reduceLT, Nat.reduceLeDiff, Nat.reduceMod, Nat.reduceDiv, Int.reduceToNat, Int.reduceLT, Int.reduceLE, Bool.not_true, Bool.not_false, reduceIte, Int.reduceEq, Int.reduceBEq, Int.reduceBNe, Int.reduceGT, Int.reduceGE, Int.reduceNeg, Int.reduceAdd, Int.reduceSub, Nat.reduceBEq, decide_true, decide_false, undef, beq_self_eq_true, bne_self_eq_false, Bool.and_true, Bool.true_and, Bool.and_false, Bool.false_and, Bool.or_true, Bool.true_or, Bool.or_false, Bool.false_or, g, hj0, hj10, htj, hy, d1, d2, d3, hd6, hd8, wj1, wa1, wa2, wa3, wa4, hmid, n22]
      refine ACallL.quiet1 c1 rfl rfl rfl ?_
      simp only [go_sem, Nat.reduceEqDiff, Nat.reduceAdd, Nat.reduceSub, Nat.reduceMul, Nat.reduceLT, Nat.reduceLeDiff, Nat.reduceMod, Nat.reduceDiv, Int.reduceToNat, Int.reduceLT, Int.reduceLE, Bool.not_true, Bool.not_false, reduceIte, Int.reduceEq, Int.reduceBEq, Int.reduceBNe, Int.reduceGT, Int.reduceGE, Int.reduceNeg, Int.reduceAdd, Int.reduceSub, Nat.reduceBEq, decide_true, decide_false, undef, beq_self_eq_true, bne_self_eq_false, Bool.and_true, Bool.true_and, Bool.and_false, Bool.false_and, Bool.or_true, Bool.true_or, Bool.or_false, Bool.false_or, hy, hj10, wj1, hd8]
      refine ACallL.quiet1 c2 rfl rfl rfl ?_
      simp only [go_sem, Nat.reduceEqDiff, Nat.reduceAdd, Nat.reduceSub, Nat.reduceMul, Nat.reduceLT, Nat.reduceLeDiff, Nat.reduceMod, Nat.reduceDiv, Int.reduceToNat, Int.reduceLT, Int.reduceLE, Bool.not_true, Bool.not_false, reduceIte, Int.reduceEq, Int.reduceBEq, Int.reduceBNe, Int.reduceGT, Int.reduceGE, Int.reduceNeg, Int.reduceAdd, Int.reduceSub, Nat.reduceBEq, decide_true, decide_false, undef, beq_self_eq_true, bne_self_eq_false, Bool.and_true, Bool.true_and, Bool.and_false, Bool.false_and, Bool.or_true, Bool.true_or, Bool.or_false, Bool.false_or, hy, hj10, wj1, hd8, wa1, wa2, wa3, wa4, hmid, n22]
      refine ACallL.quiet1 c3 rfl rfl rfl ?_
      simp only [go_sem, Nat.reduceEqDiff, Nat.reduceAdd, Nat.reduceSub, Nat.reduceMul, Nat.reduceLT, Nat.reduceLeDiff, Nat.reduceMod, Nat.reduceDiv, Int.reduceToNat, Int.reduceLT, Int.reduceLE, Bool.not_true, Bool.not_false, reduceIte, Int.reduceEq, Int.reduceBEq, Int.reduceBNe, Int.reduceGT, Int.reduceGE, Int.reduceNeg, Int.reduceAdd, Int.reduceSub, Nat.reduceBEq, decide_true, decide_false, undef, beq_self_eq_true, bne_self_eq_false, Bool.and_true, Bool.true_and, Bool.and_false, Bool.false_and, Bool.or_true, Bool.true_or, Bool.or_false, Bool.false_or, hy, hj10, wj1, hd8, wa1, wa2, wa3, wa4, hmid, n22]
      refine ACallL.quiet1 c4 rfl rfl rfl ?_
      simp only [go_sem, Nat.reduceEqDiff, Nat.reduceAdd, Nat.reduceSub, Nat.reduceMul, Nat.reduceLT, Nat.reduceLeDiff, Nat.reduceMod, Nat.reduceDiv, Int.reduceToNat, Int.reduceLT, Int.reduceLE, Bool.not_true, Bool.not_false, reduceIte, Int.reduceEq, Int.reduceBEq, Int.reduceBNe, Int.reduceGT, Int.reduceGE, Int.reduceNeg, Int.reduceAdd, Int.reduceSub, Nat.reduceBEq, decide_true, decide_false, undef, beq_self_eq_true, bne_self_eq_false, Bool.and_true, Bool.true_and, Bool.and_false, Bool.false_and, Bool.or_true, Bool.true_or, Bool.or_false, Bool.false_or, hy, hj10, wj1, hd8, d7, wj]
      exact ⟨hjl, _, Sub.gc [] [166, 9, 10, 11, 16, 164, 165] rfl rfl, St.gc_mk rfl rfl rfl rfl⟩
    · rw [r5 (of_decide_eq_true d7)] at c5
      simp only [go_sem, Nat.reduceEqDiff, Nat.reduceAdd, Nat.reduceSub, Nat.reduceMul, Nat.reduceLT, Nat.reduceLeDiff, Nat.reduceMod, Nat.reduceDiv, Int.reduceToNat, Int.reduceLT, Int.reduceLE, Bool.not_true, Bool.not_false, reduceIte, Int.reduceEq, Int.reduceBEq, Int.reduceBNe, Int.reduceGT, Int.reduceGE, Int.reduceNeg, Int.reduceAdd, Int.reduceSub, Nat.reduceBEq, decide_true, decide_false, undef, beq_self_eq_true, bne_self_eq_false, Bool.and_true, Bool.true_and, Bool.and_false, Bool.false_and, Bool.or_true, Bool.true_or, Bool.or_false, Bool.false_or, g, hj0, hj10, htj, hy, d1, d2, d3, hd6, hd8, wj1, wa1, wa2, wa3, wa4, hmid, n22]
      refine ACallL.quiet1 c1 rfl rfl rfl ?_
      simp only [go_sem, Nat.reduceEqDiff, Nat.reduceAdd, Nat.reduceSub, Nat.reduceMul, Nat.reduceLT, Nat.reduceLeDiff, Nat.reduceMod, Nat.reduceDiv, Int.reduceToNat, Int.reduceLT, Int.reduceLE, Bool.not_true, Bool.not_false, reduceIte, Int.reduceEq, Int.reduceBEq, Int.reduceBNe, Int.reduceGT, Int.reduceGE, Int.reduceNeg, Int.reduceAdd, Int.reduceSub, Nat.reduceBEq, decide_true, decide_false, undef, beq_self_eq_true, bne_self_eq_false, Bool.and_true, Bool.true_and, Bool.and_false, Bool.false_and, Bool.or_true, Bool.true_or, Bool.or_false, Bool.false_or, hy, hj10, wj1, hd8]
      refine ACallL.quiet1 c2 rfl rfl rfl ?_
      simp only [go_sem, Nat.reduceEqDiff, Nat.reduceAdd, Nat.reduceSub, Nat.reduceMul, Nat.reduceLT, Nat.reduceLeDiff, Nat.reduceMod, Nat.reduceDiv, Int.reduceToNat, Int.reduceLT, Int.reduceLE, Bool.not_true, Bool.not_false, reduceIte, Int.reduceEq, Int.reduceBEq, Int.reduceBNe, Int.reduceGT, Int.reduceGE, Int.reduceNeg, Int.reduceAdd, Int.reduceSub, Nat.reduceBEq, decide_true, decide_false, undef, beq_self_eq_true, bne_self_eq_false, Bool.and_true, Bool.true_and, Bool.and_false, Bool.false_and, Bool.or_true, Bool.true_or, Bool.or_false, Bool.false_or, hy, hj10, wj1, hd8, wa1, wa2, wa3, wa4, hmid, n22]
      refine ACallL.quiet1 c3 rfl rfl rfl ?_
      simp only [go_sem, Nat.reduceEqDiff, Nat.reduceAdd, Nat.reduceSub, Nat.reduceMul, Nat.reduceLT, Nat.reduceLeDiff, Nat.reduceMod, Nat.reduceDiv, Int.reduceToNat, Int.reduceLT, Int.reduceLE, Bool.not_true, Bool.not_false, reduceIte, Int.reduceEq, Int.reduceBEq, Int.reduceBNe, Int.reduceGT, Int.reduceGE, Int.reduceNeg, Int.reduceAdd, Int.reduceSub, Nat.reduceBEq, decide_true, decide_false, undef, beq_self_eq_true, bne_self_eq_false, Bool.and_true, Bool.true_and, Bool.and_false, Bool.false_and, Bool.or_true, Bool.true_or, Bool.or_false, Bool.false_or, hy, hj10, wj1, hd8, wa1, wa2, wa3, wa4, hmid, n22]
      refine ACallL.quiet1 c4 rfl rfl rfl ?_
      simp only [go_sem, Nat.reduceEqDiff, Nat.reduceAdd, Nat.reduceSub, Nat.reduceMul, Nat.reduceLT, Nat.reduceLeDiff, Nat.reduceMod, Nat.reduceDiv, Int.reduceToNat, Int.reduceLT, Int.reduceLE, Bool.not_true, Bool.not_false, reduceIte, Int.reduceEq, Int.reduceBEq, Int.reduceBNe, Int.reduceGT, Int.reduceGE, Int.reduceNeg, Int.reduceAdd, Int.reduceSub, Nat.reduceBEq, decide_true, decide_false, undef, beq_self_eq_true, bne_self_eq_false, Bool.and_true, Bool.true_and, Bool.and_false, Bool.false_and, Bool.or_true, Bool.true_or, Bool.or_false, Bool.false_or, hy, hj10, wj1, hd8, d7, wa4]
      refine ACallL.quiet1 c5 rfl rfl rfl ?_
      simp only [go_sem, Nat.reduceEqDiff, Nat.reduceAdd, Nat.reduceSub, Nat.reduceMul, Nat.reduceLT, Nat.reduceLeDiff, Nat.reduceMod, Nat.reduceDiv, Int.reduceToNat, Int.reduceLT, Int.reduceLE, Bool.not_true, Bool.not_false, reduceIte, Int.reduceEq, Int.reduceBEq, Int.reduceBNe, Int.reduceGT, Int.reduceGE, Int.reduceNeg, Int.reduceAdd, Int.reduceSub, Nat.reduceBEq, decide_true, decide_false, undef, beq_self_eq_true, bne_self_eq_false, Bool.and_true, Bool.true_and, Bool.and_false, Bool.false_and, Bool.or_true, Bool.true_or, Bool.or_false, Bool.false_or, hy, hj10, wj1, hd8, wj]
      exact ⟨hjl, _, Sub.gc [] [166, 9, 10, 11, 16, 164, 165] rfl rfl, St.gc_mk rfl rfl rfl rfl⟩
end Go.Proofs.YtnmmhkkmejbckaaDoor
