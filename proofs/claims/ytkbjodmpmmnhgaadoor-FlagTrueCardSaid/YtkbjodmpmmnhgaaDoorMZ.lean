/- Proved here: laws that the statements need (FlXD). No conditions but those that each law states. -/
import Derived.Test.YtkbjodmpmmnhgaaDoorMY

set_option linter.unusedSimpArgs false
set_option linter.unusedVariables false

/- FlagTrue. -/
namespace Go.Proofs.YtkbjodmpmmnhgaaDoor
open Go Go.Ab

/-- Since which hour the flag is up; -1: it is not. -/
def fstU (f : Fl) (ks : List Nat) : Nat → Int
  | 0 => -1
  | k + 1 => if upAt f ks k then (if fstU f ks k < 0 then k else fstU f ks k) else -1
theorem fstU_spec (f : Fl) (ks : List Nat) : ∀ k, (fstU f ks k < 0 → fstU f ks k = -1 ∧ runC f ks k = 0) ∧ (0 ≤ fstU f ks k → fstU f ks k < k ∧ (runC f ks k : Int) ≤ k - fstU f ks k ∧ ∃ j, k = j + 1 ∧ upAt f ks j = true)
  | 0 => ⟨fun _ => ⟨rfl, rfl⟩, fun h => by simp [fstU] at h⟩
  | k + 1 => by
    obtain ⟨i1, i2⟩ := fstU_spec f ks k
    have hr : runC f ks (k + 1) = if ks[k]? = some 0 ∧ upAt f ks k = true then runC f ks k + 1 else 0 := rfl
    have hf : fstU f ks (k + 1) = if upAt f ks k then (if fstU f ks k < 0 then (k : Int) else fstU f ks k) else -1 := rfl
    cases hu : upAt f ks k
    · rw [hu] at hr hf
      rw [if_neg (by simp)] at hr
      rw [if_neg (by simp)] at hf
      exact ⟨fun _ => ⟨hf, hr⟩, fun h => by rw [hf] at h; omega⟩
    · rw [hu, if_pos rfl] at hf
      have hle : runC f ks (k + 1) ≤ runC f ks k + 1 := by rw [hr]; split <;> omega
      refine ⟨fun h => ?_, fun h => ⟨?_, ?_, k, rfl, hu⟩⟩
      · rw [hf] at h; split at h <;> omega
      · rw [hf]; split
        · omega
        · rename_i c; have := (i2 (by omega)).1; omega
      · rw [hf]; split
        · rename_i c; have := (i1 c).2; omega
        · rename_i c; have := (i2 (by omega)).2.1; omega
theorem fstU_quiet (f : Fl) (hq : 1 ≤ f.quiet) (ks : List Nat) (hk : ∀ k ∈ ks, k < 3) {k : Nat} (hkl : k < ks.length) (h0 : 0 ≤ fstU f ks k) (hu : upAt f ks k = false) : f.quiet ≤ k - fstU f ks k := by
  obtain ⟨_, h2⟩ := fstU_spec f ks k
  obtain ⟨_, h3, j, rfl, hj⟩ := h2 h0
  have p1 := (pole_next f hq ks hk hkl).1
  rw [hu] at p1
  have p2 := (pole_next f hq ks hk (j := j) (by omega)).2
  have p3 : (poleJ f ks (j + 1)).1 = false := by
    cases h : (poleJ f ks (j + 1)).1
    · rfl
    · rw [h] at p1; cases p1
  rw [p3, hj, Bool.true_and] at p2
  have := of_decide_eq_false p2.symm
  omega
/-- In how many of the first hours the flag is up. -/
def cntU (f : Fl) (ks : List Nat) : Nat → Nat
  | 0 => 0
  | k + 1 => cntU f ks k + if upAt f ks k then 1 else 0
theorem cntU_le (f : Fl) (ks : List Nat) : ∀ k, cntU f ks k ≤ k
  | 0 => Nat.le_refl _
  | k + 1 => by have := cntU_le f ks k; simp only [cntU]; split <;> omega
theorem cntU_up (f : Fl) (ks : List Nat) : ∀ k, cntU f ks k = upN f 0 k ks
  | 0 => (upC_empty 0 0 (ups f ks)).symm
  | k + 1 => by
    have h := upC_succ 0 k (by omega) 0 (ups f ks)
    rw [Nat.sub_zero] at h
    show cntU f ks k + _ = upC ((0 : Nat) : Int) ((k + 1 : Nat) : Int) 0 (ups f ks)
    rw [h, cntU_up f ks k]
    show upC 0 k 0 (ups f ks) + (if (ups f ks).getD k false = true then 1 else 0) = upC 0 k 0 (ups f ks) + _
    by_cases c : (ups f ks).getD k false = true
    · rw [if_pos c, if_pos ⟨by omega, c⟩]
    · rw [if_neg c, if_neg (fun h => c h.2)]

theorem ndiff_sub {a b : Nat} (h : ∀ i, a.testBit i = true → b.testBit i = true) : ndiff a b = 0 := by
  apply Nat.eq_of_testBit_eq
  intro i
  rw [ndiff_bit, Nat.zero_testBit]
  cases ha : a.testBit i
  · rfl
  · rw [h i ha]; rfl

abbrev trueF (f : Fl) (l : List Nat) : Fl := withS f (seenAs f (upM f l))
theorem trueF_ok {f : Fl} (hf : f.OK) {l : List Nat} (hl : l ∈ rows f) : (trueF f l).OK ∧ l ∈ truths (trueF f l) := by
  constructor
  · refine withS_OK hf (by simp only [seenAs, List.length_map]; exact hf.ns) ?_
    intro s hs
    obtain ⟨t, ht, rfl⟩ := List.mem_map.1 hs
    exact hf.ss t ht
  · rw [truths_withS, List.mem_filter]
    refine ⟨hl, ?_⟩
    unfold right
    rw [List.all_eq_true]
    intro s hs
    obtain ⟨t, ht, rfl⟩ := List.mem_map.1 hs
    have hr := hf.ss t ht
    simp only [upM, maskOf_bit]
    rw [show decide (t.h.toNat < f.hs.length) = true by simp; omega, Bool.true_and, beq_self_eq_true]

set_option maxRecDepth 8000 in
set_option maxHeartbeats 4000000 in
theorem FlagTrue_ok (f : Fl) (hL : Lens f) (ws : List Nat) (hw : ∀ w ∈ ws, w < 65536) (hwl : ws.length < 9223372036854775808) : ACall Tryd.prog 6 [.t (.agg (fl5 f)), .t (tBy ws)] [] (res (.ret (.t (vb true)))) := by
  refine ACall.walk k6 ?_
  have h31 := fine_ok f hL
  unfold c6
  simp only [fl5] at h31
  simp only [fl5, go_sem, Nat.reduceEqDiff, Nat.reduceAdd, Nat.reduceSub, Nat.reduceMul, Nat.reduceLT, Nat.reduceLeDiff, Nat.reduceMod, Nat.reduceDiv, Int.reduceToNat, Int.reduceLT, Int.reduceLE, Bool.not_true, Bool.not_false, reduceIte, Int.reduceEq, Int.reduceBEq, Int.reduceBNe, Int.reduceGT, Int.reduceGE, Int.reduceNeg, Int.reduceAdd, Int.reduceSub, Nat.reduceBEq, decide_true, decide_false, undef, beq_self_eq_true, bne_self_eq_false, Bool.and_true, Bool.true_and, Bool.and_false, Bool.false_and, Bool.or_true, Bool.true_or, Bool.or_false, Bool.false_or]
  refine ACallL.quiet1 h31 rfl rfl rfl ?_
  cases hF : fineB f
  · simp only [go_sem, Nat.reduceEqDiff, Nat.reduceAdd, Nat.reduceSub, Nat.reduceMul, Nat.reduceLT, Nat.reduceLeDiff, Nat.reduceMod, Nat.reduceDiv, Int.reduceToNat, Int.reduceLT, Int.reduceLE, Bool.not_true, Bool.not_false, reduceIte, Int.reduceEq, Int.reduceBEq, Int.reduceBNe, Int.reduceGT, Int.reduceGE, Int.reduceNeg, Int.reduceAdd, Int.reduceSub, Nat.reduceBEq, decide_true, decide_false, undef, beq_self_eq_true, bne_self_eq_false, Bool.and_true, Bool.true_and, Bool.and_false, Bool.false_and, Bool.or_true, Bool.true_or, Bool.or_false, Bool.false_or, undef]
    refine ACallL.quiet1 awake_ok rfl rfl rfl ?_
    simp only [go_sem, Nat.reduceEqDiff, Nat.reduceAdd, Nat.reduceSub, Nat.reduceMul, Nat.reduceLT, Nat.reduceLeDiff, Nat.reduceMod, Nat.reduceDiv, Int.reduceToNat, Int.reduceLT, Int.reduceLE, Bool.not_true, Bool.not_false, reduceIte, Int.reduceEq, Int.reduceBEq, Int.reduceBNe, Int.reduceGT, Int.reduceGE, Int.reduceNeg, Int.reduceAdd, Int.reduceSub, Nat.reduceBEq, decide_true, decide_false, undef, beq_self_eq_true, bne_self_eq_false, Bool.and_true, Bool.true_and, Bool.and_false, Bool.false_and, Bool.or_true, Bool.true_or, Bool.or_false, Bool.false_or, undef]
    exact finL_ret [] ⟨rfl, rfl, rfl, rfl, _, rfl, res_mk rfl⟩
  obtain ⟨hok, hf⟩ := fine_iff hF
  have hn := hf.nh
  have hlr := kindsL_rows f hf ws
  have h32 := kindsR_ok f hf ws hw hwl
  have hlen := kindsL_len f ws f.hs.length
  have hk3 : ∀ k ∈ kindsL f ws f.hs.length, k < 3 := fun k hk => by
    obtain ⟨j, hj⟩ := List.getElem?_of_mem hk
    exact ((kset_mem _ _).1 (((kls_mem f _ _ _).1 hlr).2 j k hj)).1
  have hkf : ∀ (j k : Nat), (kindsL f ws f.hs.length)[j]? = some k → (Kf f j).testBit k = true := fun j k hj => by
    have := ((kset_mem _ _).1 (((kls_mem f _ _ _).1 hlr).2 j k hj)).2
    rwa [Nat.zero_add] at this
  have hKl : ∀ j, Kf f j < 8 := fun j => by
    unfold Kf
    split
    · exact kindsN_lt _ _
    · decide
  generalize kindsL f ws f.hs.length = l at *
  have h33 := raisedL_ok f hf.quiet.1 l (by omega) hk3
  rw [hlen] at h33
  have hp2 : 2 ^ f.hs.length ≤ 512 := Nat.pow_le_pow_right (n := 2) (by decide) hn
  have hUl : upM f l < 2 ^ f.hs.length := maskOf_lt (upAt f l) f.hs.length
  have hUb : ∀ i, (upM f l).testBit i = (decide (i < f.hs.length) && upAt f l i) := maskOf_bit (upAt f l) f.hs.length
  have h34 := rightR_ok f hf (upM f l) (by omega)
  obtain ⟨hx, hxl⟩ := trueF_ok hf hlr
  have hxok := (Fl.ok_iff _).2 hx
  have hxL : Lens (trueF f l) := ⟨by have := hx.nh; omega, by have := hx.ns; omega⟩
  have hT : noT (trueF f l) = false := by
    unfold noT
    cases h : truths (trueF f l) with
    | nil => rw [h] at hxl; cases hxl
    | cons _ _ => rfl
  have h17 := Up_ok (trueF f l) hxL
  have h19 := Count_ok (trueF f l) hxL
  have h21 := Long_ok (trueF f l) hxL
  have h29 := Wrong_ok (trueF f l) hxL
  have h15 := fun k : Nat => Kinds_ok (trueF f l) k hxL
  have e1 : specCount (trueF f l) = ((((truths (trueF f l)).length : Nat) : Int), 0) := by simp only [specCount, hxok]; rfl
  have e2 : specUp (trueF f l) = (((maskOf (sure (trueF f l)) f.hs.length : Nat) : Int), ((maskOf (perh (trueF f l)) f.hs.length : Nat) : Int), 0) := by simp only [specUp, hxok, hT]; rfl
  have e3 : specWrong (trueF f l) = (0, 4) := by simp only [specWrong, hxok, hT]; rfl
  have e5 : ∀ k : Nat, k < f.hs.length → specKinds (trueF f l) k = (((Kf f k : Nat) : Int), 0) := fun k hk => by
    have : (trueF f l).isH k = true := isH_iff.2 ⟨by omega, by show (k : Int) < (f.hs.length : Int); omega⟩
    simp only [specKinds, hxok, this, Kf_withS, Int.toNat_natCast]; rfl
  obtain ⟨s, e4, hs1, hs2⟩ : ∃ s : Int × Int, specLong (trueF f l) = (s, 0) ∧ s.1 ≤ (cntU f l f.hs.length : Int) ∧ (cntU f l f.hs.length : Int) ≤ s.2 := by
    cases hs : hullU (trueF f l) 0 (trueF f l).hs.length with
    | none =>
      unfold hullU at hs
      rw [hullO_none] at hs
      exact absurd (List.map_eq_nil_iff.1 hs) (noT_ne hT)
    | some s =>
      refine ⟨s, by simp only [specLong, hxok, hs]; rfl, ?_⟩
      unfold hullU at hs
      have := (hullO_spec hs).2.2 ((upN (trueF f l) 0 f.hs.length l : Nat) : Int) (List.mem_map.2 ⟨l, hxl, rfl⟩)
      rw [cntU_up]
      exact this
  rw [e1] at h19
  rw [e2] at h17
  rw [e3] at h29
  rw [e4] at h21
  have hpos : 0 < (truths (trueF f l)).length := List.length_pos_iff.2 (noT_ne hT)
  have b1 : ndiff (maskOf (sure (trueF f l)) f.hs.length) (upM f l) = 0 := ndiff_sub fun i hi => by
    rw [maskOf_bit, Bool.and_eq_true] at hi
    rw [hUb, hi.1, Bool.true_and]
    exact sure_all.1 hi.2 l hxl
  have b2 : ndiff (upM f l) (maskOf (perh (trueF f l)) f.hs.length) = 0 := ndiff_sub fun i hi => by
    rw [hUb, Bool.and_eq_true] at hi
    rw [maskOf_bit, hi.1, Bool.true_and]
    exact perh_any.2 ⟨l, hxl, hi.2⟩
  have hS := maskOf_lt (sure (trueF f l)) f.hs.length
  have hP := maskOf_lt (perh (trueF f l)) f.hs.length
  have a1 := bits_andNot (a := maskOf (sure (trueF f l)) f.hs.length) (b := upM f l) (by omega) (by omega)
  have a2 := bits_andNot (a := upM f l) (b := maskOf (perh (trueF f l)) f.hs.length) (by omega) (by omega)
  rw [b1] at a1
  rw [b2] at a2
  generalize maskOf (sure (trueF f l)) f.hs.length = S at *
  generalize maskOf (perh (trueF f l)) f.hs.length = P at *
  generalize (truths (trueF f l)).length = N at *
  have cN : decide ((N : Int) < 1) = false := by simp; omega
  have hfl : fl5 (trueF f l) = [vi f.low, vi f.high, vi f.quiet, .slice 3 (f.hs.map tHr), .slice 2 ((seenAs f (upM f l)).map tSn)] := rfl
  rw [hfl] at h34 h17 h19 h21 h29
  simp only [hfl] at h15
  obtain ⟨s1, s2⟩ := s
  simp only at hs1 hs2
  simp only [oneE, twoE, spanE, tSp] at h15 h17 h19 h21 h29
  simp only [fl5, tK] at h32 h33 h34
  generalize (seenAs f (upM f l)).map tSn = xs at *
  simp only [go_sem, Nat.reduceEqDiff, Nat.reduceAdd, Nat.reduceSub, Nat.reduceMul, Nat.reduceLT, Nat.reduceLeDiff, Nat.reduceMod, Nat.reduceDiv, Int.reduceToNat, Int.reduceLT, Int.reduceLE, Bool.not_true, Bool.not_false, reduceIte, Int.reduceEq, Int.reduceBEq, Int.reduceBNe, Int.reduceGT, Int.reduceGE, Int.reduceNeg, Int.reduceAdd, Int.reduceSub, Nat.reduceBEq, decide_true, decide_false, undef, beq_self_eq_true, bne_self_eq_false, Bool.and_true, Bool.true_and, Bool.and_false, Bool.false_and, Bool.or_true, Bool.true_or, Bool.or_false, Bool.false_or, undef]
  refine ACallL.fresh1 h32 rfl ?_
  simp only [go_sem, Nat.reduceEqDiff, Nat.reduceAdd, Nat.reduceSub, Nat.reduceMul, Nat.reduceLT, Nat.reduceLeDiff, Nat.reduceMod, Nat.reduceDiv, Int.reduceToNat, Int.reduceLT, Int.reduceLE, Bool.not_true, Bool.not_false, reduceIte, Int.reduceEq, Int.reduceBEq, Int.reduceBNe, Int.reduceGT, Int.reduceGE, Int.reduceNeg, Int.reduceAdd, Int.reduceSub, Nat.reduceBEq, decide_true, decide_false, undef, beq_self_eq_true, bne_self_eq_false, Bool.and_true, Bool.true_and, Bool.and_false, Bool.false_and, Bool.or_true, Bool.true_or, Bool.or_false, Bool.false_or, undef]
  refine ACallL.quiet1 h33 rfl rfl rfl ?_
  simp only [go_sem, Nat.reduceEqDiff, Nat.reduceAdd, Nat.reduceSub, Nat.reduceMul, Nat.reduceLT, Nat.reduceLeDiff, Nat.reduceMod, Nat.reduceDiv, Int.reduceToNat, Int.reduceLT, Int.reduceLE, Bool.not_true, Bool.not_false, reduceIte, Int.reduceEq, Int.reduceBEq, Int.reduceBNe, Int.reduceGT, Int.reduceGE, Int.reduceNeg, Int.reduceAdd, Int.reduceSub, Nat.reduceBEq, decide_true, decide_false, undef, beq_self_eq_true, bne_self_eq_false, Bool.and_true, Bool.true_and, Bool.and_false, Bool.false_and, Bool.or_true, Bool.true_or, Bool.or_false, Bool.false_or, undef]
  refine ACallL.fresh1 h34 rfl ?_
  simp only [go_sem, Nat.reduceEqDiff, Nat.reduceAdd, Nat.reduceSub, Nat.reduceMul, Nat.reduceLT, Nat.reduceLeDiff, Nat.reduceMod, Nat.reduceDiv, Int.reduceToNat, Int.reduceLT, Int.reduceLE, Bool.not_true, Bool.not_false, reduceIte, Int.reduceEq, Int.reduceBEq, Int.reduceBNe, Int.reduceGT, Int.reduceGE, Int.reduceNeg, Int.reduceAdd, Int.reduceSub, Nat.reduceBEq, decide_true, decide_false, undef, beq_self_eq_true, bne_self_eq_false, Bool.and_true, Bool.true_and, Bool.and_false, Bool.false_and, Bool.or_true, Bool.true_or, Bool.or_false, Bool.false_or, undef]
  refine ACallL.quiet1 h17 rfl rfl rfl ?_
  simp only [go_sem, Nat.reduceEqDiff, Nat.reduceAdd, Nat.reduceSub, Nat.reduceMul, Nat.reduceLT, Nat.reduceLeDiff, Nat.reduceMod, Nat.reduceDiv, Int.reduceToNat, Int.reduceLT, Int.reduceLE, Bool.not_true, Bool.not_false, reduceIte, Int.reduceEq, Int.reduceBEq, Int.reduceBNe, Int.reduceGT, Int.reduceGE, Int.reduceNeg, Int.reduceAdd, Int.reduceSub, Nat.reduceBEq, decide_true, decide_false, undef, beq_self_eq_true, bne_self_eq_false, Bool.and_true, Bool.true_and, Bool.and_false, Bool.false_and, Bool.or_true, Bool.true_or, Bool.or_false, Bool.false_or, undef]
  refine ACallL.quiet1 h19 rfl rfl rfl ?_
  simp only [go_sem, Nat.reduceEqDiff, Nat.reduceAdd, Nat.reduceSub, Nat.reduceMul, Nat.reduceLT, Nat.reduceLeDiff, Nat.reduceMod, Nat.reduceDiv, Int.reduceToNat, Int.reduceLT, Int.reduceLE, Bool.not_true, Bool.not_false, reduceIte, Int.reduceEq, Int.reduceBEq, Int.reduceBNe, Int.reduceGT, Int.reduceGE, Int.reduceNeg, Int.reduceAdd, Int.reduceSub, Nat.reduceBEq, decide_true, decide_false, undef, beq_self_eq_true, bne_self_eq_false, Bool.and_true, Bool.true_and, Bool.and_false, Bool.false_and, Bool.or_true, Bool.true_or, Bool.or_false, Bool.false_or, undef]
  refine ACallL.fresh1 h21 rfl ?_
  simp only [go_sem, Nat.reduceEqDiff, Nat.reduceAdd, Nat.reduceSub, Nat.reduceMul, Nat.reduceLT, Nat.reduceLeDiff, Nat.reduceMod, Nat.reduceDiv, Int.reduceToNat, Int.reduceLT, Int.reduceLE, Bool.not_true, Bool.not_false, reduceIte, Int.reduceEq, Int.reduceBEq, Int.reduceBNe, Int.reduceGT, Int.reduceGE, Int.reduceNeg, Int.reduceAdd, Int.reduceSub, Nat.reduceBEq, decide_true, decide_false, undef, beq_self_eq_true, bne_self_eq_false, Bool.and_true, Bool.true_and, Bool.and_false, Bool.false_and, Bool.or_true, Bool.true_or, Bool.or_false, Bool.false_or, undef]
  refine ACallL.quiet1 h29 rfl rfl rfl ?_
  simp only [go_sem, Nat.reduceEqDiff, Nat.reduceAdd, Nat.reduceSub, Nat.reduceMul, Nat.reduceLT, Nat.reduceLeDiff, Nat.reduceMod, Nat.reduceDiv, Int.reduceToNat, Int.reduceLT, Int.reduceLE, Bool.not_true, Bool.not_false, reduceIte, Int.reduceEq, Int.reduceBEq, Int.reduceBNe, Int.reduceGT, Int.reduceGE, Int.reduceNeg, Int.reduceAdd, Int.reduceSub, Nat.reduceBEq, decide_true, decide_false, undef, beq_self_eq_true, bne_self_eq_false, Bool.and_true, Bool.true_and, Bool.and_false, Bool.false_and, Bool.or_true, Bool.true_or, Bool.or_false, Bool.false_or, undef, cN, a1, a2, List.length_map, hlen]
  refine awpL_for (i := 89) (L := 88) f.hs.length (fun j s => s = { env := [(89, .t (vi j)), (88, .t (vi f.hs.length)), (87, .t (.slice 1 (l.map fun k : Nat => vi k))), (2, .ptr 0 0), (6, .t (vi (upM f l))), (7, .ptr 1 0), (13, .ptr 2 0), (17, .t (vi (cntU f l j))), (18, .t (vi (fstU f l j)))], σ := [.cells ((fl5 f).map .t), .cells ([vi f.low, vi f.high, vi f.quiet, .slice 3 (f.hs.map tHr), .slice 2 xs].map .t), .cells [.t (vi s1), .t (vi s2)]] }) ?_ ⟨_, Sub.gc [0, 1, 2] [89, 88, 87, 2, 6, 7, 13, 17, 18] rfl rfl, rfl⟩ ?_ ?_
  · rintro k s rfl; exact ⟨rfl, rfl⟩
  · rintro j s hj rfl
    have hwj : IntKind.i64.wrap ((j : Int) + 1) = ((j + 1 : Nat) : Int) := by rw [wrap_id (by omega) (by omega)]; omega
    have hg : l[j]? = some l[j] := List.getElem?_eq_getElem (by omega)
    have hbit := hkf j _ hg
    have h15 := h15 j
    rw [e5 j hj] at h15
    have hK := hKl j
    have hkx := hk3 _ (List.getElem_mem (show j < l.length by omega))
    generalize l[j] = x at *
    generalize Kf f j = K at *
    have c1 := bit_eq0 (a := K) (i := x) (by omega)
    rw [hbit] at c1
    have c2 := shr_nat (a := K) (i := 3) (by omega)
    have c3 : K >>> 3 = 0 := by rw [Nat.shiftRight_eq_div_pow]; exact Nat.div_eq_of_lt (by omega)
    rw [c3] at c2
    have c2 : (K : Int).fdiv (2 ^ min 3 64) = 0 := c2
    have hx0 : ((x : Int) < 0) = False := by simp
    have hj0 : ((j : Int) < 0) = False := by simp
    have hub := bit_eq (a := upM f l) (i := j) (by omega)
    rw [hUb, show decide (j < f.hs.length) = true by simp; omega, Bool.true_and] at hub
    have hc : cntU f l (j + 1) = cntU f l j + if upAt f l j then 1 else 0 := rfl
    have hfs : fstU f l (j + 1) = if upAt f l j then (if fstU f l j < 0 then (j : Int) else fstU f l j) else -1 := rfl
    have hcl := cntU_le f l j
    obtain ⟨p1, p2⟩ := fstU_spec f l j
    have hq := fstU_quiet f hf.quiet.1 l hk3 (k := j) (by omega)
    have hwc : IntKind.i64.wrap ((cntU f l j : Int) + 1) = ((cntU f l j + 1 : Nat) : Int) := by rw [wrap_id (by omega) (by omega)]; omega
    generalize cntU f l j = c at *
    generalize fstU f l j = g at *
    have hjl : (j : Int) < (l.length : Int) := by omega
    simp only [go_sem, Nat.reduceEqDiff, Nat.reduceAdd, Nat.reduceSub, Nat.reduceMul, Nat.reduceLT, Nat.reduceLeDiff, Nat.reduceMod, Nat.reduceDiv, Int.reduceToNat, Int.reduceLT, Int.reduceLE, Bool.not_true, Bool.not_false, reduceIte, Int.reduceEq, Int.reduceBEq, Int.reduceBNe, Int.reduceGT, Int.reduceGE, Int.reduceNeg, Int.reduceAdd, Int.reduceSub, Nat.reduceBEq, decide_true, decide_false, undef, beq_self_eq_true, bne_self_eq_false, Bool.and_true, Bool.true_and, Bool.and_false, Bool.false_and, Bool.or_true, Bool.true_or, Bool.or_false, Bool.false_or, undef, List.length_map, List.getElem?_map, hg, Option.map_some]
    refine ACallL.quiet1 h15 rfl rfl rfl ?_
    simp only [go_sem, Nat.reduceEqDiff, Nat.reduceAdd, Nat.reduceSub, Nat.reduceMul, Nat.reduceLT, Nat.reduceLeDiff, Nat.reduceMod, Nat.reduceDiv, Int.reduceToNat, Int.reduceLT, Int.reduceLE, Bool.not_true, Bool.not_false, reduceIte, Int.reduceEq, Int.reduceBEq, Int.reduceBNe, Int.reduceGT, Int.reduceGE, Int.reduceNeg, Int.reduceAdd, Int.reduceSub, Nat.reduceBEq, decide_true, decide_false, undef, beq_self_eq_true, bne_self_eq_false, Bool.and_true, Bool.true_and, Bool.and_false, Bool.false_and, Bool.or_true, Bool.true_or, Bool.or_false, Bool.false_or, undef, List.length_map, List.getElem?_map, hg, Option.map_some, c1, c2, hx0, hj0, hub]
    cases hu : upAt f l j
    · rw [hu] at hc hfs
      rw [if_neg (by simp)] at hc hfs
      cases h0 : decide (g ≥ 0)
      · have g1 := p1 (by have := of_decide_eq_false h0; omega)
        simp only [go_sem, Nat.reduceEqDiff, Nat.reduceAdd, Nat.reduceSub, Nat.reduceMul, Nat.reduceLT, Nat.reduceLeDiff, Nat.reduceMod, Nat.reduceDiv, Int.reduceToNat, Int.reduceLT, Int.reduceLE, Bool.not_true, Bool.not_false, reduceIte, Int.reduceEq, Int.reduceBEq, Int.reduceBNe, Int.reduceGT, Int.reduceGE, Int.reduceNeg, Int.reduceAdd, Int.reduceSub, Nat.reduceBEq, decide_true, decide_false, undef, beq_self_eq_true, bne_self_eq_false, Bool.and_true, Bool.true_and, Bool.and_false, Bool.false_and, Bool.or_true, Bool.true_or, Bool.or_false, Bool.false_or, undef, h0, hwj]
        refine ⟨_, Sub.gc [0, 1, 2] [89, 88, 87, 2, 6, 7, 13, 17, 18] rfl rfl, ?_⟩
        rw [hc, hfs, ← g1.1]
        rfl
      · have g1 := p2 (by have := of_decide_eq_true h0; omega)
        have hq := hq (by have := of_decide_eq_true h0; omega) hu
        have hw2 : IntKind.i64.wrap ((j : Int) - g) = (j : Int) - g := wrap_id (by omega) (by omega)
        have c4 : decide ((j : Int) - g < f.quiet) = false := by simp; omega
        simp only [fl5, go_sem, Nat.reduceEqDiff, Nat.reduceAdd, Nat.reduceSub, Nat.reduceMul, Nat.reduceLT, Nat.reduceLeDiff, Nat.reduceMod, Nat.reduceDiv, Int.reduceToNat, Int.reduceLT, Int.reduceLE, Bool.not_true, Bool.not_false, reduceIte, Int.reduceEq, Int.reduceBEq, Int.reduceBNe, Int.reduceGT, Int.reduceGE, Int.reduceNeg, Int.reduceAdd, Int.reduceSub, Nat.reduceBEq, decide_true, decide_false, undef, beq_self_eq_true, bne_self_eq_false, Bool.and_true, Bool.true_and, Bool.and_false, Bool.false_and, Bool.or_true, Bool.true_or, Bool.or_false, Bool.false_or, undef, h0, hwj, hw2, c4]
        refine ⟨_, Sub.gc [0, 1, 2] [89, 88, 87, 2, 6, 7, 13, 17, 18] rfl rfl, ?_⟩
        rw [hc, hfs]
        rfl
    · rw [hu] at hc hfs
      rw [if_pos rfl] at hc hfs
      cases h0 : decide (g < 0)
      · rw [if_neg (of_decide_eq_false h0)] at hfs
        simp only [go_sem, Nat.reduceEqDiff, Nat.reduceAdd, Nat.reduceSub, Nat.reduceMul, Nat.reduceLT, Nat.reduceLeDiff, Nat.reduceMod, Nat.reduceDiv, Int.reduceToNat, Int.reduceLT, Int.reduceLE, Bool.not_true, Bool.not_false, reduceIte, Int.reduceEq, Int.reduceBEq, Int.reduceBNe, Int.reduceGT, Int.reduceGE, Int.reduceNeg, Int.reduceAdd, Int.reduceSub, Nat.reduceBEq, decide_true, decide_false, undef, beq_self_eq_true, bne_self_eq_false, Bool.and_true, Bool.true_and, Bool.and_false, Bool.false_and, Bool.or_true, Bool.true_or, Bool.or_false, Bool.false_or, undef, h0, hwj, hwc]
        refine ⟨_, Sub.gc [0, 1, 2] [89, 88, 87, 2, 6, 7, 13, 17, 18] rfl rfl, ?_⟩
        rw [hc, hfs]
        rfl
      · rw [if_pos (of_decide_eq_true h0)] at hfs
        simp only [go_sem, Nat.reduceEqDiff, Nat.reduceAdd, Nat.reduceSub, Nat.reduceMul, Nat.reduceLT, Nat.reduceLeDiff, Nat.reduceMod, Nat.reduceDiv, Int.reduceToNat, Int.reduceLT, Int.reduceLE, Bool.not_true, Bool.not_false, reduceIte, Int.reduceEq, Int.reduceBEq, Int.reduceBNe, Int.reduceGT, Int.reduceGE, Int.reduceNeg, Int.reduceAdd, Int.reduceSub, Nat.reduceBEq, decide_true, decide_false, undef, beq_self_eq_true, bne_self_eq_false, Bool.and_true, Bool.true_and, Bool.and_false, Bool.false_and, Bool.or_true, Bool.true_or, Bool.or_false, Bool.false_or, undef, h0, hwj, hwc]
        refine ⟨_, Sub.gc [0, 1, 2] [89, 88, 87, 2, 6, 7, 13, 17, 18] rfl rfl, ?_⟩
        rw [hc, hfs]
        rfl
  · rintro s rfl
    have d1 : decide (s1 ≤ (cntU f l f.hs.length : Int)) = true := by simp; omega
    have d2 : decide ((cntU f l f.hs.length : Int) ≤ s2) = true := by simp; omega
    simp only [go_sem, Nat.reduceEqDiff, Nat.reduceAdd, Nat.reduceSub, Nat.reduceMul, Nat.reduceLT, Nat.reduceLeDiff, Nat.reduceMod, Nat.reduceDiv, Int.reduceToNat, Int.reduceLT, Int.reduceLE, Bool.not_true, Bool.not_false, reduceIte, Int.reduceEq, Int.reduceBEq, Int.reduceBNe, Int.reduceGT, Int.reduceGE, Int.reduceNeg, Int.reduceAdd, Int.reduceSub, Nat.reduceBEq, decide_true, decide_false, undef, beq_self_eq_true, bne_self_eq_false, Bool.and_true, Bool.true_and, Bool.and_false, Bool.false_and, Bool.or_true, Bool.true_or, Bool.or_false, Bool.false_or, undef, d1, d2]
    refine ACallL.quiet1 awake_ok rfl rfl rfl ?_
    simp only [go_sem, Nat.reduceEqDiff, Nat.reduceAdd, Nat.reduceSub, Nat.reduceMul, Nat.reduceLT, Nat.reduceLeDiff, Nat.reduceMod, Nat.reduceDiv, Int.reduceToNat, Int.reduceLT, Int.reduceLE, Bool.not_true, Bool.not_false, reduceIte, Int.reduceEq, Int.reduceBEq, Int.reduceBNe, Int.reduceGT, Int.reduceGE, Int.reduceNeg, Int.reduceAdd, Int.reduceSub, Nat.reduceBEq, decide_true, decide_false, undef, beq_self_eq_true, bne_self_eq_false, Bool.and_true, Bool.true_and, Bool.and_false, Bool.false_and, Bool.or_true, Bool.true_or, Bool.or_false, Bool.false_or, undef]
    exact finL_ret [] ⟨rfl, rfl, rfl, rfl, _, rfl, res_mk rfl⟩
end Go.Proofs.YtkbjodmpmmnhgaaDoor
