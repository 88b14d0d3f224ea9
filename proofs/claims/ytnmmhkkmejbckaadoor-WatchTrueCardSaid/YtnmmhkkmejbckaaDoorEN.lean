/- Proved here: laws that the statements need (WaW4). No conditions but those that each law states. -/
import Derived.Test.YtnmmhkkmejbckaaDoorEM
import Derived.Test.YtnmmhkkmejbckaaDoorEJ

set_option linter.unusedSimpArgs false
set_option linter.unusedVariables false

/- WatchCan. -/
namespace Go.Proofs.YtnmmhkkmejbckaaDoor
open Go Go.Ab

theorem bit_val {a i : Nat} (ha : a < 9223372036854775808) : bits .and .i64 ((a : Int).fdiv (2 ^ (min i 64))) 1 = (((a.testBit i).toNat : Nat) : Int) := by
  rw [shr_nat ha, show (1 : Int) = ((1 : Nat) : Int) from rfl, bits_and (Nat.lt_of_le_of_lt (by rw [Nat.shiftRight_eq_div_pow]; exact Nat.div_le_self _ _) ha) (by omega), Nat.testBit_eq_decide_div_mod_eq, Nat.shiftRight_eq_div_pow]
  have : a / 2 ^ i &&& 1 = a / 2 ^ i % 2 := Nat.and_one_is_mod _
  rw [this]
  have h2 : a / 2 ^ i % 2 = 0 ∨ a / 2 ^ i % 2 = 1 := by omega
  rcases h2 with h | h <;> rw [h] <;> rfl
theorem size_pos : ∀ x : Nat, x < 64 → x ≠ 0 → size x ≠ 0 := by decide +kernel
theorem specCount_at {w : Wa} (hok : w.ok = true) : specCount w = (((waysN w.fits : Nat) : Int), 0) := by unfold specCount; rw [hok]; rfl
theorem specCan_at {w : Wa} (hok : w.ok = true) {i : Nat} (hi : i < w.fs.length) : specCan w i = if waysN w.fits = 0 then (0, 10) else ((((whoseL w.fits).getD i 0 : Nat) : Int), 0) := by
  unfold specCan; rw [hok, if_pos rfl, isF_at hi, if_pos rfl, Int.toNat_natCast]
theorem specSure_at {w : Wa} (hok : w.ok = true) : specSure w = if waysN w.fits = 0 then ([], 10) else (sureL w, 0) := by
  unfold specSure; rw [hok, if_pos rfl]
theorem specWhere_at {w : Wa} (hok : w.ok = true) {o : Nat} (ho : o < w.os.length) : specWhere w o = if waysN w.fits = 0 then (0, false, 10) else (((maskW (whereP w o) 4 : Nat) : Int), decide (0 < waysN (lessL w.fits o)), 0) := by
  unfold specWhere; rw [hok, if_pos rfl, isO_at ho, if_pos rfl, Int.toNat_natCast]
theorem specFits_in {w : Wa} (hok : w.ok = true) {i : Nat} {f : Fi} (hi : w.fs[i]? = some f) : specFits w i = (((fitN w.os f : Nat) : Int), 0) := by
  have h1 := (List.getElem?_eq_some_iff.1 hi).1
  have e : w.fits.getD i 0 = fitN w.os f := by
    unfold Wa.fits
    rw [List.getD_eq_getElem?_getD, List.getElem?_map, hi]
    rfl
  unfold specFits
  rw [hok, if_pos rfl, isF_at h1, if_pos rfl, Int.toNat_natCast, e]
theorem truT_len (fits : List Nat) : ∀ (l : Nat) (has : List Bool), (truT fits l has).length ≤ 5 ^ l
  | 0, _ => by simp [truT]
  | l + 1, has => by
    have hp : ∀ i : Nat, (if has.getD i true || !(fits.getD (fits.length - (l + 1)) 0).testBit i then [] else (truT fits l (has.set i true)).map (i :: ·)).length ≤ 5 ^ l := fun i => by
      split
      · simp
      · rw [List.length_map]; exact truT_len fits l _
    unfold truT
    have e : List.range 5 = [0, 1, 2, 3, 4] := rfl
    rw [e]
    simp only [List.flatMap_cons, List.flatMap_nil, List.length_append, List.length_nil]
    have h0 := hp 0
    have h1 := hp 1
    have h2 := hp 2
    have h3 := hp 3
    have h4 := hp 4
    rw [Nat.pow_succ]
    omega
theorem ways_bd {f : List Nat} (h : f.length ≤ 4) : waysN f ≤ 625 := by
  have h1 := truT_len f f.length has0
  have h2 : 5 ^ f.length ≤ 5 ^ 4 := Nat.pow_le_pow_right (by omega) h
  unfold waysN truths
  omega
def lsT (r : List Int × Int) : T := if r.2 = 0 then .slice 1 (r.1.map vi) else .lit (.slice none 0 0)
def M7 (w : Wa) (i : Nat) (st : St) : Prop := lk st.env 2 = .ptr 0 0 ∧ lk st.env 5 = .t (vi i) ∧ lk st.env 6 = .t (vi (specCan w i).1) ∧ lk st.env 7 = .t (vi (specCan w i).2) ∧ lk st.env 8 = .t (vi (specFits w i).1) ∧ lk st.env 10 = .t (vi (waysN w.fits : Nat)) ∧ lk st.env 12 = .t (lsT (specSure w)) ∧ st.σ = [.cells ((wa2 w).map .t)] ∧ st.df = [] ∧ st.k = 0
set_option maxRecDepth 8000 in
set_option maxHeartbeats 8000000 in
theorem WatchCan_ok (w : Wa) (hL : Lens w) (u : Nat) (hu : u < 256) : ACall Tryd.prog 7 [.t (tWa w), .t (.lit (.int .u8 u))] [] (res (.ret (.t (vb true)))) := by
  refine ACall.walk k7 ?_
  have h26 := long_ok w
  have h27 := rwatches_ok w hL
  unfold c7
  refine awpL_chop 8 (c1 := ?a1) (c2 := ?a2) (fun st => w.OK ∧ ∃ (i : Nat) (f : Fi), w.fs[i]? = some f ∧ M7 w i st) ?hc ?_ ?_
  case hc => simp only [chop]; rfl
  · unfold tWa wa2 at h26 h27 ⊢
    simp only [go_sem, Nat.reduceEqDiff, Nat.reduceAdd]
    refine ACallL.quiet1 h26 rfl rfl rfl ?_
    cases hlg : w.long
    rotate_left
    · simp only [go_sem, Nat.reduceEqDiff, Bool.not_true, undef]
      refine ACallL.quiet1 alive_ok rfl rfl rfl ?_
      simp only [go_sem, Nat.reduceEqDiff]
      exact finL_ret [] ⟨rfl, rfl, rfl, rfl, _, rfl, res_mk rfl⟩
    simp only [go_sem, Nat.reduceEqDiff, Nat.reduceAdd, beq_self_eq_true]
    refine ACallL.quiet1 h27 rfl rfl rfl ?_
    cases hok : w.ok
    · simp only [go_sem, Nat.reduceEqDiff, Bool.not_true, Bool.not_false, undef, beq_self_eq_true]
      refine ACallL.quiet1 alive_ok rfl rfl rfl ?_
      simp only [go_sem, Nat.reduceEqDiff]
      exact finL_ret [] ⟨rfl, rfl, rfl, rfl, _, rfl, res_mk rfl⟩
    have hw := (w.ok_iff).1 hok
    simp only [go_sem, Nat.reduceEqDiff, Nat.reduceAdd, Bool.not_true, beq_self_eq_true, List.length_map]
    cases h1 : ((w.fs.length : Int) == 0)
    rotate_left
    · simp only [go_sem]
      refine ACallL.quiet1 alive_ok rfl rfl rfl ?_
      simp only [go_sem, Nat.reduceEqDiff]
      exact finL_ret [] ⟨rfl, rfl, rfl, rfl, _, rfl, res_mk rfl⟩
    have n1 : ((w.fs.length : Int) = 0) = False := eq_false (by simpa using h1)
    have hnf : 0 < w.fs.length := by have : ¬ ((w.fs.length : Int) = 0) := by simpa using h1
                                     omega
    have ha : u % w.fs.length < w.fs.length := Nat.mod_lt _ hnf
    have t1 := mod_nat u w.fs.length
    have w0 : IntKind.i64.wrap (u : Int) = u := wrap_id (by omega) (by omega)
    have hn4 := hw.nf
    have w2 : IntKind.i64.wrap ((u % w.fs.length : Nat) : Int) = ((u % w.fs.length : Nat) : Int) := wrap_id (by omega) (by omega)
    generalize u % w.fs.length = i at *
    have hxf : w.fs[i]? = some w.fs[i] := List.getElem?_eq_getElem ha
    have q1 := Can_ok w i hL
    have q2 := Fits_ok w i hL
    have q3 := Count_ok w hL
    have q4 := Sure_ok w hL
    have q4' : ACall Tryd.prog 18 [.t (tWa w)] [] (res (.ret (.tup [.t (lsT (specSure w)), .t (vi (specSure w).2)]))) := q4
    clear q4
    have hM : ∀ env : List (Nat × E), lk env 2 = .ptr 0 0 → lk env 5 = .t (vi i) → lk env 6 = .t (vi (specCan w i).1) → lk env 7 = .t (vi (specCan w i).2) → lk env 8 = .t (vi (specFits w i).1) → lk env 10 = .t (vi (waysN w.fits : Nat)) → lk env 12 = .t (lsT (specSure w)) → w.OK ∧ ∃ (i : Nat) (f : Fi), w.fs[i]? = some f ∧ M7 w i { env := env, σ := [.cells ((wa2 w).map .t)] } := fun env a b c d e g h => ⟨hw, i, _, hxf, a, b, c, d, e, g, h, rfl, rfl, rfl⟩
    unfold wa2 at hM
    rw [specCount_at hok] at q3
    have e2 : specFits w i = ((specFits w i).1, 0) := by rw [specFits_in hok hxf]
    rw [e2] at q2
    have eC := specCan_at hok ha
    have eS := specSure_at hok
    unfold tWa wa2 at q1 q2 q3 q4'
    by_cases hz : waysN w.fits = 0
    · rw [if_pos hz] at eC eS
      rw [eC] at q1 hM
      rw [eS] at q4' hM
      rw [hz] at q3 hM
      have eL : lsT (([] : List Int), (10 : Int)) = .lit (.slice none 0 0) := rfl
      rw [eL] at q4' hM
      generalize (specFits w i).1 = Ft at *
      simp only [oneE] at q1 q2 q3
      have z0 : ((0 : Nat) : Int) = 0 := rfl
      rw [z0] at q3 hM
      simp only [go_sem, Nat.reduceEqDiff, Nat.reduceAdd, List.length_map, n1, t1, w0]
      refine ACallL.quiet1 q1 rfl rfl rfl ?_
      simp only [go_sem, Nat.reduceEqDiff, Nat.reduceAdd]
      refine ACallL.quiet1 q2 rfl rfl rfl ?_
      simp only [go_sem, Nat.reduceEqDiff, Nat.reduceAdd]
      refine ACallL.quiet1 q3 rfl rfl rfl ?_
      simp only [go_sem, Nat.reduceEqDiff, Nat.reduceAdd]
      refine ACallL.fresh1 q4' rfl ?_
      simp only [go_sem, Nat.reduceEqDiff, Int.reduceLT, Bool.not_true, Int.reduceBEq, Int.reduceBNe, Int.reduceGT, decide_false, beq_self_eq_true, bne_self_eq_false]
      exact hM _ rfl rfl rfl rfl rfl rfl rfl
    · rw [if_neg hz] at eC eS
      rw [eC] at q1 hM
      rw [eS] at q4' hM
      have g1 : decide (((waysN w.fits : Nat) : Int) < 0) = false := decide_eq_false (by omega)
      have g2 : decide (((waysN w.fits : Nat) : Int) > 0) = true := decide_eq_true (by omega)
      generalize (specFits w i).1 = Ft at *
      generalize (whoseL w.fits).getD i 0 = C at *
      generalize sureL w = S at *
      generalize waysN w.fits = N at *
      simp only [oneE] at q1 q2 q3
      simp only [go_sem, Nat.reduceEqDiff, Nat.reduceAdd, List.length_map, n1, t1, w0]
      refine ACallL.quiet1 q1 rfl rfl rfl ?_
      simp only [go_sem, Nat.reduceEqDiff, Nat.reduceAdd]
      refine ACallL.quiet1 q2 rfl rfl rfl ?_
      simp only [go_sem, Nat.reduceEqDiff, Nat.reduceAdd]
      refine ACallL.quiet1 q3 rfl rfl rfl ?_
      simp only [go_sem, Nat.reduceEqDiff, Nat.reduceAdd]
      refine ACallL.fresh1 q4' rfl ?_
      simp only [go_sem, Nat.reduceEqDiff, Bool.not_true, undef, beq_self_eq_true, bne_self_eq_false, g1, g2]
      exact hM _ rfl rfl rfl rfl rfl rfl rfl
  rintro ⟨env, σ, df, dk⟩ ⟨hw, i, f, hf, p1, p2, p3, p4, p5, p6, p7, hσ, hdf, hk⟩
  simp only at p1 p2 p3 p4 p5 p6 p7 hσ hdf hk
  subst hσ hdf hk
  have hok := (w.ok_iff).2 hw
  have hil := (List.getElem?_eq_some_iff.1 hf).1
  have hn4 := hw.nf
  have hn5 := hw.no
  have hlf : w.fits.length = w.fs.length := by unfold Wa.fits; simp
  obtain ⟨fs1, fs2⟩ := fits_small hw
  obtain ⟨h, hh, h6, hfree⟩ := used_free hw.fs hn4
  have hfits : (specFits w i).1 = ((fitN w.os f : Nat) : Int) := by rw [specFits_in hok hf]
  have hfg : w.fits.getD i 0 = fitN w.os f := by
    unfold Wa.fits
    rw [List.getD_eq_getElem?_getD, List.getElem?_map, hf]; rfl
  have hf64 : fitN w.os f < 64 := by
    rw [← hfg, List.getD_eq_getElem?_getD, List.getElem?_eq_getElem (by omega)]
    exact fs2 _ (List.getElem_mem _)
  have hT : ∀ l ∈ truths w.fits, ∃ x, l[i]? = some x ∧ (fitN w.os f).testBit x = true ∧ x < w.os.length := fun l hl => by
    obtain ⟨x, a, b, -⟩ := truths_at hl (show i < w.fits.length by omega)
    rw [hfg] at b
    refine ⟨x, a, b, ?_⟩
    rw [fitN_bit] at b
    rcases Nat.lt_or_ge x w.os.length with c | c
    · exact c
    · rw [fitP_no c] at b; cases b
  have hall : cntB (truths w.fits) (atN i) w.os.length = waysN w.fits := cntB_all fun l hl => by
    obtain ⟨x, a, -, c⟩ := hT l hl
    unfold atN
    rw [List.getD_eq_getElem?_getD, a]
    exact c
  have hcle : ∀ k, cntB (truths w.fits) (atN i) k ≤ waysN w.fits := fun k => List.length_filter_le _ _
  have hwl : waysN w.fits ≤ 625 := ways_bd fs1
  have hcan : ∃ C : Nat, C < 64 ∧ (specCan w i).1 = (C : Int) ∧ (∀ o, C.testBit o = decide (((truths w.fits).filter fun l => decide (atN i l = o)).length ≠ 0)) ∧ (waysN w.fits ≠ 0 → (whoseL w.fits).getD i 0 = C) := by
    rw [specCan_at hok hil]
    by_cases hz : waysN w.fits = 0
    · refine ⟨0, by omega, by rw [if_pos hz]; rfl, fun o => ?_, fun h => absurd hz h⟩
      have : truths w.fits = [] := List.eq_nil_of_length_eq_zero hz
      rw [this]
      simp
    · refine ⟨(whoseL w.fits).getD i 0, ?_, by rw [if_neg hz], fun o => ?_, fun _ => rfl⟩
      · have hs := whose_small w.fits hz
        rw [List.getD_eq_getElem?_getD, List.getElem?_eq_getElem (by rw [hs.1]; omega)]
        exact hs.2 _ (List.getElem_mem _)
      · rw [← only_ways w.fits (by omega) o, Bool.eq_iff_iff, decide_eq_true_eq, only_pos (by omega) (by omega)]
  obtain ⟨C, hC64, hC1, hCb, hCw⟩ := hcan
  have hC2 : (specCan w i).2 = if waysN w.fits = 0 then 10 else 0 := by
    rw [specCan_at hok hil]
    split <;> rfl
  have hwh : ∀ o, o < w.os.length → ∃ (F : Nat) (b : Bool), F < 64 ∧ specWhere w o = ((F : Int), b, (specCan w i).2) ∧ F.testBit i = C.testBit o := by
    intro o ho
    rw [hC2, specWhere_at hok ho]
    by_cases hz : waysN w.fits = 0
    · refine ⟨0, false, by omega, by rw [if_pos hz, if_pos hz]; rfl, ?_⟩
      rw [hCb]
      have : truths w.fits = [] := List.eq_nil_of_length_eq_zero hz
      rw [this]
      simp
    · refine ⟨maskW (whereP w o) 4, _, ?_, by rw [if_neg hz, if_neg hz], ?_⟩
      · have := maskW_lt (whereP w o) 4
        omega
      · rw [maskW_bit, decide_eq_true (show i < 4 by omega), Bool.true_and]
        unfold whereP
        rw [hCw hz]
  have hq8 := hC1 ▸ p3
  have hsure : waysN w.fits ≠ 0 → specSure w = (sureL w, 0) := fun hz => by rw [specSure_at hok, if_neg hz]
  have hsure0 : waysN w.fits = 0 → specSure w = ([], 10) := fun hz => by rw [specSure_at hok, if_pos hz]
  have hsl : (sureL w).length = w.fs.length := by unfold sureL; simp
  have hsi : waysN w.fits ≠ 0 → (sureL w)[i]? = some (soleI C) := fun hz => by
    unfold sureL
    rw [List.getElem?_map, List.getElem?_range hil, Option.map_some, hCw hz]
  rw [hfits] at p5
  generalize fitN w.os f = Ft at *
  generalize (specCan w i).2 = E at *
  generalize hSS : lsT (specSure w) = SS at *
  unfold wa2
  simp only [go_sem, Nat.reduceEqDiff, Nat.reduceAdd, Nat.reduceLeDiff, p1, List.length_map]
  refine awpL_loopK w.os.length (fun j s => s = { env := [(105, .t (vi j)), (14, .t (vi (cntB (truths w.fits) (atN i) j : Nat))), (2, .ptr 0 0), (5, .t (vi i)), (6, .t (vi C)), (7, .t (vi E)), (8, .t (vi Ft)), (10, .t (vi (waysN w.fits : Nat))), (12, .t SS), (104, .t (vi w.os.length))], σ := [.cells [.t (.slice 4 (w.os.map tOw)), .t (.slice 5 (w.fs.map tFi))]] })
    ⟨_, Sub.gc [0] [105, 14, 2, 5, 6, 7, 8, 10, 12, 104] rfl rfl, ?_⟩ ?_
  · rw [cntB_zero]
    exact St.gc_mk (by simp only [List.map_cons, List.map_nil, lk, Nat.reduceEqDiff, reduceIte, p1, p2, hq8, p4, p5, p6, p7]; rfl) rfl rfl rfl
  rintro o s ho rfl
  have ho0 : ((o : Int) < 0) = False := eq_false (by omega)
  cases g : decide ((o : Int) < w.os.length)
  · have hoe : o = w.os.length := by have := of_decide_eq_false g; omega
    rw [hoe] at g
    rw [hoe, hall]
    have hNN : (((waysN w.fits : Nat) : Int) == ((waysN w.fits : Nat) : Int)) = true := beq_self_eq_true _
    by_cases hz : waysN w.fits = 0
    · rw [if_pos hz] at hC2
      subst hC2
      generalize waysN w.fits = N at *
      simp only [go_sem, Nat.reduceEqDiff, Bool.not_true, Int.reduceBNe, Int.reduceNeg, undef, beq_self_eq_true, g]
      refine ACallL.quiet1 alive_ok rfl rfl rfl ?_
      simp only [go_sem, Nat.reduceEqDiff]
      exact finL_ret [] ⟨rfl, rfl, rfl, rfl, _, rfl, res_mk rfl⟩
    rw [if_neg hz] at hC2
    subst hC2
    have hS' : SS = .slice 1 ((sureL w).map vi) := by
      rw [← hSS, hsure hz]; rfl
    subst hS'
    have hsi' := hsi hz
    have hLL : ((w.fs.length : Int) == (w.fs.length : Int)) = true := beq_self_eq_true _
    have hi0 : ((i : Int) < 0) = False := eq_false (by omega)
    have hCne : C ≠ 0 := by
      intro e
      obtain ⟨l, hl⟩ := ways_pos.1 hz
      obtain ⟨x, a, -, -⟩ := hT l hl
      have h2 : C.testBit x = true := by
        rw [hCb, decide_eq_true_eq]
        intro h3
        have hm : l ∈ (truths w.fits).filter fun l => decide (atN i l = x) := by
          rw [List.mem_filter, decide_eq_true_eq]
          refine ⟨hl, ?_⟩
          unfold atN
          rw [List.getD_eq_getElem?_getD, a]
          rfl
        rw [List.eq_nil_of_length_eq_zero h3] at hm
        cases hm
      rw [e] at h2
      simp at h2
    have hsp := size_pos C hC64 hCne
    have hmax : max (0 : Int) (C : Int) = C := by omega
    have hrs := rsize_ok C (by omega)
    generalize waysN w.fits = N at *
    by_cases h1 : size C = 1
    · obtain ⟨hC3, hl6⟩ := size_one C hC64 h1
      have hso : soleI C = ((C.log2 : Nat) : Int) := by unfold soleI; rw [if_pos h1]
      rw [hso] at hsi'
      have g5 : decide (((C.log2 : Nat) : Int) ≥ 0) = true := decide_eq_true (by omega)
      have hl0 : (((C.log2 : Nat) : Int) < 0) = False := eq_false (by omega)
      have hshl : IntKind.i64.wrap (1 * 2 ^ (min C.log2 64)) = ((2 ^ C.log2 : Nat) : Int) := shl_one (by omega)
      have hCC : ((C : Int) == ((2 ^ C.log2 : Nat) : Int)) = true := by rw [← hC3]; exact beq_self_eq_true _
      generalize C.log2 = q at *
      simp only [go_sem, Nat.reduceEqDiff, Nat.reduceAdd, Bool.not_true, Int.reduceNeg, decide_true, undef, beq_self_eq_true, bne_self_eq_false, g, List.length_map, hsl, List.getElem?_map, hsi', Option.map_some, hl0, hshl, IntKind.bits, hCC]
      refine ACallL.quiet1 alive_ok rfl rfl rfl ?_
      simp only [go_sem, Nat.reduceEqDiff]
      exact finL_ret [] ⟨rfl, rfl, rfl, rfl, _, rfl, res_mk rfl⟩
    · have hso : soleI C = -1 := by unfold soleI; rw [if_neg h1]
      rw [hso] at hsi'
      have g5 : decide ((size C : Int) > 1) = true := decide_eq_true (by omega)
      simp only [go_sem, Nat.reduceEqDiff, Nat.reduceAdd, Int.reduceGE, Int.reduceNeg, decide_false, undef, beq_self_eq_true, bne_self_eq_false, g, List.length_map, hsl, List.getElem?_map, hsi', Option.map_some, hmax]
      refine ACallL.quiet1 hrs rfl rfl rfl ?_
      simp only [go_sem, Nat.reduceEqDiff, Int.reduceNeg, beq_self_eq_true, g5]
      refine ACallL.quiet1 alive_ok rfl rfl rfl ?_
      simp only [go_sem, Nat.reduceEqDiff, Int.reduceNeg]
      exact finL_ret [] ⟨rfl, rfl, rfl, rfl, _, rfl, res_mk rfl⟩
  have hol : o < w.os.length := by have := of_decide_eq_true g; omega
  have hfo := fixed_ok w hw hf hh h6 o hol
  have hfw := fixW_OK hw hf h6 o
  have hfok := ((fixW w i f h o).ok_iff).2 hfw
  have hLf : Lens (fixW w i f h o) := ⟨by have := hfw.no; omega, by have := hfw.nf; omega⟩
  have hco := Count_ok (fixW w i f h o) hLf
  rw [specCount_at hfok, fix_fits hw hf h6 hfree o, only_ways w.fits (by omega) o] at hco
  have hwr := Where_ok w o hL
  obtain ⟨F, b, hF64, hW1, hW2⟩ := hwh o hol
  rw [hW1] at hwr
  have hcs := cntB_succ (truths w.fits) (atN i) o
  have hcb := hCb o
  have hnle : ((truths w.fits).filter fun l => decide (atN i l = o)).length ≤ waysN w.fits := List.length_filter_le _ _
  have hnft : ((truths w.fits).filter fun l => decide (atN i l = o)).length ≠ 0 → Ft.testBit o = true := by
    intro hne
    obtain ⟨l, hl⟩ := List.exists_mem_of_ne_nil ((truths w.fits).filter fun l => decide (atN i l = o)) (fun e => hne (by rw [e]; rfl))
    rw [List.mem_filter, decide_eq_true_eq] at hl
    obtain ⟨x, a, b, -⟩ := hT l hl.1
    have := hl.2
    unfold atN at this
    rw [List.getD_eq_getElem?_getD, a] at this
    rw [← this]
    exact b
  rw [hcs]
  have hcle' := hcle o
  generalize ((truths w.fits).filter fun l => decide (atN i l = o)).length = n at *
  generalize cntB (truths w.fits) (atN i) o = c at *
  have hw1 : IntKind.i64.wrap ((o : Int) + 1) = ((o + 1 : Nat) : Int) := by rw [wrap_id (by omega) (by omega)]; omega
  have hwc : IntKind.i64.wrap ((c : Int) + (n : Int)) = ((c + n : Nat) : Int) := by rw [wrap_id (by omega) (by omega)]; omega
  have b1 := bit_eq (a := C) (i := o) (by omega)
  have b2 := bit_eq0 (a := Ft) (i := o) (by omega)
  have b3 := bit_val (a := C) (i := o) (by omega)
  have b4 := bit_val (a := F) (i := i) (by omega)
  rw [hW2] at b4
  have g3 : decide ((n : Int) < 0) = false := decide_eq_false (by omega)
  have hEE : (E == E) = true := beq_self_eq_true E
  have hi0 : ((i : Int) < 0) = False := eq_false (by omega)
  generalize hD : tWa (fixW w i f h o) = D at *
  unfold tWa wa2 at hfo hwr
  simp only [oneE] at hco
  simp only [whrE] at hwr
  by_cases hn0 : n = 0
  · subst hn0
    have hcb' : C.testBit o = false := hcb
    rw [hcb'] at b1 b3 b4
    have g4 : decide (((0 : Nat) : Int) > 0) = false := by decide
    simp only [go_sem, Nat.reduceEqDiff, Nat.reduceAdd, g]
    refine ACallL.fresh1 hfo rfl ?_
    simp only [go_sem, Nat.reduceEqDiff]
    refine ACallL.quiet1 hco rfl rfl rfl ?_
    simp only [go_sem, Nat.reduceEqDiff, Nat.reduceAdd, Int.reduceLT, Bool.not_true, Int.reduceGT, decide_false, undef, beq_self_eq_true, bne_self_eq_false, ho0, IntKind.bits, b1]
    refine ACallL.quiet1 hwr rfl rfl rfl ?_
    have hwc0 : IntKind.i64.wrap ((c : Int) + 0) = (c : Int) := by rw [wrap_id (by omega) (by omega)]; omega
    simp only [go_sem, Nat.reduceEqDiff, beq_self_eq_true, bne_self_eq_false, hwc0, ho0, hi0, IntKind.bits, b3, b4, hw1]
    exact ⟨hol, _, Sub.gc [0] [105, 14, 2, 5, 6, 7, 8, 10, 12, 104] rfl rfl, St.gc_mk rfl rfl rfl rfl⟩
  · have hcb' : C.testBit o = true := by rw [hcb]; exact decide_eq_true hn0
    rw [hcb'] at b1 b3 b4
    rw [hnft hn0] at b2
    have g4 : decide ((n : Int) > 0) = true := decide_eq_true (by omega)
    simp only [go_sem, Nat.reduceEqDiff, Nat.reduceAdd, g]
    refine ACallL.fresh1 hfo rfl ?_
    simp only [go_sem, Nat.reduceEqDiff]
    refine ACallL.quiet1 hco rfl rfl rfl ?_
    simp only [go_sem, Nat.reduceEqDiff, Nat.reduceAdd, Bool.not_true, beq_self_eq_true, bne_self_eq_false, g3, g4, ho0, IntKind.bits, b1, b2]
    refine ACallL.quiet1 hwr rfl rfl rfl ?_
    simp only [go_sem, Nat.reduceEqDiff, beq_self_eq_true, bne_self_eq_false, hwc, ho0, hi0, IntKind.bits, b3, b4, hw1]
    exact ⟨hol, _, Sub.gc [0] [105, 14, 2, 5, 6, 7, 8, 10, 12, 104] rfl rfl, St.gc_mk rfl rfl rfl rfl⟩
end Go.Proofs.YtnmmhkkmejbckaaDoor
