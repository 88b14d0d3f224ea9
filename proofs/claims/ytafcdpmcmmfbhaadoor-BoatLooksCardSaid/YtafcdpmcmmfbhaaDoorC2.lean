/- Proved here: laws that the statements need (BoY2, BoY3). No conditions but those that each law states. -/
import Derived.Test.YtafcdpmcmmfbhaaDoorC1
import Derived.Test.YtafcdpmcmmfbhaaDoorC0
import Derived.Test.YtafcdpmcmmfbhaaDoorC7

set_option linter.unusedSimpArgs false
set_option linter.unusedVariables false

/- The document's lists of places: its functions. -/
namespace Go.Proofs.YtafcdpmcmmfbhaaDoor
open Go Go.Ab

theorem tdiv_nat (a n : Nat) : (a : Int).tdiv (n : Int) = ((a / n : Nat) : Int) := by rw [Int.tdiv_eq_ediv_of_nonneg (by omega)]; rfl
set_option maxRecDepth 8000 in
set_option maxHeartbeats 4000000 in
theorem rsteps_ok (b : Bo) (hb : b.OK) (p q : Nat) (hp : p < 64) (hq : q < 64) : ACall Tryd.prog 88 [.t (.agg (bo5 b)), .t (vi p), .t (vi q)] [] (ret (vi (dist b p q))) := by
  refine ACall.walk k88 ?_
  unfold c88
  have hW := hb.W
  have w0 : ¬ (b.wide = 0) := by omega
  have d1 : (p : Int).tdiv b.wide = ((p / b.W : Nat) : Int) := by rw [hW.2.2]; exact tdiv_nat p b.W
  have d2 : (q : Int).tdiv b.wide = ((q / b.W : Nat) : Int) := by rw [hW.2.2]; exact tdiv_nat q b.W
  have d3 : (p : Int).tmod b.wide = ((p % b.W : Nat) : Int) := by rw [hW.2.2]; exact mod_nat p b.W
  have d4 : (q : Int).tmod b.wide = ((q % b.W : Nat) : Int) := by rw [hW.2.2]; exact mod_nat q b.W
  have b1 : p / b.W < 64 := Nat.lt_of_le_of_lt (Nat.div_le_self _ _) hp
  have b2 : q / b.W < 64 := Nat.lt_of_le_of_lt (Nat.div_le_self _ _) hq
  have b3 : p % b.W < 64 := Nat.lt_of_le_of_lt (Nat.mod_le _ _) hp
  have b4 : q % b.W < 64 := Nat.lt_of_le_of_lt (Nat.mod_le _ _) hq
  have hd : dist b p q = (p % b.W - q % b.W) + (q % b.W - p % b.W) + ((p / b.W - q / b.W) + (q / b.W - p / b.W)) := rfl
  rw [hd]
  generalize p / b.W = pr at *
  generalize q / b.W = qr at *
  generalize p % b.W = pc at *
  generalize q % b.W = qc at *
  have w1 : IntKind.i64.wrap (pr : Int) = pr := wrap_id (by omega) (by omega)
  have w2 : IntKind.i64.wrap (qr : Int) = qr := wrap_id (by omega) (by omega)
  have w3 : IntKind.i64.wrap ((pc : Int) - qc) = (pc : Int) - qc := wrap_id (by omega) (by omega)
  have w4 : IntKind.i64.wrap ((pr : Int) - qr) = (pr : Int) - qr := wrap_id (by omega) (by omega)
  have w5 : IntKind.i64.wrap (0 - ((pc : Int) - qc)) = (qc : Int) - pc := by rw [wrap_id (by omega) (by omega)]; omega
  have w6 : IntKind.i64.wrap (0 - ((pr : Int) - qr)) = (qr : Int) - pr := by rw [wrap_id (by omega) (by omega)]; omega
  have m1 : max ((pc : Int) - qc) ((qc : Int) - pc) = ((pc - qc + (qc - pc) : Nat) : Int) := by omega
  have m2 : max ((pr : Int) - qr) ((qr : Int) - pr) = ((pr - qr + (qr - pr) : Nat) : Int) := by omega
  have w7 : IntKind.i64.wrap (((pc - qc + (qc - pc) : Nat) : Int) + ((pr - qr + (qr - pr) : Nat) : Int)) = ((pc - qc + (qc - pc) + (pr - qr + (qr - pr)) : Nat) : Int) := by rw [wrap_id (by omega) (by omega)]; omega
  unfold bo5
  simp only [go_sem, Nat.reduceEqDiff, Nat.reduceAdd, Nat.reduceLeDiff, w0, d1, d2, d3, d4, w1, w2, w3, w4, w5, w6, m1, m2, w7]
  repeat' (first | refine AndL.mk ?_ ?_ | simp only [go_sem, Nat.reduceEqDiff, Nat.reduceAdd, Nat.reduceSub, Nat.reduceMul, Nat.reduceLT, Nat.reduceLeDiff, Nat.reduceMod, Nat.reduceDiv, Int.reduceToNat, Int.reduceLT, Int.reduceLE, Bool.not_true, Bool.not_false, reduceIte, Int.reduceEq, Int.reduceBEq, Int.reduceBNe, Int.reduceGT, Int.reduceGE, Int.reduceNeg, Int.reduceAdd, Int.reduceSub, Nat.reduceBEq, decide_true, decide_false, undef, beq_self_eq_true, bne_self_eq_false, Bool.and_true, Bool.true_and, Bool.and_false, Bool.false_and, Bool.or_true, Bool.true_or, Bool.or_false, Bool.false_or, undef, w0, d1, d2, d3, d4, w1, w2, w3, w4, w5, w6, m1, m2, w7])
  all_goals exact finL_ret [] ⟨rfl, rfl, rfl, rfl, _, rfl, res_mk rfl⟩
set_option maxRecDepth 8000 in
set_option maxHeartbeats 4000000 in
theorem rwithin_ok (b : Bo) (hb : b.OK) (s : Si) (hs : s.OK b) (p : Nat) (hp : p < 64) : ACall Tryd.prog 40 [.t (.agg (bo5 b)), .t (tSi s), .t (vi p)] [] (ret (vb (inB b s p))) := by
  refine ACall.walk k40 ?_
  unfold c40
  have hW := hb.W
  have w0 : ¬ (b.wide = 0) := by omega
  have d1 : (p : Int).tdiv b.wide = ((p / b.W : Nat) : Int) := by rw [hW.2.2]; exact tdiv_nat p b.W
  have d3 : (p : Int).tmod b.wide = ((p % b.W : Nat) : Int) := by rw [hW.2.2]; exact mod_nat p b.W
  have b1 : p / b.W < 64 := Nat.lt_of_le_of_lt (Nat.div_le_self _ _) hp
  have w1 : IntKind.i64.wrap ((p / b.W : Nat) : Int) = ((p / b.W : Nat) : Int) := i64_nat (by omega)
  have hc := hs.col
  have hr := hs.row
  have h1 := rin_ok ((p % b.W : Nat) : Int) s.c1 s.c2
  have h2 := rin_ok ((p / b.W : Nat) : Int) s.r1 s.r2
  have e1 : inB b s p = (wI ((p % b.W : Nat) : Int) s.c1 s.c2 && wI ((p / b.W : Nat) : Int) s.r1 s.r2) := by
    unfold inB
    rw [Bool.eq_iff_iff]
    simp only [Bool.and_eq_true, decide_eq_true_eq, wI_iff]
    omega
  rw [e1]
  generalize wI ((p % b.W : Nat) : Int) s.c1 s.c2 = B1 at *
  generalize wI ((p / b.W : Nat) : Int) s.r1 s.r2 = B2 at *
  obtain ⟨x1, x2, x3, x4, x5⟩ := s
  unfold bo5 tSi
  simp only [go_sem, Nat.reduceEqDiff, Nat.reduceAdd, Nat.reduceLeDiff, w0, d3]
  repeat' (first | refine AndL.mk ?_ ?_ | simp only [go_sem, Nat.reduceEqDiff, Nat.reduceAdd, Nat.reduceSub, Nat.reduceMul, Nat.reduceLT, Nat.reduceLeDiff, Nat.reduceMod, Nat.reduceDiv, Int.reduceToNat, Int.reduceLT, Int.reduceLE, Bool.not_true, Bool.not_false, reduceIte, Int.reduceEq, Int.reduceBEq, Int.reduceBNe, Int.reduceGT, Int.reduceGE, Int.reduceNeg, Int.reduceAdd, Int.reduceSub, Nat.reduceBEq, decide_true, decide_false, undef, beq_self_eq_true, bne_self_eq_false, Bool.and_true, Bool.true_and, Bool.and_false, Bool.false_and, Bool.or_true, Bool.true_or, Bool.or_false, Bool.false_or, undef, w0, d1, d3, w1])
  refine ACallL.quiet1 h1 rfl rfl rfl ?_
  cases B1
  · simp only [go_sem, Nat.reduceEqDiff, Nat.reduceAdd, Nat.reduceLeDiff, undef, undef]
    exact finL_ret [] ⟨rfl, rfl, rfl, rfl, _, rfl, res_mk rfl⟩
  · simp only [go_sem, Nat.reduceEqDiff, Nat.reduceAdd, Nat.reduceLeDiff, beq_self_eq_true, w0, d1, w1]
    refine ACallL.quiet1 h2 rfl rfl rfl ?_
    simp only [go_sem, Nat.reduceEqDiff, Nat.reduceAdd, Nat.reduceLeDiff, undef, beq_self_eq_true, undef]
    exact finL_ret [] ⟨rfl, rfl, rfl, rfl, _, rfl, res_mk rfl⟩


def evTo (a j : Nat) : List Nat := (List.range j).map fun k => a + k
theorem evTo_succ (a j : Nat) : evTo a (j + 1) = evTo a j ++ [a + j] := by unfold evTo; rw [List.range_succ, List.map_append]; rfl
theorem evTo_len (a j : Nat) : (evTo a j).length = j := by simp [evTo]
theorem every_form (a : Nat) : ∀ N : Nat, ((List.range N).filter fun p => decide (a ≤ p)) = evTo a (N - a)
  | 0 => by simp [evTo]
  | N + 1 => by
    rw [List.range_succ, List.filter_append, every_form a N]
    by_cases h : a ≤ N
    · rw [show N + 1 - a = (N - a) + 1 by omega, evTo_succ]
      simp [h]
    · rw [show N + 1 - a = N - a by omega]
      simp [h]
set_option maxRecDepth 8000 in
set_option maxHeartbeats 4000000 in
theorem every_ok (b : Bo) (hb : b.OK) (row : Nat) (hr : row ≤ 20) : ACall Tryd.prog 85 [.t (.agg (bo5 b)), .t (vi row)] [] (ret (tN (everyL b row))) := by
  refine ACall.walk k85 ?_
  have hW := hb.W
  have hN := hb.N
  have hRW : row * b.W ≤ 20 * 8 := Nat.mul_le_mul hr hW.2.1
  unfold c85
  unfold everyL
  rw [every_form]
  have w1 : IntKind.i64.wrap ((row : Int) * b.wide) = ((row * b.W : Nat) : Int) := by
    rw [hW.2.2, show ((row : Int) * (b.W : Int)) = ((row * b.W : Nat) : Int) by push_cast; rfl]
    exact wrap_id (by omega) (by omega)
  have w2 : IntKind.i64.wrap (b.wide * b.deep) = (b.N : Int) := by rw [hN.2.2]; exact wrap_id (by omega) (by omega)
  generalize row * b.W = a at *
  simp only [bo5, go_sem, Nat.reduceEqDiff, Nat.reduceAdd, Nat.reduceLeDiff, w1]
  refine awpL_loopK (b.N - a) (fun j st => st = { env := [(6, .t (vi ((a + j : Nat)))), (2, .ptr 0 0), (5, .loc 1 j)], σ := [.cells ((bo5 b).map .t), .row 1 (((evTo a j).map fun z : Nat => vi z).map .t)] }) ⟨_, Sub.trans (Sub.ghost 5 1 (by decide) rfl) (Sub.gc [0, 1] [6, 2, 5] rfl rfl), rfl⟩ ?_
  rintro j st hj rfl
  have hwj : IntKind.i64.wrap (((a + j : Nat) : Int) + 1) = ((a + (j + 1) : Nat) : Int) := by rw [wrap_id (by omega) (by omega)]; omega
  simp only [bo5, go_sem, Nat.reduceEqDiff, Nat.reduceAdd, Nat.reduceLeDiff, w2]
  cases g : decide (((a + j : Nat) : Int) < (b.N : Int))
  · have hje : j = b.N - a := by have := of_decide_eq_false g; omega
    subst hje
    simp only [go_sem, Nat.reduceEqDiff]
    refine finL_ret [] ⟨rfl, rfl, rfl, rfl, .loc 1 (b.N - a), rfl, res_mk ?_⟩
    rw [gc_loc (n := 10) (es := 1) (xs := (evTo a (b.N - a)).map fun z : Nat => vi z) rfl rfl (by simp [evTo_len])]
  · have hjl : j < b.N - a := by have := of_decide_eq_true g; omega
    have hrow : ((evTo a j).map fun z : Nat => vi z).map E.t ++ [E.t (vi ((a + j : Nat) : Int))] = ((evTo a (j + 1)).map fun z : Nat => vi z).map E.t := by rw [evTo_succ]; simp
    simp only [bo5, go_sem, Nat.reduceEqDiff, Nat.reduceAdd, Nat.reduceLT, List.length_map, hwj, evTo_len]
    refine ⟨⟨Nat.le_trans (show _ ≤ 100 by omega) (by decide), by omega⟩, hjl, _, Sub.gc [0, 1] [6, 2, 5] rfl rfl, ?_⟩
    rw [hrow]
    refine St.gc_mk rfl ?_ rfl rfl
    simp only [σgc, List.map_cons, List.map_nil, List.getD_cons_zero, List.getD_cons_succ, AO.gc, gc_row]
    rfl
set_option maxRecDepth 8000 in
set_option maxHeartbeats 4000000 in
theorem near_ok (b : Bo) (hb : b.OK) (l fr : List Nat) (hl : ∀ x ∈ l, x < 64) (hf : ∀ x ∈ fr, x < 64) (hl6 : l.length < 64) (hf6 : fr.length < 64) (s : Nat) : ACall Tryd.prog 63 [.t (.agg (bo5 b)), .t (tN l), .t (tN fr), .t (vi s)] [] (ret (tN (nearL b l fr s))) := by
  refine ACall.walk k63 ?_
  unfold c63
  have hst : ∀ (j k q p : Nat), fr[j]? = some q → l[k]? = some p → ACall Tryd.prog 88 [.t (.agg (bo5 b)), .t (vi q), .t (vi p)] [] (ret (vi (dist b q p))) := fun j k q p h h' => rsteps_ok b hb q p (hf q (List.mem_of_getElem? h)) (hl p (List.mem_of_getElem? h'))
  have hlen : ∀ j, ((l.take j).filter (hitB b fr s)).length ≤ 64 := fun j => Nat.le_trans (List.length_filter_le _ _) (by rw [List.length_take]; omega)
  unfold nearL
  simp only [bo5] at hst
  simp only [bo5, go_sem, Nat.reduceEqDiff, Nat.reduceAdd]
  refine awpL_loopK l.length (fun j st => st = { env := [(10, .t (vi j)), (1, .t (tN l)), (2, .t (tN fr)), (3, .t (vi s)), (4, .t (.ptr (.agg (bo5 b)) 0)), (9, .loc 0 ((l.take j).filter (hitB b fr s)).length)], σ := [.row 1 ((((l.take j).filter (hitB b fr s)).map fun z : Nat => vi z).map .t)] }) ⟨_, Sub.trans (Sub.ghost 9 1 (by decide) rfl) (Sub.gc [1] [10, 1, 2, 3, 4, 9] rfl rfl), rfl⟩ ?_
  rintro j st hj rfl
  have hlj := hlen j
  simp only [bo5, go_sem, Nat.reduceEqDiff, List.length_map]
  cases g : decide ((j : Int) < l.length)
  · have hje : j = l.length := by have := of_decide_eq_false g; omega
    subst hje
    rw [List.take_length]
    simp only [go_sem, Nat.reduceEqDiff]
    refine finL_ret [] ⟨rfl, rfl, rfl, rfl, .loc 0 (l.filter (hitB b fr s)).length, rfl, res_mk ?_⟩
    rw [gc_loc (n := 10) (es := 1) (xs := (l.filter (hitB b fr s)).map fun z : Nat => vi z) rfl rfl (by simp)]
  have hjl : j < l.length := by have := of_decide_eq_true g; omega
  have hwj : IntKind.i64.wrap ((j : Int) + 1) = ((j + 1 : Nat) : Int) := by rw [wrap_id (by omega) (by omega)]; omega
  have hx : l[j]? = some l[j] := List.getElem?_eq_getElem hjl
  have htk : (l.take (j + 1)).filter (hitB b fr s) = if hitB b fr s l[j] then (l.take j).filter (hitB b fr s) ++ [l[j]] else (l.take j).filter (hitB b fr s) := by
    rw [List.take_succ_eq_append_getElem hjl, List.filter_append]
    cases h : hitB b fr s l[j] <;> simp [h]
  have hhit : hitB b fr s l[j] = (fr.take fr.length).any fun q => decide (dist b q l[j] ≤ s) := by rw [List.take_length]; rfl
  have hst := fun k q h => hst k j q _ h hx
  generalize (l.take (j + 1)).filter (hitB b fr s) = A1 at *
  generalize (l.take j).filter (hitB b fr s) = A at *
  generalize hitB b fr s l[j] = HB at *
  generalize l[j] = p at *
  simp only [go_sem]
  refine awpL_loopK fr.length (fun k st => st = { env := [(12, .t (vi k)), (11, .t (vb ((fr.take k).any fun q => decide (dist b q p ≤ s)))), (10, .t (vi j)), (1, .t (tN l)), (2, .t (tN fr)), (3, .t (vi s)), (4, .t (.ptr (.agg (bo5 b)) 0)), (9, .loc 0 A.length)], σ := [.row 1 ((A.map fun z : Nat => vi z).map .t)] }) ⟨_, Sub.gc [0] [12, 11, 10, 1, 2, 3, 4, 9] rfl rfl, ?_⟩ ?_
  · refine St.gc_mk rfl ?_ rfl rfl
    simp only [σgc, List.map_cons, List.map_nil, List.getD_cons_zero, AO.gc, gc_row]
  rintro k st hk rfl
  simp only [bo5, go_sem, Nat.reduceEqDiff, List.length_map]
  cases g2 : decide ((k : Int) < fr.length)
  · have hke : k = fr.length := by have := of_decide_eq_false g2; omega
    subst hke
    rw [← hhit]
    cases HB
    · simp only [bo5, go_sem, Nat.reduceEqDiff, hwj]
      refine ⟨hjl, _, Sub.gc [0] [10, 1, 2, 3, 4, 9] rfl rfl, ?_⟩
      rw [htk]
      refine St.gc_mk rfl ?_ rfl rfl
      simp only [σgc, List.map_cons, List.map_nil, List.getD_cons_zero, AO.gc, gc_row]
      rfl
    · have hrow : (A.map fun z : Nat => vi z).map E.t ++ [E.t (vi (p : Int))] = (A1.map fun z : Nat => vi z).map E.t := by rw [htk]; simp
      have hA1 : A1.length = A.length + 1 := by rw [htk]; simp
      simp only [bo5, go_sem, Nat.reduceEqDiff, Nat.reduceLT, List.length_map, hwj, List.getElem?_map, hx, Option.map_some]
      refine ⟨⟨Nat.le_trans (show _ ≤ 100 by omega) (by decide), by omega⟩, hjl, _, Sub.gc [0] [10, 1, 2, 3, 4, 9] rfl rfl, ?_⟩
      rw [hrow, hA1]
      refine St.gc_mk rfl ?_ rfl rfl
      simp only [σgc, List.map_cons, List.map_nil, List.getD_cons_zero, AO.gc, gc_row]
  have hkl : k < fr.length := by have := of_decide_eq_true g2; omega
  have hwk : IntKind.i64.wrap ((k : Int) + 1) = ((k + 1 : Nat) : Int) := by rw [wrap_id (by omega) (by omega)]; omega
  have hy : fr[k]? = some fr[k] := List.getElem?_eq_getElem hkl
  have h88 := hst k _ hy
  have hany : ((fr.take (k + 1)).any fun q => decide (dist b q p ≤ s)) = (((fr.take k).any fun q => decide (dist b q p ≤ s)) || decide (dist b fr[k] p ≤ s)) := by
    rw [List.take_succ_eq_append_getElem hkl, List.any_append]; simp
  generalize ((fr.take (k + 1)).any fun q => decide (dist b q p ≤ s)) = V1 at *
  generalize ((fr.take k).any fun q => decide (dist b q p ≤ s)) = V0 at *
  generalize dist b fr[k] p = d at *
  generalize fr[k] = q at *
  have hd : decide ((d : Int) ≤ (s : Int)) = decide (d ≤ s) := decide_eq_decide.2 (by omega)
  subst hany
  cases V0
  · simp only [go_sem, Nat.reduceEqDiff, Nat.reduceAdd, beq_self_eq_true, List.getElem?_map, hx, hy, Option.map_some]
    repeat' (first | refine AndL.mk ?_ ?_ | refine ACallL.quiet1 h88 rfl rfl rfl ?_ | simp only [bo5, go_sem, Nat.reduceEqDiff, undef, beq_self_eq_true, Bool.false_or, undef, hwk, List.getElem?_map, hx, hy, Option.map_some, hd])
    refine ⟨hkl, _, Sub.gc [0] [12, 11, 10, 1, 2, 3, 4, 9] rfl rfl, ?_⟩
    refine St.gc_mk rfl ?_ rfl rfl
    simp only [σgc, List.map_cons, List.map_nil, List.getD_cons_zero, AO.gc, gc_row]
  · simp only [bo5, go_sem, Nat.reduceEqDiff, Bool.not_true, undef, Bool.true_or, undef, hwk]
    repeat' (first | refine AndL.mk ?_ ?_ | simp only [bo5, go_sem, Nat.reduceEqDiff, Nat.reduceAdd, Nat.reduceSub, Nat.reduceMul, Nat.reduceLT, Nat.reduceLeDiff, Nat.reduceMod, Nat.reduceDiv, Int.reduceToNat, Int.reduceLT, Int.reduceLE, Bool.not_true, Bool.not_false, reduceIte, Int.reduceEq, Int.reduceBEq, Int.reduceBNe, Int.reduceGT, Int.reduceGE, Int.reduceNeg, Int.reduceAdd, Int.reduceSub, Nat.reduceBEq, decide_true, decide_false, undef, beq_self_eq_true, bne_self_eq_false, Bool.and_true, Bool.true_and, Bool.and_false, Bool.false_and, Bool.or_true, Bool.true_or, Bool.or_false, Bool.false_or, undef, List.length_map, g2, hwk, List.getElem?_map, hx, hy, Option.map_some, hd])
    refine ⟨hkl, _, Sub.gc [0] [12, 11, 10, 1, 2, 3, 4, 9] rfl rfl, ?_⟩
    refine St.gc_mk rfl ?_ rfl rfl
    simp only [σgc, List.map_cons, List.map_nil, List.getD_cons_zero, AO.gc, gc_row]
set_option maxRecDepth 8000 in
set_option maxHeartbeats 4000000 in
theorem withinL_ok (b : Bo) (hb : b.OK) (l : List Nat) (hl : ∀ x ∈ l, x < 64) (hl6 : l.length < 64) (s : Si) (hs : s.OK b) : ACall Tryd.prog 86 [.t (.agg (bo5 b)), .t (tN l), .t (tSi s)] [] (ret (tN (withinL b l s))) := by
  refine ACall.walk k86 ?_
  unfold c86
  have h40 : ∀ (j p : Nat), l[j]? = some p → ACall Tryd.prog 40 [.t (.agg (bo5 b)), .t (tSi s), .t (vi p)] [] (ret (vb (inB b s p))) := fun j p h => rwithin_ok b hb s hs p (hl p (List.mem_of_getElem? h))
  have hlen : ∀ j, ((l.take j).filter (inB b s)).length ≤ 64 := fun j => Nat.le_trans (List.length_filter_le _ _) (by rw [List.length_take]; omega)
  unfold withinL
  generalize inB b s = P at *
  obtain ⟨x1, x2, x3, x4, x5⟩ := s
  simp only [bo5, tSi] at h40
  simp only [bo5, go_sem, Nat.reduceEqDiff, Nat.reduceAdd, tSi]
  refine awpL_loopK l.length (fun j st => st = { env := [(8, .t (vi j)), (1, .t (tN l)), (3, .t (.ptr (.agg (bo5 b)) 0)), (5, .t (.ptr (.agg [vi x1, vi x2, vi x3, vi x4, vi x5]) 0)), (7, .loc 0 ((l.take j).filter P).length)], σ := [.row 1 ((((l.take j).filter P).map fun z : Nat => vi z).map .t)] }) ⟨_, Sub.trans (Sub.ghost 7 1 (by decide) rfl) (Sub.gc [2] [8, 1, 3, 5, 7] rfl rfl), rfl⟩ ?_
  rintro j st hj rfl
  have hlj := hlen j
  simp only [bo5, go_sem, Nat.reduceEqDiff, List.length_map]
  cases g : decide ((j : Int) < l.length)
  · have hje : j = l.length := by have := of_decide_eq_false g; omega
    subst hje
    rw [List.take_length]
    simp only [go_sem, Nat.reduceEqDiff]
    refine finL_ret [] ⟨rfl, rfl, rfl, rfl, .loc 0 (l.filter P).length, rfl, res_mk ?_⟩
    rw [gc_loc (n := 10) (es := 1) (xs := (l.filter P).map fun z : Nat => vi z) rfl rfl (by simp)]
  have hjl : j < l.length := by have := of_decide_eq_true g; omega
  have hwj : IntKind.i64.wrap ((j : Int) + 1) = ((j + 1 : Nat) : Int) := by rw [wrap_id (by omega) (by omega)]; omega
  have hx : l[j]? = some l[j] := List.getElem?_eq_getElem hjl
  have htk : (l.take (j + 1)).filter P = if P l[j] then (l.take j).filter P ++ [l[j]] else (l.take j).filter P := by
    rw [List.take_succ_eq_append_getElem hjl, List.filter_append]
    cases h : P l[j] <;> simp [h]
  have h40 := h40 j _ hx
  generalize (l.take (j + 1)).filter P = A1 at *
  generalize (l.take j).filter P = A at *
  generalize P l[j] = HB at *
  generalize l[j] = p at *
  cases HB
  · simp only [go_sem, Nat.reduceEqDiff, Nat.reduceAdd, List.getElem?_map, hx, Option.map_some]
    repeat' (first | refine AndL.mk ?_ ?_ | refine ACallL.quiet1 h40 rfl rfl rfl ?_ | simp only [bo5, go_sem, Nat.reduceEqDiff, hwj, List.getElem?_map, hx, Option.map_some])
    refine ⟨hjl, _, Sub.gc [0] [8, 1, 3, 5, 7] rfl rfl, ?_⟩
    rw [htk]
    refine St.gc_mk rfl ?_ rfl rfl
    simp only [σgc, List.map_cons, List.map_nil, List.getD_cons_zero, AO.gc, gc_row]
    rfl
  · have hrow : (A.map fun z : Nat => vi z).map E.t ++ [E.t (vi (p : Int))] = (A1.map fun z : Nat => vi z).map E.t := by rw [htk]; simp
    have hA1 : A1.length = A.length + 1 := by rw [htk]; simp
    simp only [go_sem, Nat.reduceEqDiff, Nat.reduceAdd, List.getElem?_map, hx, Option.map_some]
    repeat' (first | refine AndL.mk ?_ ?_ | refine ACallL.quiet1 h40 rfl rfl rfl ?_ | simp only [bo5, go_sem, Nat.reduceEqDiff, Nat.reduceLT, List.length_map, hwj, List.getElem?_map, hx, Option.map_some])
    refine ⟨⟨Nat.le_trans (show _ ≤ 100 by omega) (by decide), by omega⟩, hjl, _, Sub.gc [0] [8, 1, 3, 5, 7] rfl rfl, ?_⟩
    rw [hrow, hA1]
    refine St.gc_mk rfl ?_ rfl rfl
    simp only [σgc, List.map_cons, List.map_nil, List.getD_cons_zero, AO.gc, gc_row]
end Go.Proofs.YtafcdpmcmmfbhaaDoor

/- The document's places of a boat. -/
namespace Go.Proofs.YtafcdpmcmmfbhaaDoor
open Go Go.Ab

theorem tw_spec {α : Type} (P : α → Bool) : ∀ l : List α, (l.takeWhile P).length ≤ l.length ∧ l.takeWhile P = l.take (l.takeWhile P).length ∧ (∀ i x, i < (l.takeWhile P).length → l[i]? = some x → P x = true) ∧ ∀ x, l[(l.takeWhile P).length]? = some x → P x = false
  | [] => by simp
  | y :: l => by
    obtain ⟨h1, h2, h3, h4⟩ := tw_spec P l
    rw [List.takeWhile_cons]
    cases h : P y
    · refine ⟨by simp, by simp, fun i x hi => by simp at hi, fun x hx => ?_⟩
      simp only [Bool.false_eq_true, if_false, List.length_nil, List.getElem?_cons_zero, Option.some.injEq] at hx
      subst hx; exact h
    · simp only [if_true, List.length_cons]
      refine ⟨by omega, by rw [List.take_succ_cons, ← h2], fun i x hi hx => ?_, fun x hx => ?_⟩
      · cases i with
        | zero => simp only [List.getElem?_cons_zero, Option.some.injEq] at hx; subst hx; exact h
        | succ i => rw [List.getElem?_cons_succ] at hx; exact h3 i x (by omega) hx
      · rw [List.getElem?_cons_succ] at hx; exact h4 x hx
theorem fwd_snoc (b : Bo) (all : List Nat) (sp : Nat) (s : Si) : ∀ (l : List Si) (st : List Nat × Nat), fwdL b all sp (l ++ [s]) st = (withinL b (nearL b all (fwdL b all sp l st).1 (sp * (s.minute.toNat - (fwdL b all sp l st).2))) s, s.minute.toNat)
  | [], st => rfl
  | x :: l, st => fwd_snoc b all sp s l _
theorem bwd_snoc (b : Bo) (all : List Nat) (sp : Nat) (s : Si) : ∀ (l : List Si) (st : List Nat × Nat), bwdL b all sp (l ++ [s]) st = (withinL b (nearL b all (bwdL b all sp l st).1 (sp * ((bwdL b all sp l st).2 - s.minute.toNat))) s, s.minute.toNat)
  | [], st => rfl
  | x :: l, st => bwd_snoc b all sp s l _
theorem fwd_sub (b : Bo) (all : List Nat) (sp : Nat) : ∀ (l : List Si) (st : List Nat × Nat), st.1.Sublist all → (fwdL b all sp l st).1.Sublist all
  | [], _, h => h
  | x :: l, st, _ => fwd_sub b all sp l _ ((List.filter_sublist ..).trans (List.filter_sublist ..))
theorem bwd_sub (b : Bo) (all : List Nat) (sp : Nat) : ∀ (l : List Si) (st : List Nat × Nat), st.1.Sublist all → (bwdL b all sp l st).1.Sublist all
  | [], _, h => h
  | x :: l, st, _ => bwd_sub b all sp l _ ((List.filter_sublist ..).trans (List.filter_sublist ..))
theorem fwd_le (b : Bo) (all : List Nat) (sp : Nat) : ∀ (l : List Si) (st : List Nat × Nat) (m : Nat), st.2 ≤ m → (∀ s ∈ l, s.minute ≤ (m : Int)) → (fwdL b all sp l st).2 ≤ m
  | [], _, _, h, _ => h
  | x :: l, st, m, _, h => fwd_le b all sp l _ m (by have := h x (List.mem_cons_self ..); show x.minute.toNat ≤ m; omega) fun s hs => h s (List.mem_cons_of_mem _ hs)
theorem bwd_ge (b : Bo) (all : List Nat) (sp : Nat) : ∀ (l : List Si) (st : List Nat × Nat) (m : Nat), m ≤ st.2 → (∀ s ∈ l, (m : Int) ≤ s.minute) → m ≤ (bwdL b all sp l st).2
  | [], _, _, h, _ => h
  | x :: l, st, m, _, h => bwd_ge b all sp l _ m (by have := h x (List.mem_cons_self ..); show m ≤ x.minute.toNat; omega) fun s hs => h s (List.mem_cons_of_mem _ hs)
theorem every_lt {b : Bo} (hb : b.OK) {row : Nat} {l : List Nat} (h : l.Sublist (everyL b row)) : (∀ x ∈ l, x < 64) ∧ l.length < 64 := by
  have hN := hb.N
  refine ⟨fun x hx => ?_, ?_⟩
  · have := ((every_mem hb).1 (h.subset hx)).1; omega
  · have h1 := h.length_le
    have h2 : (everyL b row).length ≤ b.N := by unfold everyL; exact Nat.le_trans (List.length_filter_le _ _) (by simp)
    omega
def Pl1 (b : Bo) (l : List Si) (m : Nat) (all out : List Nat) (st : St) : Prop := lk st.env 1 = .t (.slice 5 (l.map tSi)) ∧ lk st.env 2 = .t (vi m) ∧ lk st.env 4 = .t (.ptr (.agg (bo5 b)) 0) ∧ lk st.env 9 = .t (tN all) ∧ lk st.env 13 = .t (tN out) ∧ lk st.env 10 = .t (tN all) ∧ lk st.env 11 = .t (vi b.L) ∧ st.σ = [] ∧ st.df = [] ∧ st.k = 0
set_option maxRecDepth 8000 in
set_option maxHeartbeats 8000000 in
theorem rplaces_ok (b : Bo) (hb : b.OK) (l : List Si) (h5 : l.length ≤ 5) (hl : sawB b 0 l = true) (m : Nat) (hm : m ≤ b.L) (row : Nat) (hr : row ≤ 20) : ACall Tryd.prog 57 [.t (.agg (bo5 b)), .t (tSis l), .t (vi m), .t (vi row)] [] (ret (tN (refP b l m row))) := by
  obtain ⟨res, hR⟩ : ∃ res, res = refP b l m row := ⟨_, rfl⟩
  rw [← hR]
  refine ACall.walk k57 ?_
  have hLb := hb.L
  have hSp := hb.speed
  obtain ⟨hO, hP⟩ := (saw_iff (Int.le_refl 0)).1 hl
  have hall := every_lt hb (row := row) (List.Sublist.refl _)
  have h85 := every_ok b hb row hr
  have hsp : ∃ sp : Nat, b.speed = sp ∧ sp = b.speed.toNat ∧ sp ≤ 3 := ⟨b.speed.toNat, by omega, rfl, by omega⟩
  obtain ⟨sp, hs1, hs2, hs3⟩ := hsp
  have hmul : ∀ a c : Nat, a ≤ c → c ≤ 12 → IntKind.i64.wrap ((c : Int) - a) = ((c - a : Nat) : Int) ∧ IntKind.i64.wrap (b.speed * ((c - a : Nat) : Int)) = ((sp * (c - a) : Nat) : Int) := fun a c h1 h2 => by
    have h3 : sp * (c - a) ≤ 3 * 12 := Nat.mul_le_mul hs3 (by omega)
    refine ⟨by rw [wrap_id (by omega) (by omega)]; omega, ?_⟩
    rw [hs1, show ((sp : Int) * ((c - a : Nat) : Int)) = ((sp * (c - a) : Nat) : Int) by push_cast; rfl]
    exact wrap_id (by omega) (by omega)
  obtain ⟨out, hout⟩ : ∃ out, nearL b (everyL b row) (fwdL b (everyL b row) sp (earlyL l m) (everyL b row, 0)).1 (sp * (m - (fwdL b (everyL b row) sp (earlyL l m) (everyL b row, 0)).2)) = out := ⟨_, rfl⟩
  have hres : nearL b out (bwdL b (everyL b row) sp (lateL l m) (everyL b row, b.L)).1 (sp * ((bwdL b (everyL b row) sp (lateL l m) (everyL b row, b.L)).2 - m)) = res := by
    rw [hR, ← hout, hs2]; rfl
  clear hR
  unfold c57 tSis
  refine awpL_chop 6 (c1 := ?a1) (c2 := ?a2) (Pl1 b l m (everyL b row) out) ?hc ?_ ?_
  case hc => simp only [chop]; rfl
  · obtain ⟨k1, k2, k3, k4⟩ := tw_spec (fun s : Si => decide (s.minute ≤ m)) l
    change (earlyL l m).length ≤ l.length at k1
    change earlyL l m = l.take (earlyL l m).length at k2
    change ∀ i x, i < (earlyL l m).length → l[i]? = some x → decide (x.minute ≤ m) = true at k3
    change ∀ x, l[(earlyL l m).length]? = some x → decide (x.minute ≤ m) = false at k4
    have hF : ∀ i, (fwdL b (everyL b row) sp (l.take i) (everyL b row, 0)).1.Sublist (everyL b row) := fun i => fwd_sub _ _ _ _ _ (List.Sublist.refl _)
    have hsn := fun (i : Nat) (x : Si) (h : l[i]? = some x) => show fwdL b (everyL b row) sp (l.take (i + 1)) (everyL b row, 0) = (withinL b (nearL b (everyL b row) (fwdL b (everyL b row) sp (l.take i) (everyL b row, 0)).1 (sp * (x.minute.toNat - (fwdL b (everyL b row) sp (l.take i) (everyL b row, 0)).2))) x, x.minute.toNat) from by rw [List.take_add_one, h]; exact fwd_snoc b (everyL b row) sp x (l.take i) (everyL b row, 0)
    have hF0 : fwdL b (everyL b row) sp (l.take 0) (everyL b row, 0) = (everyL b row, 0) := rfl
    have hle := fun i m' h => fwd_le b (everyL b row) sp (l.take i) (everyL b row, 0) m' (Nat.zero_le _) h
    clear hres
    rw [k2] at hout
    generalize (earlyL l m).length = K at *
    generalize hEv : everyL b row = all at *
    have hnear := fun (fr : List Nat) (h : fr.Sublist all) (s : Nat) => near_ok b hb all fr hall.1 (every_lt hb (hEv ▸ h)).1 hall.2 (every_lt hb (hEv ▸ h)).2 s
    have hwith := fun (l' : List Nat) (h : l'.Sublist all) (s : Si) (hs : s.OK b) => withinL_ok b hb l' (every_lt hb (hEv ▸ h)).1 (every_lt hb (hEv ▸ h)).2 s hs
    generalize hFd : (fun i => fwdL b all sp (l.take i) (all, 0)) = F at *
    have hFe : ∀ i, fwdL b all sp (l.take i) (all, 0) = F i := fun i => by rw [← hFd]
    simp only [hFe] at hF hsn hF0 hle hout
    clear hFe hFd
    simp only [bo5] at h85 hnear hwith
    simp only [bo5, go_sem, Nat.reduceEqDiff, Nat.reduceAdd, Option.map_some]
    refine ACallL.fresh1 h85 rfl ?_
    simp only [go_sem, Nat.reduceEqDiff]
    refine awpL_loopK K (fun j st => st = { env := [(12, .t (vi j)), (1, .t (.slice 5 (l.map tSi))), (2, .t (vi m)), (4, .t (.ptr (.agg (bo5 b)) 0)), (9, .t (tN all)), (10, .t (tN (F j).1)), (11, .t (vi (F j).2))], σ := [] }) ⟨_, Sub.gc [] [12, 1, 2, 4, 9, 10, 11] rfl rfl, ?_⟩ ?_
    · exact St.gc_mk (by simp only [List.map_cons, List.map_nil, lk, Nat.reduceEqDiff, reduceIte, hF0]; rfl) rfl rfl rfl
    rintro j st hj rfl
    by_cases hjK : j = K
    · subst hjK
      have hfin := hnear (F j).1 (hF j) (sp * (m - (F j).2))
      have h2 := hle j m fun s hs => by
        obtain ⟨i, hi, e⟩ := List.getElem_of_mem hs
        rw [List.length_take] at hi
        exact of_decide_eq_true (k3 i s (by omega) (by rw [← e, List.getElem_take]; exact List.getElem?_eq_getElem _))
      obtain ⟨m1, m2⟩ := hmul (F j).2 m h2 (by omega)
      generalize (F j).1 = f1 at *
      generalize (F j).2 = f2 at *
      have hend : ∀ Q : Prop, True → True := fun _ _ => trivial
      cases hx : l[j]? with
      | none =>
        have hjl : l.length ≤ j := List.getElem?_eq_none_iff.1 hx
        have g1 : decide ((j : Int) < l.length) = false := decide_eq_false (by omega)
        simp only [bo5, go_sem, Nat.reduceEqDiff, Nat.reduceAdd, undef, undef, List.length_map, Option.map_some, g1, m1, m2]
        refine ACallL.fresh1 hfin rfl ?_
        simp only [go_sem, Nat.reduceEqDiff, Nat.reduceAdd, Option.map_some]
        exact ⟨rfl, rfl, rfl, rfl, by rw [← hout]; rfl, rfl, by rw [← hLb.2]; rfl, rfl, rfl, rfl⟩
      | some x =>
        have g1 : decide ((j : Int) < l.length) = true := decide_eq_true (by have := (List.getElem?_eq_some_iff.1 hx).1; omega)
        have hil : (j : Int) < l.length := of_decide_eq_true g1
        have g2 := k4 x hx
        obtain ⟨x1, x2, x3, x4, x5⟩ := x
        simp only at g2
        simp only [bo5, go_sem, Nat.reduceEqDiff, Nat.reduceAdd, decide_true, beq_self_eq_true, List.length_map, List.getElem?_map, Option.map_some, hx, tSi, hil, g2, m1, m2]
        refine ACallL.fresh1 hfin rfl ?_
        simp only [go_sem, Nat.reduceEqDiff, Nat.reduceAdd, Option.map_some]
        exact ⟨rfl, rfl, rfl, rfl, by rw [← hout]; rfl, rfl, by rw [← hLb.2]; rfl, rfl, rfl, rfl⟩
    · have hjl : j < l.length := by omega
      have hx : l[j]? = some l[j] := List.getElem?_eq_getElem hjl
      have hwj : IntKind.i64.wrap ((j : Int) + 1) = ((j + 1 : Nat) : Int) := by rw [wrap_id (by omega) (by omega)]; omega
      have g1 : decide ((j : Int) < l.length) = true := decide_eq_true (by omega)
      have hil : (j : Int) < l.length := by omega
      have g2 := k3 j _ (by omega) hx
      have hstep := hsn j _ hx
      have hxO := hO _ (List.getElem_mem hjl)
      have hsort : ∀ s ∈ l.take j, s.minute ≤ l[j].minute := fun s hs => by
        obtain ⟨i, hi, e⟩ := List.getElem_of_mem hs
        rw [List.length_take] at hi
        rw [← e, List.getElem_take]
        exact List.pairwise_iff_getElem.1 hP i j (by omega) hjl (by omega)
      generalize l[j] = x at *
      obtain ⟨x1, x2, x3, x4, x5⟩ := x
      have hm0 := hxO.1.min
      simp only at g2 hsort hm0 hstep
      obtain ⟨u, rfl⟩ : ∃ u : Nat, x1 = u := ⟨x1.toNat, by omega⟩
      rw [Int.toNat_natCast] at hstep
      have h2 := hle j u hsort
      obtain ⟨m1, m2⟩ := hmul (F j).2 u h2 (by omega)
      have c1 := hnear (F j).1 (hF j) (sp * (u - (F j).2))
      have c2 := hwith (nearL b all (F j).1 (sp * (u - (F j).2))) (List.filter_sublist ..) ⟨u, x2, x3, x4, x5⟩ hxO.1
      generalize hFj1 : F (j + 1) = F1 at *
      generalize (F j).1 = f1 at *
      generalize (F j).2 = f2 at *
      simp only [tSi] at c2
      simp only [bo5, go_sem, Nat.reduceEqDiff, Nat.reduceAdd, decide_true, beq_self_eq_true, List.length_map, List.getElem?_map, Option.map_some, hx, tSi, hil, g2, m1, m2]
      repeat' (first | refine AndL.mk ?_ ?_ | refine ACallL.fresh1 c1 rfl ?_ | refine ACallL.fresh1 c2 rfl ?_ | simp only [bo5, go_sem, Nat.reduceEqDiff, Nat.reduceAdd, List.getElem?_map, Option.map_some, hx, tSi, hwj])
      refine ⟨by omega, _, Sub.gc [] [12, 1, 2, 4, 9, 10, 11] rfl rfl, ?_⟩
      rw [hstep]
      rfl
  rintro ⟨env, σ, df, k⟩ ⟨q1, q2, q4, q9, q13, q10, q11, hσ, hdf, hk⟩
  simp only at q1 q2 q4 q9 q13 q10 q11 hσ hdf hk
  subst hσ hdf hk
  have hosub : out.Sublist (everyL b row) := by rw [← hout]; exact List.filter_sublist ..
  clear hout
  obtain ⟨k1, k2, k3, k4⟩ := tw_spec (fun s : Si => decide ((m : Int) ≤ s.minute)) l.reverse
  change (lateL l m).length ≤ _ at k1
  change lateL l m = l.reverse.take (lateL l m).length at k2
  change ∀ (i : Nat) (x : Si), i < (lateL l m).length → _ → decide ((m : Int) ≤ x.minute) = true at k3
  change ∀ (x : Si), l.reverse[(lateL l m).length]? = some x → decide ((m : Int) ≤ x.minute) = false at k4
  rw [List.length_reverse] at k1
  have hF : ∀ i, (bwdL b (everyL b row) sp (l.reverse.take i) (everyL b row, b.L)).1.Sublist (everyL b row) := fun i => bwd_sub _ _ _ _ _ (List.Sublist.refl _)
  have hsn := fun (i : Nat) (x : Si) (h : l.reverse[i]? = some x) => show bwdL b (everyL b row) sp (l.reverse.take (i + 1)) (everyL b row, b.L) = (withinL b (nearL b (everyL b row) (bwdL b (everyL b row) sp (l.reverse.take i) (everyL b row, b.L)).1 (sp * ((bwdL b (everyL b row) sp (l.reverse.take i) (everyL b row, b.L)).2 - x.minute.toNat))) x, x.minute.toNat) from by rw [List.take_add_one, h]; exact bwd_snoc b (everyL b row) sp x (l.reverse.take i) (everyL b row, b.L)
  have hF0 : bwdL b (everyL b row) sp (l.reverse.take 0) (everyL b row, b.L) = (everyL b row, b.L) := rfl
  have hle := fun i m' (h0 : m' ≤ b.L) h => bwd_ge b (everyL b row) sp (l.reverse.take i) (everyL b row, b.L) m' h0 h
  have hub : ∀ i, (bwdL b (everyL b row) sp (l.reverse.take i) (everyL b row, b.L)).2 ≤ b.L := fun i => by
    have : ∀ (l' : List Si) (st : List Nat × Nat), st.2 ≤ b.L → (∀ s ∈ l', s.OK b) → (bwdL b (everyL b row) sp l' st).2 ≤ b.L := by
      intro l'
      induction l' with
      | nil => intro st h _; exact h
      | cons x l' ih =>
        intro st h hl'
        refine ih _ ?_ fun s hs => hl' s (List.mem_cons_of_mem _ hs)
        have := (hl' x (List.mem_cons_self ..)).min
        show x.minute.toNat ≤ b.L
        omega
    exact this _ _ (Nat.le_refl _) fun s hs => (hO s (List.mem_reverse.1 (List.mem_of_mem_take hs))).1
  rw [k2] at hres
  have hrev : ∀ j, j < l.length → l.reverse[j]? = l[l.length - 1 - j]? := fun j h => List.getElem?_reverse h
  have hPr := List.pairwise_reverse.2 hP
  have hOr : ∀ s ∈ l.reverse, s.OK b := fun s hs => (hO s (List.mem_reverse.1 hs)).1
  generalize (lateL l m).length = K at *
  generalize hEv : everyL b row = all at *
  have hnear := fun (l' fr : List Nat) (h' : l'.Sublist all) (h : fr.Sublist all) (s : Nat) => near_ok b hb l' fr (every_lt hb (hEv ▸ h')).1 (every_lt hb (hEv ▸ h)).1 (every_lt hb (hEv ▸ h')).2 (every_lt hb (hEv ▸ h)).2 s
  have hwith := fun (l' : List Nat) (h : l'.Sublist all) (s : Si) (hs : s.OK b) => withinL_ok b hb l' (every_lt hb (hEv ▸ h)).1 (every_lt hb (hEv ▸ h)).2 s hs
  generalize hFd : (fun i => bwdL b all sp (l.reverse.take i) (all, b.L)) = F at *
  have hFe : ∀ i, bwdL b all sp (l.reverse.take i) (all, b.L) = F i := fun i => by rw [← hFd]
  simp only [hFe] at hF hsn hF0 hle hub hres
  clear hFe hFd
  simp only [bo5] at h85 hnear hwith
  have w0 : IntKind.i64.wrap ((l.length : Int) - 1) = (l.length : Int) - 1 := wrap_id (by omega) (by omega)
  simp only [go_sem, Nat.reduceEqDiff, List.length_map, q1, w0]
  refine awpL_loopK K (fun j st => st = { env := [(14, .t (vi ((l.length : Int) - 1 - j))), (1, .t (.slice 5 (l.map tSi))), (2, .t (vi m)), (4, .t (.ptr (.agg (bo5 b)) 0)), (9, .t (tN all)), (10, .t (tN (F j).1)), (11, .t (vi (F j).2)), (13, .t (tN out))], σ := [] }) ⟨_, Sub.gc [] [14, 1, 2, 4, 9, 10, 11, 13] rfl rfl, ?_⟩ ?_
  · exact St.gc_mk (by simp only [List.map_cons, List.map_nil, lk, Nat.reduceEqDiff, reduceIte, q1, q2, q4, q9, q13, q10, q11, hF0, Int.sub_zero, Int.natCast_zero]; rfl) rfl rfl rfl
  rintro j st hj rfl
  by_cases hjK : j = K
  · subst hjK
    have h2 := hle j m hm fun s hs => by
      obtain ⟨i, hi, e⟩ := List.getElem_of_mem hs
      rw [List.length_take] at hi
      exact of_decide_eq_true (k3 i s (by omega) (by rw [← e, List.getElem_take]; exact List.getElem?_eq_getElem _))
    obtain ⟨m1, m2⟩ := hmul m (F j).2 h2 (by have := hub j; omega)
    have hfin := hnear out (F j).1 hosub (hF j) (sp * ((F j).2 - m))
    generalize (F j).1 = f1 at *
    generalize (F j).2 = f2 at *
    by_cases hjl : j < l.length
    · have e1 := hrev j hjl
      have hi2 : l.length - 1 - j < l.length := by omega
      have hx : l[l.length - 1 - j]? = some l[l.length - 1 - j] := List.getElem?_eq_getElem hi2
      have g2 := k4 _ (e1.trans hx)
      have hcast : (l.length : Int) - 1 - j = ((l.length - 1 - j : Nat) : Int) := by omega
      rw [hcast]
      generalize l[l.length - 1 - j] = x at *
      generalize l.length - 1 - j = ix at *
      have g1 : decide ((ix : Int) ≥ 0) = true := decide_eq_true (by omega)
      have hil : (ix : Int) < l.length := by omega
      obtain ⟨x1, x2, x3, x4, x5⟩ := x
      simp only at g2
      have g2' : decide (x1 ≥ (m : Int)) = false := g2
      simp only [bo5, go_sem, Nat.reduceEqDiff, Nat.reduceAdd, decide_true, beq_self_eq_true, List.getElem?_map, Option.map_some, hx, tSi, g2', m1, m2]
      refine ACallL.fresh1 hfin rfl ?_
      simp only [go_sem, Nat.reduceEqDiff]
      subst hres
      exact finL_ret [] ⟨rfl, rfl, rfl, rfl, _, rfl, res_mk rfl⟩
    · have g1 : decide ((l.length : Int) - 1 - j ≥ 0) = false := decide_eq_false (by omega)
      simp only [bo5, go_sem, Nat.reduceEqDiff, Nat.reduceAdd, undef, undef, Option.map_some, g1, m1, m2]
      refine ACallL.fresh1 hfin rfl ?_
      simp only [go_sem, Nat.reduceEqDiff]
      subst hres
      exact finL_ret [] ⟨rfl, rfl, rfl, rfl, _, rfl, res_mk rfl⟩
  · have hjl : j < l.length := by omega
    have e1 := hrev j hjl
    have hi2 : l.length - 1 - j < l.length := by omega
    have hx : l[l.length - 1 - j]? = some l[l.length - 1 - j] := List.getElem?_eq_getElem hi2
    have hxr := e1.trans hx
    have g2 := k3 j _ (by omega) hxr
    have hstep := hsn j _ hxr
    have hxO := hOr _ (List.mem_of_getElem? hxr)
    have hsort : ∀ s ∈ l.reverse.take j, l[l.length - 1 - j].minute ≤ s.minute := fun s hs => by
      obtain ⟨i, hi, e⟩ := List.getElem_of_mem hs
      rw [List.length_take, List.length_reverse] at hi
      have hjr : j < l.reverse.length := by rw [List.length_reverse]; exact hjl
      have e3 : l.reverse[j] = l[l.length - 1 - j] := Option.some.inj ((List.getElem?_eq_getElem hjr).symm.trans hxr)
      rw [← e, List.getElem_take, ← e3]
      exact List.pairwise_iff_getElem.1 hPr i j (by rw [List.length_reverse]; omega) hjr (by omega)
    have hcast : (l.length : Int) - 1 - j = ((l.length - 1 - j : Nat) : Int) := by omega
    have hwj : IntKind.i64.wrap ((l.length : Int) - 1 - j - 1) = (l.length : Int) - 1 - ((j + 1 : Nat) : Int) := by rw [wrap_id (by omega) (by omega)]; omega
    rw [hcast] at hwj ⊢
    generalize l[l.length - 1 - j] = x at *
    generalize l.length - 1 - j = ix at *
    have g1 : decide ((ix : Int) ≥ 0) = true := decide_eq_true (by omega)
    have hil : (ix : Int) < l.length := by omega
    obtain ⟨x1, x2, x3, x4, x5⟩ := x
    have hm0 := hxO.min
    simp only at g2 hsort hm0 hstep
    have g2' : decide (x1 ≥ (m : Int)) = true := g2
    obtain ⟨u, rfl⟩ : ∃ u : Nat, x1 = u := ⟨x1.toNat, by omega⟩
    rw [Int.toNat_natCast] at hstep
    have h2 := hle j u (by omega) hsort
    obtain ⟨m1, m2⟩ := hmul u (F j).2 h2 (by have := hub j; omega)
    have c1 := hnear all (F j).1 (List.Sublist.refl _) (hF j) (sp * ((F j).2 - u))
    have c2 := hwith (nearL b all (F j).1 (sp * ((F j).2 - u))) (List.filter_sublist ..) ⟨u, x2, x3, x4, x5⟩ hxO
    generalize hFj1 : F (j + 1) = F1 at *
    generalize (F j).1 = f1 at *
    generalize (F j).2 = f2 at *
    simp only [tSi] at c2
    simp only [bo5, go_sem, Nat.reduceEqDiff, Nat.reduceAdd, decide_true, beq_self_eq_true, List.getElem?_map, Option.map_some, hx, tSi, g2', m1, m2]
    repeat' (first | refine AndL.mk ?_ ?_ | refine ACallL.fresh1 c1 rfl ?_ | refine ACallL.fresh1 c2 rfl ?_ | simp only [bo5, go_sem, Nat.reduceEqDiff, Nat.reduceAdd, List.getElem?_map, Option.map_some, hx, tSi, hwj])
    refine ⟨by omega, _, Sub.gc [] [14, 1, 2, 4, 9, 10, 11, 13] rfl rfl, ?_⟩
    rw [hstep]
    rfl
end Go.Proofs.YtafcdpmcmmfbhaaDoor
