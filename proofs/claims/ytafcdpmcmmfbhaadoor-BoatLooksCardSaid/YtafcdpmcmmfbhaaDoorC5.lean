/- Proved here: laws that the statements need (BoY9, BoYA). No conditions but those that each law states. -/
import Derived.Test.YtafcdpmcmmfbhaaDoorC4
import Derived.Test.YtafcdpmcmmfbhaaDoorBM

set_option linter.unusedSimpArgs false
set_option linter.unusedVariables false

/- The document's results of boats: Who, Wrong. -/
namespace Go.Proofs.YtafcdpmcmmfbhaaDoor
open Go Go.Ab

theorem or_add {a j : Nat} (h : a < 2 ^ j) : a ||| 2 ^ j = a + 2 ^ j := by
  have := Nat.two_pow_add_eq_or_of_lt h 1
  rw [Nat.mul_one] at this
  rw [Nat.or_comm, ← this, Nat.add_comm]
theorem rPlace_ok (b : Bo) (hb : b.OK) (n : Int) : ACall Tryd.prog 68 [.t (.agg (bo5 b)), .t (vi n)] [] (ret (vb (wI n 0 (b.wide * b.deep - 1)))) := by
  refine ACall.walk k68 ?_
  unfold c68
  have hN := hb.N
  have w1 : IntKind.i64.wrap (b.wide * b.deep) = b.wide * b.deep := wrap_id (by omega) (by omega)
  have w2 : IntKind.i64.wrap (b.wide * b.deep - 1) = b.wide * b.deep - 1 := wrap_id (by omega) (by omega)
  have h59 := rin_ok n 0 (b.wide * b.deep - 1)
  simp only [bo5, go_sem, Nat.reduceEqDiff, Nat.reduceAdd, Nat.reduceLeDiff, Option.map_some, w1, w2]
  refine ACallL.quiet1 h59 rfl rfl rfl ?_
  simp only [go_sem, Nat.reduceEqDiff]
  exact finL_ret [] ⟨rfl, rfl, rfl, rfl, _, rfl, res_mk rfl⟩
/-- The same, of boats that need not be valid: some answer. -/
theorem rPlace_any (b : Bo) (n : Int) : ∃ v : Bool, ACall Tryd.prog 68 [.t (.agg (bo5 b)), .t (vi n)] [] (ret (vb v)) := by
  refine ⟨wI n 0 (IntKind.i64.wrap (IntKind.i64.wrap (b.wide * b.deep) - 1)), ?_⟩
  refine ACall.walk k68 ?_
  unfold c68
  have h59 := rin_ok n 0 (IntKind.i64.wrap (IntKind.i64.wrap (b.wide * b.deep) - 1))
  simp only [bo5, go_sem, Nat.reduceEqDiff, Nat.reduceAdd, Nat.reduceLeDiff, Option.map_some]
  refine ACallL.quiet1 h59 rfl rfl rfl ?_
  simp only [go_sem, Nat.reduceEqDiff]
  exact finL_ret [] ⟨rfl, rfl, rfl, rfl, _, rfl, res_mk rfl⟩
set_option maxRecDepth 8000 in
set_option maxHeartbeats 4000000 in
theorem near_okR (b : Bo) (hb : b.OK) (l fr : List Nat) (hl : ∀ x ∈ l, x < 64) (hf : ∀ x ∈ fr, x < 64) (hl6 : l.length < 64) (hf6 : fr.length < 64) (s : Nat) : ACall Tryd.prog 63 [.t (.agg (bo5 b)), .t (tN l), .loc 0 fr.length, .t (vi s)] [.row 1 ((fr.map fun z : Nat => vi z).map .t)] (fun o σ' => ∃ a', (o = .ret (.t (tN (nearL b l fr s))) ∧ a' = .row 1 ((fr.map fun z : Nat => vi z).map .t)) ∧ σ' = [a']) := by
  refine ACall.walk k63 ?_
  unfold c63
  have hst : ∀ (j k q p : Nat), fr[j]? = some q → l[k]? = some p → ACall Tryd.prog 88 [.t (.agg (bo5 b)), .t (vi q), .t (vi p)] [] (ret (vi (dist b q p))) := fun j k q p h h' => rsteps_ok b hb q p (hf q (List.mem_of_getElem? h)) (hl p (List.mem_of_getElem? h'))
  have hlen : ∀ j, ((l.take j).filter (hitB b fr s)).length ≤ 64 := fun j => Nat.le_trans (List.length_filter_le _ _) (by rw [List.length_take]; omega)
  unfold nearL
  simp only [bo5] at hst
  simp only [bo5, go_sem, Nat.reduceEqDiff, Nat.reduceAdd]
  refine awpL_loopK l.length (fun j st => st = { env := [(10, .t (vi j)), (1, .t (tN l)), (2, .loc 0 fr.length), (3, .t (vi s)), (4, .t (.ptr (.agg (bo5 b)) 0)), (9, .loc 1 ((l.take j).filter (hitB b fr s)).length)], σ := [.row 1 ((fr.map fun z : Nat => vi z).map .t), .row 1 ((((l.take j).filter (hitB b fr s)).map fun z : Nat => vi z).map .t)] }) ⟨_, Sub.trans (Sub.ghost 9 1 (by decide) rfl) (Sub.gc [0, 2] [10, 1, 2, 3, 4, 9] rfl rfl), St.gc_mk rfl (by simp only [σgc, List.cons_append, List.nil_append, List.map_cons, List.map_nil, List.getD_cons_zero, List.getD_cons_succ, AO.gc, gc_row]; rfl) rfl rfl⟩ ?_
  rintro j st hj rfl
  have hlj := hlen j
  simp only [bo5, go_sem, Nat.reduceEqDiff, List.length_map]
  cases g : decide ((j : Int) < l.length)
  · have hje : j = l.length := by have := of_decide_eq_false g; omega
    subst hje
    rw [List.take_length]
    simp only [go_sem, Nat.reduceEqDiff]
    refine finL_ret [0] ⟨rfl, rfl, rfl, rfl, .loc 1 (l.filter (hitB b fr s)).length, rfl, _, ⟨?_, rfl⟩, ?_⟩
    · show Out.ret (E.gc [0] _ 12 (.loc 1 _)) = _
      rw [gc_loc (n := 10) (es := 1) (xs := (l.filter (hitB b fr s)).map fun z : Nat => vi z) rfl rfl (by simp)]
    · simp only [σgc, List.map_cons, List.map_nil, List.getD_cons_zero, AO.gc, gc_row]
  have hjl : j < l.length := by have := of_decide_eq_true g; omega
  have hwj : IntKind.i64.wrap ((j : Int) + 1) = ((j + 1 : Nat) : Int) := by rw [wrap_id (by omega) (by omega)]; omega
  have hx : l[j]? = some l[j] := List.getElem?_eq_getElem hjl
  have htk : (l.take (j + 1)).filter (hitB b fr s) = if hitB b fr s l[j] then (l.take j).filter (hitB b fr s) ++ [l[j]] else (l.take j).filter (hitB b fr s) := by
    rw [List.take_succ_eq_append_getElem hjl, List.filter_append]
    cases h : hitB b fr s l[j] <;> simp [h]
  have hhit : hitB b fr s l[j] = (fr.take fr.length).any fun q => decide (dist b q l[j] ≤ s) := by rw [List.take_length]; rfl
  have hst := fun k q h => hst k j q _ h hx
  generalize (l.take (j + 1)).filter (hitB b fr s) = A1 at *
  generalize (l.take j).filter (hitB b fr s) = A at *
  generalize hitB b fr s l[j] = HB at *
  generalize l[j] = p at *
  simp only [go_sem]
  refine awpL_loopK fr.length (fun k st => st = { env := [(12, .t (vi k)), (11, .t (vb ((fr.take k).any fun q => decide (dist b q p ≤ s)))), (10, .t (vi j)), (1, .t (tN l)), (2, .loc 0 fr.length), (3, .t (vi s)), (4, .t (.ptr (.agg (bo5 b)) 0)), (9, .loc 1 A.length)], σ := [.row 1 ((fr.map fun z : Nat => vi z).map .t), .row 1 ((A.map fun z : Nat => vi z).map .t)] }) ⟨_, Sub.gc [0, 1] [12, 11, 10, 1, 2, 3, 4, 9] rfl rfl, ?_⟩ ?_
  · refine St.gc_mk rfl ?_ rfl rfl
    simp only [σgc, List.map_cons, List.map_nil, List.getD_cons_zero, List.getD_cons_succ, AO.gc, gc_row]
  rintro k st hk rfl
  simp only [bo5, go_sem, Nat.reduceEqDiff, List.length_map]
  cases g2 : decide ((k : Int) < fr.length)
  · have hke : k = fr.length := by have := of_decide_eq_false g2; omega
    subst hke
    rw [← hhit]
    cases HB
    · simp only [bo5, go_sem, Nat.reduceEqDiff, hwj]
      refine ⟨hjl, _, Sub.gc [0, 1] [10, 1, 2, 3, 4, 9] rfl rfl, ?_⟩
      rw [htk]
      refine St.gc_mk rfl ?_ rfl rfl
      simp only [σgc, List.map_cons, List.map_nil, List.getD_cons_zero, List.getD_cons_succ, AO.gc, gc_row]
      rfl
    · have hrow : (A.map fun z : Nat => vi z).map E.t ++ [E.t (vi (p : Int))] = (A1.map fun z : Nat => vi z).map E.t := by rw [htk]; simp
      have hA1 : A1.length = A.length + 1 := by rw [htk]; simp
      simp only [bo5, go_sem, Nat.reduceEqDiff, Nat.reduceAdd, Nat.reduceLT, List.length_map, hwj, List.getElem?_map, hx, Option.map_some]
      refine ⟨⟨Nat.le_trans (show _ ≤ 100 by omega) (by decide), by omega⟩, hjl, _, Sub.gc [0, 1] [10, 1, 2, 3, 4, 9] rfl rfl, ?_⟩
      rw [hrow, hA1]
      refine St.gc_mk rfl ?_ rfl rfl
      simp only [σgc, List.map_cons, List.map_nil, List.getD_cons_zero, List.getD_cons_succ, AO.gc, gc_row]
  have hkl : k < fr.length := by have := of_decide_eq_true g2; omega
  have hkz : (k : Int) < fr.length := by omega
  have hwk : IntKind.i64.wrap ((k : Int) + 1) = ((k + 1 : Nat) : Int) := by rw [wrap_id (by omega) (by omega)]; omega
  have hy : fr[k]? = some fr[k] := List.getElem?_eq_getElem hkl
  have h88 := hst k _ hy
  have hany : ((fr.take (k + 1)).any fun q => decide (dist b q p ≤ s)) = (((fr.take k).any fun q => decide (dist b q p ≤ s)) || decide (dist b fr[k] p ≤ s)) := by
    rw [List.take_succ_eq_append_getElem hkl, List.any_append]; simp
  generalize ((fr.take (k + 1)).any fun q => decide (dist b q p ≤ s)) = V1 at *
  generalize ((fr.take k).any fun q => decide (dist b q p ≤ s)) = V0 at *
  generalize dist b fr[k] p = d at *
  generalize fr[k] = q at *
  have hd : decide ((d : Int) ≤ (s : Int)) = decide (d ≤ s) := decide_eq_decide.2 (by omega)
  subst hany
  cases V0
  · simp only [go_sem, Nat.reduceEqDiff, Nat.reduceAdd, beq_self_eq_true, List.length_map, hkz, List.getElem?_map, hx, hy, Option.map_some]
    repeat' (first | refine AndL.mk ?_ ?_ | refine ACallL.quiet1 h88 rfl rfl rfl ?_ | simp only [bo5, go_sem, Nat.reduceEqDiff, undef, beq_self_eq_true, Bool.false_or, undef, List.length_map, hkz, hwk, List.getElem?_map, hx, Option.map_some, hd])
    refine ⟨hkl, _, Sub.gc [0, 1] [12, 11, 10, 1, 2, 3, 4, 9] rfl rfl, ?_⟩
    refine St.gc_mk rfl ?_ rfl rfl
    simp only [σgc, List.map_cons, List.map_nil, List.getD_cons_zero, List.getD_cons_succ, AO.gc, gc_row]
  · simp only [bo5, go_sem, Nat.reduceEqDiff, Bool.not_true, undef, Bool.true_or, undef, hwk]
    repeat' (first | refine AndL.mk ?_ ?_ | simp only [bo5, go_sem, Nat.reduceEqDiff, Nat.reduceAdd, Nat.reduceSub, Nat.reduceMul, Nat.reduceLT, Nat.reduceLeDiff, Nat.reduceMod, Nat.reduceDiv, Int.reduceToNat, Int.reduceLT, Int.reduceLE, Bool.not_true, Bool.not_false, reduceIte, Int.reduceEq, Int.reduceBEq, Int.reduceBNe, Int.reduceGT, Int.reduceGE, Int.reduceNeg, Int.reduceAdd, Int.reduceSub, Nat.reduceBEq, decide_true, decide_false, undef, beq_self_eq_true, bne_self_eq_false, Bool.and_true, Bool.true_and, Bool.and_false, Bool.false_and, Bool.or_true, Bool.true_or, Bool.or_false, Bool.false_or, undef, List.length_map, g2, hkz, hwk, List.getElem?_map, hx, hy, Option.map_some, hd])
    refine ⟨hkl, _, Sub.gc [0, 1] [12, 11, 10, 1, 2, 3, 4, 9] rfl rfl, ?_⟩
    refine St.gc_mk rfl ?_ rfl rfl
    simp only [σgc, List.map_cons, List.map_nil, List.getD_cons_zero, List.getD_cons_succ, AO.gc, gc_row]
theorem alone_len {b : Bo} (hb : b.OK) {m p j : Nat} (hm : m ≤ b.L) (hp : p < b.N) (hh : hasB b m p j = true) : ((((plT b j m).length : Nat) : Int) == 1) = aloneB b m p j := by
  have hN := hb.N
  have h1 : aloneB b m p j = decide (canM b j m = 2 ^ p) := alone_iff (canM_lt hb j m) (by omega)
  rw [h1, Bool.eq_iff_iff, beq_iff_eq, decide_eq_true_eq]
  have hmem := fun q => plT_mem hb (i := j) hm q
  constructor
  · intro h
    have hl : (plT b j m).length = 1 := by omega
    obtain ⟨q, hq⟩ := List.length_eq_one_iff.1 hl
    rw [hq] at hmem
    have hpq : p = q := by have := (hmem p).2 hh; simpa using this
    subst hpq
    apply Nat.eq_of_testBit_eq
    intro i
    rw [Nat.testBit_two_pow, Bool.eq_iff_iff, ← hmem i]
    simp; omega
  · intro h
    have : plT b j m = [p] := by
      unfold plT placesL
      rw [h]
      have : ∀ N : Nat, ((List.range N).filter fun x => (2 ^ p).testBit x) = if p < N then [p] else [] := fun N => by
        induction N with
        | zero => simp
        | succ N ih =>
          rw [List.range_succ, List.filter_append, ih]
          by_cases c : p < N
          · rw [if_pos c, if_pos (by omega)]
            have : (2 ^ p).testBit N = false := by rw [Nat.testBit_two_pow]; simp; omega
            simp [this]
          · rw [if_neg c]
            by_cases c2 : p = N
            · subst c2
              rw [if_pos (by omega)]
              simp [Nat.testBit_two_pow]
            · rw [if_neg (by omega)]
              have : (2 ^ p).testBit N = false := by rw [Nat.testBit_two_pow]; simp; omega
              simp [this]
      rw [this, if_pos hp]
    rw [this]; rfl
set_option maxRecDepth 8000 in
set_option maxHeartbeats 8000000 in
theorem rWho_ok (b : Bo) (hl : Lens b) (m p : Int) : ACall Tryd.prog 27 [.t (.agg (bo5 b)), .t (vi m), .t (vi p)] [] (res (twoE (specWho b m p).1 (specWho b m p).2.1 (specWho b m p).2.2)) := by
  have h67 := rMinute_ok b m
  have herr : ∀ (v : Bool) (e : Int), e ≠ 0 → ACall Tryd.prog 68 [.t (.agg (bo5 b)), .t (vi p)] [] (ret (vb v)) → lookE b (b.isMinute m && v) = e → specWho b m p = (0, 0, e) → ACall Tryd.prog 27 [.t (.agg (bo5 b)), .t (vi m), .t (vi p)] [] (res (twoE (specWho b m p).1 (specWho b m p).2.1 (specWho b m p).2.2)) := fun v e he h68 e1 e2 => by
    have h61 := look_ok b hl (b.isMinute m && v)
    rw [e1] at h61
    rw [e2]
    refine ACall.walk k27 ?_
    unfold c27
    have g : (e != 0) = true := by simpa using he
    simp only [bo5] at h67 h68 h61
    generalize b.isMinute m = B1 at *
    simp only [bo5, go_sem, Nat.reduceEqDiff, Nat.reduceAdd, Option.map_some]
    cases B1
    · simp only [Bool.false_and] at h61
      repeat' (first | refine AndL.mk ?_ ?_ | refine ACallL.quiet1 h67 rfl rfl rfl ?_ | refine ACallL.quiet1 h61 rfl rfl rfl ?_ | simp only [go_sem, Nat.reduceEqDiff, Nat.reduceAdd, undef, undef, Option.map_some, g])
      exact finL_ret [] ⟨rfl, rfl, rfl, rfl, _, rfl, res_mk rfl⟩
    · simp only [Bool.true_and] at h61
      repeat' (first | refine AndL.mk ?_ ?_ | refine ACallL.quiet1 h67 rfl rfl rfl ?_ | refine ACallL.quiet1 h68 rfl rfl rfl ?_ | refine ACallL.quiet1 h61 rfl rfl rfl ?_ | simp only [go_sem, Nat.reduceEqDiff, Nat.reduceAdd, undef, beq_self_eq_true, undef, Option.map_some, g])
      exact finL_ret [] ⟨rfl, rfl, rfl, rfl, _, rfl, res_mk rfl⟩
  cases hok : b.ok
  · obtain ⟨v, hv⟩ := rPlace_any b p
    exact herr v 1 (by decide) hv (by unfold lookE; rw [hok]; rfl) (by unfold specWho; rw [hok]; rfl)
  have hb := b.ok_iff.1 hok
  have h68 := rPlace_ok b hb p
  cases hB : (b.isMinute m && wI p 0 (b.wide * b.deep - 1))
  · exact herr _ 2 (by decide) h68 (by unfold lookE; rw [hok, hB]; rfl) (by unfold specWho; rw [hok, hB]; rfl)
  clear herr
  have hLb := hb.L
  have hNb := hb.N
  have hnum := hb.num
  rw [Bool.and_eq_true] at hB
  obtain ⟨m, rfl, hm⟩ : ∃ n : Nat, m = n ∧ n ≤ b.L := ⟨m.toNat, by have := isMinute_iff.1 hB.1; omega, by have := isMinute_iff.1 hB.1; omega⟩
  obtain ⟨p, rfl, hp⟩ : ∃ n : Nat, p = n ∧ n < b.N := ⟨p.toNat, by have := wI_iff.1 hB.2; omega, by have := wI_iff.1 hB.2; omega⟩
  have h61 := look_ok b hl true
  rw [show lookE b true = 0 by unfold lookE; rw [hok]; rfl] at h61
  rw [hB.1] at h67
  rw [hB.2] at h68
  rw [specWho_ok hb hm hp]
  have t1 := fun (n : Nat) (hn : n < b.seen.length) => told_ok' hl hb hn hm
  have hnr := fun (n : Nat) => near_okR b hb (plT b n m) [p] (plT_lt hb n m).1 (by simp; omega) (plT_lt hb n m).2 (by simp) 0
  have hhas : ∀ n, decide (((nearL b (plT b n m) [p] 0).length : Int) > 0) = hasB b m p n := fun n => by
    rw [near_zero, Bool.eq_iff_iff, List.any_eq_true]
    constructor
    · rintro ⟨q, hq, h⟩
      have : q = p := by simpa using h
      subst this
      exact (plT_mem hb hm q).1 hq
    · intro h
      exact ⟨p, (plT_mem hb hm p).2 h, by simp⟩
  have hal := fun n h => alone_len hb (j := n) hm hp h
  obtain ⟨a1, a2, a3, ha⟩ : ∃ a1 a2 a3 : Int, (if allCan b then (((sureW b m p b.seen.length : Nat) : Int), ((canW b m p b.seen.length : Nat) : Int), (0 : Int)) else (0, 0, 10)) = (a1, a2, a3) := ⟨_, _, _, rfl⟩
  rw [ha]
  refine ACall.walk k27 ?_
  unfold c27
  have z1 : canW b m p 0 = 0 := rfl
  have z2 : sureW b m p 0 = 0 := rfl
  simp only [bo5] at h67 h68 h61 t1 hnr
  simp only [bo5, go_sem, Nat.reduceEqDiff, Nat.reduceAdd, Option.map_some]
  repeat' (first | refine AndL.mk ?_ ?_ | refine ACallL.quiet1 h67 rfl rfl rfl ?_ | refine ACallL.quiet1 h68 rfl rfl rfl ?_ | refine ACallL.quiet1 h61 rfl rfl rfl ?_ | simp only [go_sem, Nat.reduceEqDiff, Nat.reduceAdd, undef, beq_self_eq_true, bne_self_eq_false, undef, Option.map_some])
  refine awpL_loopK b.seen.length (fun j st => (∀ i < j, isT b i = true) ∧ st = { env := [(12, .t (vi j)), (1, .t (vi m)), (2, .t (vi p)), (3, .t (.ptr (.agg (bo5 b)) 0)), (10, .t (vi (sureW b m p j : Nat))), (11, .t (vi (canW b m p j : Nat)))], σ := [] }) ⟨_, Sub.gc [] [12, 1, 2, 3, 10, 11] rfl rfl, by intros; omega, by rw [z1, z2]; rfl⟩ ?_
  rintro j st hj ⟨hno, rfl⟩
  simp only [bo5, go_sem, Nat.reduceEqDiff, Nat.reduceAdd, List.length_map, Option.map_some]
  cases g : decide ((j : Int) < b.seen.length)
  · have hje : j = b.seen.length := by have := of_decide_eq_false g; omega
    subst hje
    have hA : allCan b = true := List.all_eq_true.2 fun k hk => hno k (List.mem_range.1 hk)
    rw [hA, if_pos rfl] at ha
    cases ha
    simp only [go_sem, Nat.reduceEqDiff]
    exact finL_ret [] ⟨rfl, rfl, rfl, rfl, _, rfl, res_mk rfl⟩
  have hjl : j < b.seen.length := by have := of_decide_eq_true g; omega
  have hwj : IntKind.i64.wrap ((j : Int) + 1) = ((j + 1 : Nat) : Int) := by rw [wrap_id (by omega) (by omega)]; omega
  have c1 := t1 j hjl
  cases hT : isT b j
  · have hA : allCan b = false := by
      rw [← Bool.not_eq_true]
      intro h
      have := List.all_eq_true.1 h j (List.mem_range.2 hjl)
      rw [show canQ b (plainQ b j) = isT b j from rfl, hT] at this; cases this
    rw [hA] at ha
    simp only [Bool.false_eq_true, if_false] at ha
    cases ha
    rw [hT] at c1
    simp only [Bool.false_eq_true, if_false] at c1
    simp only [go_sem, Nat.reduceEqDiff, Nat.reduceAdd, Option.map_some]
    refine ACallL.fresh1 c1 rfl ?_
    simp only [go_sem, Nat.reduceEqDiff, Int.reduceBNe]
    exact finL_ret [] ⟨rfl, rfl, rfl, rfl, _, rfl, res_mk rfl⟩
  rw [hT] at c1
  simp only [if_true] at c1
  have c2 := hnr j
  have hh := hhas j
  have hal := hal j
  have s1 : canW b m p (j + 1) = if hasB b m p j then canW b m p j ||| 2 ^ j else canW b m p j := rfl
  have s2 : sureW b m p (j + 1) = if aloneB b m p j then sureW b m p j ||| 2 ^ j else sureW b m p j := rfl
  have b1 : canW b m p j < 2 ^ j := maskOf_lt _ _
  have b2 : sureW b m p j < 2 ^ j := maskOf_lt _ _
  have hab : aloneB b m p j = true → hasB b m p j = true := fun h => by unfold aloneB at h; rw [Bool.and_eq_true] at h; exact h.1
  rw [or_add b1] at s1
  rw [or_add b2] at s2
  have hp8 : 2 ^ j ≤ 8 := Nat.pow_le_pow_right (n := 2) (j := 3) (by decide) (by omega)
  have c3 := power60_ok j (by omega)
  have hall' : ∀ i < j + 1, isT b i = true := fun i hi => by
    by_cases e : i < j
    · exact hno i e
    · rw [show i = j by omega]; exact hT
  generalize nearL b (plT b j m) [p] 0 = nl at *
  generalize plT b j m = pl at *
  generalize canW b m p (j + 1) = C1 at *
  generalize sureW b m p (j + 1) = S1 at *
  generalize canW b m p j = C0 at *
  generalize sureW b m p j = S0 at *
  generalize 2 ^ j = q at *
  generalize hasB b m p j = B1 at *
  generalize aloneB b m p j = B2 at *
  have hw1 : IntKind.i64.wrap ((C0 : Int) + (q : Int)) = ((C0 + q : Nat) : Int) := by rw [wrap_id (by omega) (by omega)]; omega
  have hw2 : IntKind.i64.wrap ((S0 : Int) + (q : Int)) = ((S0 + q : Nat) : Int) := by rw [wrap_id (by omega) (by omega)]; omega
  simp only [go_sem, Nat.reduceEqDiff, Nat.reduceAdd, Option.map_some]
  refine ACallL.fresh1 c1 rfl ?_
  simp only [go_sem, Nat.reduceEqDiff, Nat.reduceAdd, Nat.reduceLT, bne_self_eq_false, Option.map_some]
  refine lend1 (m := 0) c2 rfl rfl rfl ?_
  rintro o a ⟨rfl, rfl⟩
  simp only [go_sem, Nat.reduceEqDiff, List.length_map, Out.ren, E.ren, E.rens, AO.ren]
  cases B1
  · have hB2 : B2 = false := by
      rw [← Bool.not_eq_true]
      intro h
      have := hab h
      cases this
    subst hB2
    simp only [Bool.false_eq_true, if_false] at s1 s2
    subst s1 s2
    simp only [bo5, go_sem, Nat.reduceEqDiff, hwj, hh]
    exact ⟨hjl, _, Sub.gc [] [12, 1, 2, 3, 10, 11] rfl rfl, hall', rfl⟩
  · have hal := hal rfl
    simp only [if_true] at s1
    simp only [go_sem, Nat.reduceEqDiff, hh]
    refine ACallL.quiet1 c3 rfl rfl rfl ?_
    cases B2
    · simp only [Bool.false_eq_true, if_false] at s2
      subst s1 s2
      simp only [bo5, go_sem, Nat.reduceEqDiff, List.length_map, hwj, hal, hw1]
      exact ⟨hjl, _, Sub.gc [] [12, 1, 2, 3, 10, 11] rfl rfl, hall', rfl⟩
    · simp only [if_true] at s2
      subst s1 s2
      simp only [go_sem, Nat.reduceEqDiff, List.length_map, hal, hw1]
      refine ACallL.quiet1 c3 rfl rfl rfl ?_
      simp only [bo5, go_sem, Nat.reduceEqDiff, hwj, hw2]
      exact ⟨hjl, _, Sub.gc [] [12, 1, 2, 3, 10, 11] rfl rfl, hall', rfl⟩
end Go.Proofs.YtafcdpmcmmfbhaaDoor

/- The document's results of boats: Wrong. -/
namespace Go.Proofs.YtafcdpmcmmfbhaaDoor
open Go Go.Ab

theorem fwd_withS (b : Bo) (S : List (List Si)) (all : List Nat) (sp : Nat) : ∀ (l : List Si) (st : List Nat × Nat), fwdL (withS b S) all sp l st = fwdL b all sp l st
  | [], _ => rfl
  | _ :: l, _ => fwd_withS b S all sp l _
theorem bwd_withS (b : Bo) (S : List (List Si)) (all : List Nat) (sp : Nat) : ∀ (l : List Si) (st : List Nat × Nat), bwdL (withS b S) all sp l st = bwdL b all sp l st
  | [], _ => rfl
  | _ :: l, _ => bwd_withS b S all sp l _
theorem refP_withS (b : Bo) (S : List (List Si)) (l : List Si) (m row : Nat) : refP (withS b S) l m row = refP b l m row := by
  have h1 := fwd_withS b S (everyL b row) b.speed.toNat (earlyL l m) (everyL b row, 0)
  have h2 := bwd_withS b S (everyL b row) b.speed.toNat (lateL l m) (everyL b row, b.L)
  show nearL b (nearL b (everyL b row) (fwdL (withS b S) (everyL b row) b.speed.toNat (earlyL l m) (everyL b row, 0)).1 (b.speed.toNat * (m - (fwdL (withS b S) (everyL b row) b.speed.toNat (earlyL l m) (everyL b row, 0)).2))) (bwdL (withS b S) (everyL b row) b.speed.toNat (lateL l m) (everyL b row, b.L)).1 (b.speed.toNat * ((bwdL (withS b S) (everyL b row) b.speed.toNat (lateL l m) (everyL b row, b.L)).2 - m)) = _
  rw [h1, h2]; rfl
theorem size_full : ∀ n ≤ 5, ∀ s < 2 ^ n, size s ≤ n ∧ (size s = n → s = 2 ^ n - 1) := by decide +kernel
theorem size_full' : ∀ n ≤ 5, size (2 ^ n - 1) = n := by decide +kernel
/-- The best set among the first ones. -/
structure Best (b : Bo) (i n s B : Nat) : Prop where
  lt : B < 2 ^ n
  can : canQ b (outQ b i B) = true
  low : B < s ∨ B = 2 ^ n - 1
  min : ∀ s' < s, canQ b (outQ b i s') = true → size B < size s' ∨ (size B = size s' ∧ B ≤ s')
theorem Best.next {b : Bo} {i n s B : Nat} (hn : n ≤ 5) (h : Best b i n s B) (hs : s < 2 ^ n) : (size s < size B → canQ b (outQ b i s) = true → Best b i n (s + 1) s) ∧ ((size s < size B → canQ b (outQ b i s) = false) → Best b i n (s + 1) B) := by
  constructor
  · intro h1 h2
    refine ⟨hs, h2, .inl (by omega), fun s' hs' hc => ?_⟩
    by_cases c : s' = s
    · subst c; exact .inr ⟨rfl, Nat.le_refl _⟩
    · rcases h.min s' (by omega) hc with h3 | h3
      · exact .inl (by omega)
      · exact .inl (by omega)
  · intro h1
    refine ⟨h.lt, h.can, ?_, fun s' hs' hc => ?_⟩
    · rcases h.low with h2 | h2
      · exact .inl (by omega)
      · exact .inr h2
    · by_cases c : s' = s
      · subst c
        by_cases d : size s' < size B
        · rw [h1 d] at hc; cases hc
        · rcases Nat.lt_or_ge (size B) (size s') with d2 | d2
          · exact .inl d2
          · have e : size B = size s' := by omega
            refine .inr ⟨e, ?_⟩
            rcases h.low with h2 | h2
            · omega
            · subst h2
              rw [size_full' n hn] at e
              have := (size_full n hn s' hs).2 e.symm
              omega
      · exact h.min s' (by omega) hc
theorem Best.end {b : Bo} (hb : b.OK) {i B : Nat} (hi : i < b.seen.length) (h : Best b i (seenOf b i).length (2 ^ (seenOf b i).length) B) : B = wrongR b i := by
  obtain ⟨h1, h2, h3⟩ := wrong_spec hb hi
  have a1 := h.min _ h1 h2
  have a2 := h3 B h.lt h.can
  omega
set_option maxRecDepth 8000 in
set_option maxHeartbeats 8000000 in
theorem rWrong_ok (b : Bo) (hl : Lens b) (boat : Int) : ACall Tryd.prog 31 [.t (.agg (bo5 b)), .t (vi boat)] [] (res (oneE (specWrong b boat).1 (specWrong b boat).2)) := by
  have h62 := rBoat_ok b hl boat
  have h61 := look_ok b hl (b.isBoat boat)
  have herr : ∀ e : Int, e ≠ 0 → lookE b (b.isBoat boat) = e → specWrong b boat = (0, e) → ACall Tryd.prog 31 [.t (.agg (bo5 b)), .t (vi boat)] [] (res (oneE (specWrong b boat).1 (specWrong b boat).2)) := fun e he e1 e2 => by
    rw [e1] at h61
    rw [e2]
    refine ACall.walk k31 ?_
    unfold c31
    have g : (e != 0) = true := by simpa using he
    simp only [bo5] at h62 h61
    simp only [bo5, go_sem, Nat.reduceEqDiff, Nat.reduceAdd, Option.map_some]
    repeat' (first | refine AndL.mk ?_ ?_ | refine ACallL.quiet1 h62 rfl rfl rfl ?_ | refine ACallL.quiet1 h61 rfl rfl rfl ?_ | simp only [go_sem, Nat.reduceEqDiff, Nat.reduceAdd, Option.map_some, g])
    exact finL_ret [] ⟨rfl, rfl, rfl, rfl, _, rfl, res_mk rfl⟩
  cases hok : b.ok
  · exact herr 1 (by decide) (by unfold lookE; rw [hok]; rfl) (by unfold specWrong; rw [hok]; rfl)
  cases hB : b.isBoat boat
  · exact herr 2 (by decide) (by unfold lookE; rw [hok, hB]; rfl) (by unfold specWrong; rw [hok, hB]; rfl)
  clear herr
  obtain ⟨n, rfl, hn⟩ : ∃ n : Nat, boat = n ∧ n < b.seen.length := ⟨boat.toNat, by have := isBoat_iff.1 hB; omega, by have := isBoat_iff.1 hB; omega⟩
  have hb := b.ok_iff.1 hok
  rw [hB] at h61 h62
  rw [show lookE b true = 0 by unfold lookE; rw [hok]; rfl] at h61
  rw [specWrong_ok hb hn]
  have hs := seenOf_at hn
  have hil : (n : Int) < b.seen.length := by omega
  have h5 := hb.lens _ (seenOf_mem hn)
  have hz := wrong_zero hb hn
  have hend := fun B => Best.end hb hn (B := B)
  have hfull := can_none hb n
  -- the document's places without a set
  have h57 : ∀ w : Nat, w < 32 → ∃ pl : List Nat, ACall Tryd.prog 57 [.t (.agg (bo5 b)), .t (tSis (kept (seenOf b n) w (seenOf b n).length)), .t (vi (0 : Nat)), .t (vi (0 : Nat))] [] (ret (tN pl)) ∧ decide ((pl.length : Int) > 0) = canQ b (outQ b n w) := fun w hw => by
    have hx := oneB_OK hb hn w
    have hsub := kept_subl (seenOf b n) w
    have hsaw := saw_sub hsub (hb.saw _ (seenOf_mem hn))
    have hsaw' : sawB (oneB b n w) 0 (kept (seenOf b n) w (seenOf b n).length) = true := (saw_bo (b := b) (x := oneB b n w) rfl rfl rfl _ 0).trans hsaw
    refine ⟨_, rplaces_ok b hb _ (Nat.le_trans hsub.length_le h5) hsaw 0 (Nat.zero_le _) 0 (by omega), ?_⟩
    have he : refP (oneB b n w) (seenOf (oneB b n w) 0) 0 0 = placesL (canAt (oneB b n w) (rowQ (oneB b n w) 0 0) 0) (oneB b n w).N := refP_eq hx (q := rowQ (oneB b n w) 0 0) rfl rfl hsaw' (Nat.zero_le _)
    have he2 : refP b (kept (seenOf b n) w (seenOf b n).length) 0 0 = refP (oneB b n w) (seenOf (oneB b n w) 0) 0 0 := (refP_withS b _ _ 0 0).symm
    rw [he2, he, ← one_can hb hn]
    exact (decide_eq_decide.2 (by omega)).trans (places_ne hx (rowQ (oneB b n w) 0 0) (Nat.zero_le _))
  have h570 := h57 0 (by decide)
  rw [kept_nought] at h570
  have hkept := fun (w : Nat) (hw : w < 32) => without_ok (seenOf b n) (Nat.le_trans h5 (by decide)) w (by omega)
  refine ACall.walk k31 ?_
  unfold c31
  unfold wrongV
  generalize hq : (if wrongR b n = 0 then ((0 : Int), (4 : Int)) else ((wrongR b n : Nat), 0)) = q
  generalize hll : seenOf b n = l at *
  have hp2 : 2 ^ l.length ≤ 32 := Nat.pow_le_pow_right (n := 2) (by decide) h5
  have hp1 := Nat.two_pow_pos l.length
  have h54 := power60_ok l.length (by omega)
  obtain ⟨pl0, c570, hpl0⟩ := h570
  rw [← hz] at hpl0
  simp only [bo5, tSis] at h62 h61 c570 hkept
  simp only [bo5, go_sem, Nat.reduceEqDiff, Nat.reduceAdd, Option.map_some]
  repeat' (first | refine AndL.mk ?_ ?_ | refine ACallL.quiet1 h62 rfl rfl rfl ?_ | refine ACallL.quiet1 h61 rfl rfl rfl ?_ | refine ACallL.fresh1 c570 rfl ?_ | simp only [tSis, go_sem, Nat.reduceEqDiff, Nat.reduceAdd, bne_self_eq_false, List.length_map, List.getElem?_map, Option.map_some, hs])
  by_cases hw0 : wrongR b n = 0
  · rw [decide_eq_true hw0] at hpl0
    rw [if_pos hw0] at hq
    subst hq
    simp only [go_sem, hpl0]
    exact finL_ret [] ⟨rfl, rfl, rfl, rfl, _, rfl, res_mk rfl⟩
  rw [decide_eq_false hw0] at hpl0
  rw [if_neg hw0] at hq
  subst hq
  have wb : IntKind.i64.wrap (((2 ^ l.length : Nat) : Int) - 1) = ((2 ^ l.length - 1 : Nat) : Int) := by rw [wrap_id (by omega) (by omega)]; omega
  simp only [go_sem, Nat.reduceEqDiff, List.length_map, hpl0]
  refine ACallL.quiet1 h54 rfl rfl rfl ?_
  simp only [go_sem, Nat.reduceEqDiff, wb]
  refine awpL_loopK (2 ^ l.length) (fun s st => ∃ B, Best b n l.length s B ∧ st = { env := [(9, .t (vi s)), (8, .t (vi B)), (7, .t (.slice 5 (l.map tSi))), (2, .t (.ptr (.agg (bo5 b)) 0))], σ := [] }) ⟨_, Sub.gc [] [9, 8, 7, 2] rfl rfl, 2 ^ l.length - 1, ⟨by omega, hfull, .inr rfl, by intros; omega⟩, rfl⟩ ?_
  rintro s st hs' ⟨B, hB', rfl⟩
  simp only [bo5, go_sem, Nat.reduceEqDiff, List.length_map]
  refine ACallL.quiet1 h54 rfl rfl rfl ?_
  simp only [go_sem, Nat.reduceEqDiff]
  cases g : decide ((s : Int) < ((2 ^ l.length : Nat) : Int))
  · have hse : s = 2 ^ l.length := by have := of_decide_eq_false g; omega
    subst hse
    have he := hend B hB'
    subst he
    simp only [go_sem, Nat.reduceEqDiff]
    exact finL_ret [] ⟨rfl, rfl, rfl, rfl, _, rfl, res_mk rfl⟩
  have hsl : s < 2 ^ l.length := by have := of_decide_eq_true g; omega
  have hwj : IntKind.i64.wrap ((s : Int) + 1) = ((s + 1 : Nat) : Int) := by rw [wrap_id (by omega) (by omega)]; omega
  have c44 := rsize_ok s (by omega)
  have c44' := rsize_ok B (by have := hB'.lt; omega)
  have c43 := hkept s (by omega)
  obtain ⟨pl, c57, hpl⟩ := h57 s (by omega)
  obtain ⟨n1, n2⟩ := hB'.next h5 hsl
  have hd : decide ((size s : Int) < (size B : Int)) = decide (size s < size B) := decide_eq_decide.2 (by omega)
  simp only [bo5, tSis] at c57
  cases hc : decide (size s < size B)
  · rw [hc] at hd
    simp only [go_sem, Nat.reduceEqDiff]
    repeat' (first | refine AndL.mk ?_ ?_ | refine ACallL.quiet1 c44 rfl rfl rfl ?_ | refine ACallL.quiet1 c44' rfl rfl rfl ?_ | simp only [bo5, go_sem, Nat.reduceEqDiff, Nat.reduceAdd, undef, undef, Option.map_some, hwj, hd])
    exact ⟨hsl, _, Sub.gc [] [9, 8, 7, 2] rfl rfl, B, n2 (fun h => absurd h (of_decide_eq_false hc)), rfl⟩
  · rw [hc] at hd
    have hc' := of_decide_eq_true hc
    simp only [go_sem, Nat.reduceEqDiff]
    repeat' (first | refine AndL.mk ?_ ?_ | refine ACallL.quiet1 c44 rfl rfl rfl ?_ | refine ACallL.quiet1 c44' rfl rfl rfl ?_ | refine ACallL.fresh1 c43 rfl ?_ | refine ACallL.fresh1 c57 rfl ?_ | simp only [go_sem, Nat.reduceEqDiff, Nat.reduceAdd, undef, beq_self_eq_true, undef, List.length_map, Option.map_some, hd])
    cases hcq : canQ b (outQ b n s)
    · rw [hcq] at hpl
      simp only [bo5, go_sem, Nat.reduceEqDiff, hwj, hpl]
      exact ⟨hsl, _, Sub.gc [] [9, 8, 7, 2] rfl rfl, B, n2 (fun _ => hcq), rfl⟩
    · rw [hcq] at hpl
      simp only [bo5, go_sem, Nat.reduceEqDiff, hwj, hpl]
      exact ⟨hsl, _, Sub.gc [] [9, 8, 7, 2] rfl rfl, s, n1 hc' hcq, rfl⟩
end Go.Proofs.YtafcdpmcmmfbhaaDoor
