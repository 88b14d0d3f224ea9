/- Proved here: laws that the statements need (TwX4, TwX5, TwX6). No conditions but those that each law states. -/
import Derived.Test.YticdacdflemoiaaLL

set_option linter.unusedSimpArgs false
set_option linter.unusedVariables false

/- Towels of which it is known that some bathers have kept none. -/
namespace Go.Proofs.Yticdacdflemoiaa
open Go Go.Ab

theorem bit_eq0 {a i : Nat} (ha : a < 9223372036854775808) : (bits .and .i64 ((a : Int).fdiv (2 ^ (min i 64))) 1 == 0) = !a.testBit i := by
  rw [shr_nat ha, show (1 : Int) = ((1 : Nat) : Int) from rfl, bits_and (Nat.lt_of_le_of_lt (by rw [Nat.shiftRight_eq_div_pow]; exact Nat.div_le_self _ _) ha) (by omega), Nat.testBit_eq_decide_div_mod_eq, Nat.shiftRight_eq_div_pow]
  have : a / 2 ^ i &&& 1 = a / 2 ^ i % 2 := Nat.and_one_is_mod _
  rw [this]
  have h2 := Nat.mod_two_eq_zero_or_one (a / 2 ^ i)
  rcases h2 with h | h <;> rw [h] <;> rfl

def noneB (set i : Nat) (b : B) : B := if set.testBit i then b else { b with ll := 0, lh := 0, bl := 0, bh := 0 }
/-- The first bathers are done. -/
def noneL (set : Nat) (bs : List B) (k : Nat) : List B := bs.mapIdx fun i b => if i < k then noneB set i b else b
def noneT (t : Tw) (set : Nat) : Tw := { t with bs := noneL set t.bs t.bs.length }
def noneC (set : Nat) (bs : List B) : Nat → Bool
  | 0 => true
  | k + 1 => match bs[k]? with
    | some b => if set.testBit k then noneC set bs k else (noneC set bs k && decide (b.ll ≤ b.bh))
    | none => noneC set bs k

theorem noneL_len (set : Nat) (bs : List B) (k : Nat) : (noneL set bs k).length = bs.length := by simp [noneL]
theorem noneL_zero (set : Nat) (bs : List B) : noneL set bs 0 = bs := by
  unfold noneL
  apply List.ext_getElem?
  intro i
  rw [List.getElem?_mapIdx]
  simp
theorem noneL_at (set : Nat) (bs : List B) (k : Nat) (b : B) (hb : bs[k]? = some b) : (noneL set bs k)[k]? = some b := by
  unfold noneL
  rw [List.getElem?_mapIdx, hb]
  simp
theorem noneL_succ (set : Nat) (bs : List B) (k : Nat) (b : B) (hb : bs[k]? = some b) : noneL set bs (k + 1) = (noneL set bs k).set k (noneB set k b) := by
  obtain ⟨hk, e⟩ := List.getElem?_eq_some_iff.1 hb
  apply List.ext_getElem?
  intro i
  by_cases hi : i = k
  · subst hi
    rw [List.getElem?_set_self (by rw [noneL_len]; exact hk)]
    unfold noneL
    rw [List.getElem?_mapIdx, hb]
    simp
  · rw [List.getElem?_set_ne (by omega)]
    unfold noneL
    rw [List.getElem?_mapIdx, List.getElem?_mapIdx]
    have : (i < k + 1) = (i < k) := by apply propext; omega
    simp only [this]
theorem noneL_same (set : Nat) (bs : List B) (k : Nat) (b : B) (hb : bs[k]? = some b) (hs : set.testBit k = true) : noneL set bs (k + 1) = noneL set bs k := by
  rw [noneL_succ set bs k b hb]
  have h := noneL_at set bs k b hb
  obtain ⟨hk, e⟩ := List.getElem?_eq_some_iff.1 h
  have : noneB set k b = (noneL set bs k)[k] := by rw [e]; simp [noneB, hs]
  rw [this, List.set_getElem_self]

set_option maxRecDepth 4000 in
set_option maxHeartbeats 1000000 in
theorem none_ok (t : Tw) (ht : t.OK) (set : Nat) (hs : set < 64) : ACall Try.prog 39 [.t (.agg (tw3 t)), .t (vi set)] [] (res (.ret (.tup [.t (.agg (tw3 (noneT t set))), .t (vb (noneC set t.bs t.bs.length))]))) := by
  refine ACall.walk k39 ?_
  unfold c39 tw3
  have hnb := ht.nb
  simp only [go_sem, Nat.reduceEqDiff, Nat.reduceAdd, Nat.reduceSub, Nat.reduceMul, Nat.reduceLT, Nat.reduceLeDiff, Nat.reduceMod, Nat.reduceDiv, Int.reduceToNat, Int.reduceLT, Int.reduceLE, Bool.not_true, Bool.not_false, reduceIte, List.length_map, maxLen]
  refine ⟨by omega, ?_⟩
  refine awpL_loopK t.bs.length (fun k s => s = { env := [(19, .t (vi k)), (18, .t (vi t.bs.length)), (17, .loc 2 t.bs.length), (6, .ptr 1 0), (7, .t (vb (noneC set t.bs k))), (4, .ptr 0 0), (1, .t (vi set))], σ := [.cells [.t nilT, .t nilT, .t nilT], .cells [.loc 2 t.bs.length, .t (.slice 2 (t.hs.map tS)), .t (.slice 2 (t.vs.map tS))], .row 6 (((noneL set t.bs k).map tB).map .t)] })
    ⟨_, Sub.gc [1, 2, 3] [19, 18, 17, 6, 7, 4, 1] rfl rfl, St.gc_mk rfl (by simp only [σgc, AO.gc, List.map_cons, List.map_nil, List.getD_cons_zero, List.getD_cons_succ, List.map_append, List.map_map, gc_t, gc_comp, gc_comp', gc_row, noneL_zero]; rfl) rfl rfl⟩ ?_
  rintro k s hk rfl
  simp only [go_sem, Nat.reduceEqDiff, Nat.reduceAdd, Nat.reduceSub, Nat.reduceMul, Nat.reduceLT, Nat.reduceLeDiff, Nat.reduceMod, Nat.reduceDiv, Int.reduceToNat, Int.reduceLT, Int.reduceLE, Bool.not_true, Bool.not_false, reduceIte]
  refine BrL.mk (fun h => ?_) (fun h => ?_)
  · have hk : k < t.bs.length := by simpa using h
    have hb : t.bs[k]? = some t.bs[k] := List.getElem?_eq_getElem hk
    generalize t.bs[k] = b at *
    have hat := noneL_at set t.bs k b hb
    have n1 : ¬ ((k : Int) < 0) := by omega
    simp only [h, go_sem, Nat.reduceEqDiff, Nat.reduceAdd, Nat.reduceSub, Nat.reduceMul, Nat.reduceLT, Nat.reduceLeDiff, Nat.reduceMod, Nat.reduceDiv, Int.reduceToNat, Int.reduceLT, Int.reduceLE, Bool.not_true, Bool.not_false, reduceIte, List.length_map, noneL_len, List.getElem?_map, hat, tB, n1, bit_eq0 (show set < 9223372036854775808 by omega)]
    refine ⟨by omega, ?_⟩
    have hw : IntKind.i64.wrap ((k : Int) + 1) = ((k + 1 : Nat) : Int) := by rw [wrap_id (by omega) (by omega)]; omega
    cases hbit : set.testBit k
    · have hc : noneC set t.bs (k + 1) = (noneC set t.bs k && decide (b.ll ≤ b.bh)) := by simp [noneC, hb, hbit]
      have hL := noneL_succ set t.bs k b hb
      have hlt : (k : Int) < t.bs.length := by omega
      have hset : ∀ x : E, ((((noneL set t.bs k).map tB).map E.t).set k x)[k]? = some x := fun x => by
        rw [List.getElem?_set_self (by simpa [noneL_len] using hk)]
      have hlist : (((noneL set t.bs k).map tB).map E.t).set k (E.t (T.agg [vi b.hut, vi b.half, vi 0, vi 0, vi 0, vi 0])) = ((noneL set t.bs (k + 1)).map tB).map E.t := by
        rw [hL, show E.t (T.agg [vi b.hut, vi b.half, vi 0, vi 0, vi 0, vi 0]) = E.t (tB (noneB set k b)) by simp [noneB, hbit, tB], ← List.map_set, ← List.map_set]
      cases hC : noneC set t.bs k
      all_goals
        rw [hC] at hc
        simp only [go_sem, Nat.reduceEqDiff, Nat.reduceAdd, Nat.reduceSub, Nat.reduceMul, Nat.reduceLT, Nat.reduceLeDiff, Nat.reduceMod, Nat.reduceDiv, Int.reduceToNat, Int.reduceLT, Int.reduceLE, Bool.not_true, Bool.not_false, reduceIte, undef, hC, List.length_map, noneL_len, List.getElem?_map, hat, tB]
        refine ACallL.quiet1 (span_ok 0 0) rfl rfl rfl ?_
        simp only [go_sem, Nat.reduceEqDiff, Nat.reduceAdd, Nat.reduceSub, Nat.reduceMul, Nat.reduceLT, Nat.reduceLeDiff, Nat.reduceMod, Nat.reduceDiv, Int.reduceToNat, Int.reduceLT, Int.reduceLE, Bool.not_true, Bool.not_false, reduceIte, undef, hC, List.length_map, noneL_len, List.getElem?_map, hat, tB]
        refine ACallL.quiet1 (span_ok 0 0) rfl rfl rfl ?_
        simp only [go_sem, Nat.reduceEqDiff, Nat.reduceAdd, Nat.reduceSub, Nat.reduceMul, Nat.reduceLT, Nat.reduceLeDiff, Nat.reduceMod, Nat.reduceDiv, Int.reduceToNat, Int.reduceLT, Int.reduceLE, Bool.not_true, Bool.not_false, reduceIte, undef, hC, List.length_map, List.length_set, noneL_len, List.getElem?_map, hat, tB]
        refine ⟨hlt, ?_⟩
        simp only [go_sem, Nat.reduceEqDiff, Nat.reduceAdd, Nat.reduceSub, Nat.reduceMul, Nat.reduceLT, Nat.reduceLeDiff, Nat.reduceMod, Nat.reduceDiv, Int.reduceToNat, Int.reduceLT, Int.reduceLE, Bool.not_true, Bool.not_false, reduceIte, undef, hC, List.length_map, List.length_set, noneL_len, List.getElem?_map, hat, hset, tB, hw]
        refine ⟨hlt, hlt, hlt, hk, _, Sub.gc [0, 1, 2] [19, 18, 17, 6, 7, 4, 1] rfl rfl, ?_⟩
        rw [hc, List.set_set, hlist]
        exact St.gc_mk rfl (by simp only [σgc, AO.gc, List.map_cons, List.map_nil, List.getD_cons_zero, List.getD_cons_succ, List.map_append, List.map_map, gc_t, gc_comp, gc_comp', gc_row]; rfl) rfl rfl
    · have hc : noneC set t.bs (k + 1) = noneC set t.bs k := by simp [noneC, hb, hbit]
      simp only [go_sem, Nat.reduceEqDiff, Nat.reduceAdd, Nat.reduceSub, Nat.reduceMul, Nat.reduceLT, Nat.reduceLeDiff, Nat.reduceMod, Nat.reduceDiv, Int.reduceToNat, Int.reduceLT, Int.reduceLE, Bool.not_true, Bool.not_false, reduceIte, hw]
      refine ⟨by omega, _, Sub.gc [0, 1, 2] [19, 18, 17, 6, 7, 4, 1] rfl rfl, ?_⟩
      rw [hc, noneL_same set t.bs k b hb hbit]
      exact St.gc_mk rfl (by simp only [σgc, AO.gc, List.map_cons, List.map_nil, List.getD_cons_zero, List.getD_cons_succ, List.map_append, List.map_map, gc_t, gc_comp, gc_comp', gc_row]; rfl) rfl rfl
  · have hk : k = t.bs.length := by have : ¬ (k : Int) < t.bs.length := by simpa using h
                                    omega
    subst hk
    simp only [h, go_sem, Nat.reduceEqDiff, Nat.reduceAdd, Nat.reduceSub, Nat.reduceMul, Nat.reduceLT, Nat.reduceLeDiff, Nat.reduceMod, Nat.reduceDiv, Int.reduceToNat, Int.reduceLT, Int.reduceLE, Bool.not_true, Bool.not_false, reduceIte]
    have hg1 : ∀ (A B : AO) (x y : T), E.gc [] [A, B, .row 6 (((noneL set t.bs t.bs.length).map tB).map E.t)] 11 (.agg [.loc 2 t.bs.length, .t x, .t y]) = .t (.agg [.slice 6 ((noneL set t.bs t.bs.length).map tB), x, y]) := fun A B x y => by
      rw [E.gc]
      simp only [List.map_cons, List.map_nil]
      rw [gc_loc (n := 8) (xs := (noneL set t.bs t.bs.length).map tB) rfl rfl (by simp [noneL_len])]
      simp only [gc_t]
      rfl
    have hgl : ∀ (A B : AO) (x y : T), E.gc [] [A, B, .row 6 (((noneL set t.bs t.bs.length).map tB).map E.t)] 12 (.tup [.agg [.loc 2 t.bs.length, .t x, .t y], .t (vb (noneC set t.bs t.bs.length))]) = .tup [.t (.agg [.slice 6 ((noneL set t.bs t.bs.length).map tB), x, y]), .t (vb (noneC set t.bs t.bs.length))] := fun A B x y => by
      rw [E.gc]
      simp only [List.map_cons, List.map_nil, hg1, gc_t]
    exact finL_ret [] ⟨rfl, rfl, rfl, rfl, _, rfl, res_mk (congrArg Out.ret (hgl _ _ _ _))⟩
end Go.Proofs.Yticdacdflemoiaa

/- Towels of which it is known that some bathers have kept none: plain laws. -/
namespace Go.Proofs.Yticdacdflemoiaa
open Go Go.Ab

theorem noneB_pos (set i : Nat) (b : B) : posB (noneB set i b) = posB b := by unfold noneB; split <;> rfl
theorem noneT_get {t : Tw} {k : Nat} {b : B} (set : Nat) (hb : t.bs[k]? = some b) : (noneT t set).bs[k]? = some (noneB set k b) := by
  obtain ⟨hk, e⟩ := List.getElem?_eq_some_iff.1 hb
  simp only [noneT, noneL]
  rw [List.getElem?_mapIdx, hb]
  simp [hk]
theorem noneT_len (t : Tw) (set : Nat) : (noneT t set).bs.length = t.bs.length := by simp [noneT, noneL_len]
theorem noneT_pos (t : Tw) (set : Nat) : (noneT t set).bs.map posB = t.bs.map posB := by
  apply List.ext_getElem?
  intro i
  rw [List.getElem?_map, List.getElem?_map]
  cases hb : t.bs[i]? with
  | none =>
    have : (noneT t set).bs[i]? = none := by
      rw [List.getElem?_eq_none_iff] at hb ⊢
      rw [noneT_len]; exact hb
    rw [this]
  | some b => rw [noneT_get set hb]; simp [noneB_pos]

theorem noneT_OK {t : Tw} (ht : t.OK) (set : Nat) : (noneT t set).OK := by
  refine ⟨by rw [noneT_len]; exact ht.nb, ht.nh, ht.nv, ht.hs, ht.vs, ?_, ?_⟩
  · intro x hx
    obtain ⟨i, hi⟩ := List.getElem?_of_mem hx
    have hlt := (List.getElem?_eq_some_iff.1 hi).1
    rw [noneT_len] at hlt
    rw [noneT_get set (List.getElem?_eq_getElem hlt)] at hi
    have hq := ht.bs _ (List.getElem_mem hlt)
    simp only [Option.some.injEq] at hi
    subst hi
    unfold noneB
    simp only [noneT] at *
    split
    · exact hq
    · simp only
      omega
  · have h1 := ht.ne
    have h2 : ∀ l : List B, (l.Pairwise fun a b => sameP b a = false) ↔ (l.map posB).Pairwise fun p q => (q.1 == p.1 && q.2 == p.2) = false := fun l => by
      rw [List.pairwise_map]
      simp only [sameP_pos]
    rw [h2] at h1 ⊢
    rw [noneT_pos t set]
    exact h1

theorem noneC_iff (set : Nat) (bs : List B) : ∀ k, noneC set bs k = true ↔ ∀ i < k, ∀ b, bs[i]? = some b → set.testBit i = false → b.ll ≤ b.bh
  | 0 => by simp [noneC]
  | k + 1 => by
    have ih := noneC_iff set bs k
    have hk : (∀ i < k + 1, ∀ b, bs[i]? = some b → set.testBit i = false → b.ll ≤ b.bh) ↔ (∀ i < k, ∀ b, bs[i]? = some b → set.testBit i = false → b.ll ≤ b.bh) ∧ ∀ b, bs[k]? = some b → set.testBit k = false → b.ll ≤ b.bh := by
      constructor
      · exact fun h => ⟨fun i hi => h i (by omega), h k (by omega)⟩
      · rintro ⟨h1, h2⟩ i hi
        rcases Nat.lt_succ_iff_lt_or_eq.1 hi with h | h
        · exact h1 i h
        · subst h; exact h2
    rw [hk]
    unfold noneC
    cases hb : bs[k]? with
    | none => simp [ih]
    | some b =>
      simp only
      cases hs : set.testBit k
      · simp [ih]
      · simp [ih]

theorem comp_bit {n S : Nat} (hS : S < 2 ^ n) (i : Nat) : (2 ^ n - 1 - S).testBit i = (decide (i < n) && !S.testBit i) := by
  rw [show 2 ^ n - 1 - S = 2 ^ n - (S + 1) by omega, Nat.testBit_two_pow_sub_succ hS]

theorem can_in (b : B) (i z : Nat) (hz : z.testBit i = false) : canL b i (-1) 0 z = rangeI (words b).1 (words b).2 := by
  unfold canL
  rw [List.filter_eq_self]
  intro x _
  unfold skipN
  rw [hz]
  simp

theorem can_out (b : B) (i z : Nat) (hz : z.testBit i = true) (h0 : 0 ≤ (words b).1) (h1 : (words b).1 ≤ (words b).2) : canL b i (-1) 0 z = if (words b).1 = 0 then [0] else [] := by
  have hmem : ∀ x ∈ rangeI (words b).1 (words b).2, (words b).1 ≤ x := by
    intro x hx
    unfold rangeI at hx
    obtain ⟨j, _, rfl⟩ := List.mem_map.1 hx
    omega
  have hf : ∀ x : Int, (!skipN i (-1) 0 z x) = decide (x ≤ 0) := by
    intro x
    unfold skipN
    rw [hz]
    have : ((i : Int) == -1) = false := by simp
    rw [this]
    simp only [Bool.false_and, Bool.true_and, Bool.false_or]
    by_cases h : x ≤ 0
    · simp [h]
    · simp [h]; omega
  unfold canL
  simp only [hf]
  split
  · rename_i e
    rw [← rangeI_one (lo := (words b).1) (hi := (words b).2) (n := 0) (by omega)]
    refine List.filter_congr fun x hx => ?_
    have := hmem x hx
    by_cases h : x = 0
    · subst h; rfl
    · have h2 : ¬ x ≤ 0 := by omega
      rw [decide_eq_false h2, beq_eq_false_iff_ne.2 h]
  · rw [List.filter_eq_nil_iff]
    intro x hx
    have := hmem x hx
    simp
    omega

theorem tups_none {t : Tw} (ht : t.OK) {set : Nat} (hs : set < 2 ^ t.bs.length) (hc : noneC set t.bs t.bs.length = true) : ∀ j, j ≤ t.bs.length → tupsK (noneT t set) (-1) 0 0 j = tupsK t (-1) 0 (2 ^ t.bs.length - 1 - set) j
  | 0, _ => rfl
  | j + 1, hj => by
    have hbj : t.bs[j]? = some (t.bs[j]'(by omega)) := List.getElem?_eq_getElem _
    rw [tupsK_succ (noneT_get set hbj), tupsK_succ hbj, tups_none ht hs hc j (by omega)]
    refine flatMap_congr' fun l _ => ?_
    congr 1
    have hw := words_bound t ht (List.mem_of_getElem? hbj)
    have hb := ht.bs _ (List.mem_of_getElem? hbj)
    have hcj := (noneC_iff set t.bs t.bs.length).1 hc j (by omega) _ hbj
    generalize t.bs[j]'(by omega) = b at *
    rw [canL_none]
    have hzb := comp_bit hs j
    rw [decide_eq_true (show j < t.bs.length by omega)] at hzb
    cases hbit : set.testBit j
    · rw [hbit] at hzb
      rw [can_out b j _ (by rw [hzb]; rfl) hw.1 hw.2.1]
      have h0 : (words b).1 = 0 := by
        have := hcj hbit
        unfold words
        simp only
        omega
      rw [if_pos h0]
      unfold noneB
      rw [hbit]
      rfl
    · rw [hbit] at hzb
      rw [can_in b j _ (by rw [hzb]; rfl)]
      unfold noneB
      rw [hbit]
      rfl

theorem tups_nil {t : Tw} {o m : Int} {z i : Nat} {b : B} (hb : t.bs[i]? = some b) (hc : canL b i o m z = []) : ∀ j, i < j → tupsK t o m z j = []
  | 0, h => by omega
  | j + 1, h => by
    rcases Nat.lt_succ_iff_lt_or_eq.1 h with h | h
    · rw [tupsK, tups_nil hb hc j h]; rfl
    · subst h
      rw [tupsK_succ hb, hc]
      simp

theorem none_truths {t : Tw} (ht : t.OK) {set : Nat} (hs : set < 2 ^ t.bs.length) : (noneC set t.bs t.bs.length && decide ((specCount (noneT t set)).1 > 0)) = (fewG t set).2 := by
  have hK := (Tw.ok_iff _).2 (noneT_OK ht set)
  have hsc : (specCount (noneT t set)).1 = (truthsA (noneT t set) (-1) 0 0).length := by
    unfold specCount
    rw [hK]
    rfl
  rw [hsc]
  unfold fewG
  simp only
  cases hc : noneC set t.bs t.bs.length
  · have : ¬ ∀ i < t.bs.length, ∀ b, t.bs[i]? = some b → set.testBit i = false → b.ll ≤ b.bh := by rw [← noneC_iff, hc]; simp
    simp only [Bool.false_and]
    symm
    simp only [Classical.not_forall] at this
    obtain ⟨i, hi, b, hb, hbit, hlt⟩ := this
    have hw := words_bound t ht (List.mem_of_getElem? hb)
    have hcan : canL b i (-1) 0 (2 ^ t.bs.length - 1 - set) = [] := by
      rw [can_out b i _ (by rw [comp_bit hs, hbit]; simp [hi]) hw.1 hw.2.1, if_neg]
      unfold words
      simp only
      omega
    have : truthsA t (-1) 0 (2 ^ t.bs.length - 1 - set) = [] := by
      unfold truthsA truthsC
      rw [tups_nil hb hcan _ hi]
      rfl
    rw [this]
    rfl
  · have : truthsA (noneT t set) (-1) 0 0 = truthsA t (-1) 0 (2 ^ t.bs.length - 1 - set) := by
      unfold truthsA truthsC
      rw [noneT_len, tups_none ht hs hc _ (Nat.le_refl _)]
      refine List.filter_congr fun l _ => ?_
      have : sumT (noneT t set).bs l = sumT t.bs l := sumT_pos _ _ l zero6 (noneT_pos t set)
      rw [this]
      rfl
    rw [this]
    simp

theorem size_less : ∀ S < 64, ∀ i < 6, S.testBit i = true → ndiff S (2 ^ i) < 64 ∧ size (ndiff S (2 ^ i)) < size S := by decide +kernel
theorem size_le6 : ∀ S < 64, size S ≤ 6 := by decide +kernel
end Go.Proofs.Yticdacdflemoiaa

/- TowelFewest. -/
namespace Go.Proofs.Yticdacdflemoiaa
open Go Go.Ab

theorem can38_ok (t : Tw) (ht : t.OK) (set : Nat) (hs : set < 2 ^ t.bs.length) : ACall Try.prog 38 [.t (vi set), .t (capT t)] [] (ret (vb (fewG t set).2)) := by
  refine ACall.walk k38 ?_
  unfold c38 capT
  have hnb := ht.nb
  have hs6 : set < 64 := Nat.lt_of_lt_of_le hs (Nat.pow_le_pow_right (by omega) hnb)
  have hN := none_ok t ht set hs6
  have hC := Count_ok (noneT t set)
  have hK := (Tw.ok_iff _).2 (noneT_OK ht set)
  have h0 : (specCount (noneT t set)).2 = 0 := by unfold specCount; rw [hK]; rfl
  rw [h0] at hC
  have hF := none_truths ht hs
  generalize (specCount (noneT t set)).1 = c at *
  generalize noneC set t.bs t.bs.length = ok at *
  generalize noneT t set = x at *
  generalize (fewG t set).2 = r at *
  simp only [oneE] at hC
  simp only [tw3, go_sem, Nat.reduceEqDiff, Nat.reduceAdd, Nat.reduceSub, Nat.reduceMul, Nat.reduceLT, Nat.reduceLeDiff, Nat.reduceMod, Nat.reduceDiv, Int.reduceToNat, Int.reduceLT, Int.reduceLE, Bool.not_true, Bool.not_false, reduceIte] at hN hC ⊢
  refine ACallL.fresh1 hN rfl ?_
  simp only [go_sem, Nat.reduceEqDiff, Nat.reduceAdd, Nat.reduceSub, Nat.reduceMul, Nat.reduceLT, Nat.reduceLeDiff, Nat.reduceMod, Nat.reduceDiv, Int.reduceToNat, Int.reduceLT, Int.reduceLE, Bool.not_true, Bool.not_false, reduceIte]
  refine ACallL.fresh1 hC rfl ?_
  subst hF
  cases ok
  · simp only [go_sem, Nat.reduceEqDiff, Nat.reduceAdd, Nat.reduceSub, Nat.reduceMul, Nat.reduceLT, Nat.reduceLeDiff, Nat.reduceMod, Nat.reduceDiv, Int.reduceToNat, Int.reduceLT, Int.reduceLE, Bool.not_true, Bool.not_false, reduceIte, Int.reduceBEq, Int.reduceBNe, Int.reduceGT, Int.reduceGE, Int.reduceNeg, Int.reduceAdd, Int.reduceSub, Nat.reduceBEq, decide_true, decide_false, undef, beq_self_eq_true, bne_self_eq_false, Bool.and_true, Bool.true_and, Bool.and_false, Bool.false_and, Bool.or_true, Bool.true_or, Bool.or_false, Bool.false_or, beq_self_eq_true]
    exact finL_ret [] ⟨rfl, rfl, rfl, rfl, _, rfl, res_mk rfl⟩
  · simp only [go_sem, Nat.reduceEqDiff, Nat.reduceAdd, Nat.reduceSub, Nat.reduceMul, Nat.reduceLT, Nat.reduceLeDiff, Nat.reduceMod, Nat.reduceDiv, Int.reduceToNat, Int.reduceLT, Int.reduceLE, Bool.not_true, Bool.not_false, reduceIte, Int.reduceBEq, Int.reduceBNe, Int.reduceGT, Int.reduceGE, Int.reduceNeg, Int.reduceAdd, Int.reduceSub, Nat.reduceBEq, decide_true, decide_false, undef, beq_self_eq_true, bne_self_eq_false, Bool.and_true, Bool.true_and, Bool.and_false, Bool.false_and, Bool.or_true, Bool.true_or, Bool.or_false, Bool.false_or, beq_self_eq_true]
    exact finL_ret [] ⟨rfl, rfl, rfl, rfl, _, rfl, res_mk rfl⟩

theorem and_lt {a b n : Nat} (h : b < n) : a &&& b < n := Nat.lt_of_le_of_lt Nat.and_le_right h

set_option maxRecDepth 8000 in
set_option maxHeartbeats 4000000 in
theorem TowelFewest_ok (t : Tw) (w : Nat) (hw : w < 256) : ACall Try.prog 8 [.t (.agg (tw3 t)), .t (.lit (.int .u8 w))] [] (res (.ret (.t (vb true)))) := by
  have h25 := Fewest_ok t
  have h23 := Count_ok t
  rw [Count_eq] at h23
  refine ACall.walk k8 ?_
  unfold c8 tw3
  simp only [go_sem, Nat.reduceEqDiff, Nat.reduceAdd, Nat.reduceSub, Nat.reduceMul, Nat.reduceLT, Nat.reduceLeDiff, Nat.reduceMod, Nat.reduceDiv, Int.reduceToNat, Int.reduceLT, Int.reduceLE, Bool.not_true, Bool.not_false, reduceIte]
  refine ACallL.quiet1 (fine_ok t) rfl rfl rfl ?_
  cases hF : (!(farB t) && t.ok)
  · simp only [go_sem, Nat.reduceEqDiff, Nat.reduceAdd, Nat.reduceSub, Nat.reduceMul, Nat.reduceLT, Nat.reduceLeDiff, Nat.reduceMod, Nat.reduceDiv, Int.reduceToNat, Int.reduceLT, Int.reduceLE, Bool.not_true, Bool.not_false, reduceIte, Int.reduceBEq, Int.reduceBNe, Int.reduceGT, Int.reduceGE, Int.reduceNeg, Int.reduceAdd, Int.reduceSub, Nat.reduceBEq, decide_true, decide_false, undef, beq_self_eq_true, bne_self_eq_false, Bool.and_true, Bool.true_and, Bool.and_false, Bool.false_and, Bool.or_true, Bool.true_or, Bool.or_false, Bool.false_or]
    refine ACallL.quiet1 awake_ok rfl rfl rfl ?_
    simp only [go_sem, Nat.reduceEqDiff, Nat.reduceAdd, Nat.reduceSub, Nat.reduceMul, Nat.reduceLT, Nat.reduceLeDiff, Nat.reduceMod, Nat.reduceDiv, Int.reduceToNat, Int.reduceLT, Int.reduceLE, Bool.not_true, Bool.not_false, reduceIte, Int.reduceBEq, Int.reduceBNe, Int.reduceGT, Int.reduceGE, Int.reduceNeg, Int.reduceAdd, Int.reduceSub, Nat.reduceBEq, decide_true, decide_false, undef, beq_self_eq_true, bne_self_eq_false, Bool.and_true, Bool.true_and, Bool.and_false, Bool.false_and, Bool.or_true, Bool.true_or, Bool.or_false, Bool.false_or]
    exact finL_ret [] ⟨rfl, rfl, rfl, rfl, _, rfl, res_mk rfl⟩
  · have hok : t.ok = true := by cases h : t.ok <;> simp_all
    have ht := (Tw.ok_iff t).1 hok
    have hnb := ht.nb
    have hcs : docCount t = (((docA t).length : Int), (0 : Int)) := by simp only [docCount, hok]; rfl
    rw [hcs] at h23
    simp only [oneE] at h23
    have hB := bestAt (fewG t) (2 ^ t.bs.length)
    have hspec : specFewest t = match bestL (fewG t) (List.range (2 ^ t.bs.length)) with
      | some (set, n) => (n, set, 0)
      | none => (0, 0, 10) := by simp only [specFewest, hok]; rfl
    have hp : 2 ^ t.bs.length ≤ 64 := Nat.pow_le_pow_right (n := 2) (by omega) hnb
    have hp1 := Nat.two_pow_pos t.bs.length
    have hfull : (fewG t (2 ^ t.bs.length - 1)).2 = true ↔ docA t ≠ [] := by
      rw [fewG_ok ht (by omega)]
      constructor
      · rintro ⟨l, hl, _⟩ e
        rw [e] at hl
        simp at hl
      · intro e
        obtain ⟨l, hl⟩ := List.exists_mem_of_ne_nil _ e
        refine ⟨l, hl, ?_⟩
        have hlen := (docA_mem ht hl).1
        have : someOf l < 2 ^ t.bs.length := by
          rw [← hlen]; exact maskOf_lt _ _
        rw [Nat.and_two_pow_sub_one_eq_mod, Nat.mod_eq_of_lt this]
    rw [hspec] at h25
    have hcan := fun set hs => can38_ok t ht set hs
    cases hb : bestL (fewG t) (List.range (2 ^ t.bs.length)) with
    | none =>
      rw [hb] at hB h25
      have hD : docA t = [] := by
        have := hB (2 ^ t.bs.length - 1) (by omega)
        rw [← Bool.not_eq_true, hfull] at this
        simpa using this
      rw [hD] at h23
      simp only [twoE] at h25
      simp only [go_sem, Nat.reduceEqDiff, Nat.reduceAdd, Nat.reduceSub, Nat.reduceMul, Nat.reduceLT, Nat.reduceLeDiff, Nat.reduceMod, Nat.reduceDiv, Int.reduceToNat, Int.reduceLT, Int.reduceLE, Bool.not_true, Bool.not_false, reduceIte]
      refine ACallL.fresh1 h25 rfl ?_
      simp only [go_sem, Nat.reduceEqDiff, Nat.reduceAdd, Nat.reduceSub, Nat.reduceMul, Nat.reduceLT, Nat.reduceLeDiff, Nat.reduceMod, Nat.reduceDiv, Int.reduceToNat, Int.reduceLT, Int.reduceLE, Bool.not_true, Bool.not_false, reduceIte]
      refine ACallL.fresh1 h23 rfl ?_
      have g1 : decide ((0 : Int) > 0) = false := by decide
      simp only [go_sem, Nat.reduceEqDiff, Nat.reduceAdd, Nat.reduceSub, Nat.reduceMul, Nat.reduceLT, Nat.reduceLeDiff, Nat.reduceMod, Nat.reduceDiv, Int.reduceToNat, Int.reduceLT, Int.reduceLE, Bool.not_true, Bool.not_false, reduceIte, Int.reduceBEq, Int.reduceBNe, Int.reduceGT, Int.reduceGE, Int.reduceNeg, Int.reduceAdd, Int.reduceSub, Nat.reduceBEq, decide_true, decide_false, undef, beq_self_eq_true, bne_self_eq_false, Bool.and_true, Bool.true_and, Bool.and_false, Bool.false_and, Bool.or_true, Bool.true_or, Bool.or_false, Bool.false_or, g1]
      refine ACallL.quiet1 awake_ok rfl rfl rfl ?_
      simp only [go_sem, Nat.reduceEqDiff, Nat.reduceAdd, Nat.reduceSub, Nat.reduceMul, Nat.reduceLT, Nat.reduceLeDiff, Nat.reduceMod, Nat.reduceDiv, Int.reduceToNat, Int.reduceLT, Int.reduceLE, Bool.not_true, Bool.not_false, reduceIte, Int.reduceBEq, Int.reduceBNe, Int.reduceGT, Int.reduceGE, Int.reduceNeg, Int.reduceAdd, Int.reduceSub, Nat.reduceBEq, decide_true, decide_false, undef, beq_self_eq_true, bne_self_eq_false, Bool.and_true, Bool.true_and, Bool.and_false, Bool.false_and, Bool.or_true, Bool.true_or, Bool.or_false, Bool.false_or]
      exact finL_ret [] ⟨rfl, rfl, rfl, rfl, _, rfl, res_mk rfl⟩
    | some p =>
      obtain ⟨S, c⟩ := p
      rw [hb] at hB h25
      obtain ⟨b1, b2, b3, b4⟩ := hB
      have hD : docA t ≠ [] := by
        rw [← hfull]
        obtain ⟨l, hl, _⟩ := (fewG_ok ht b1).1 b2
        rw [hfull]
        intro e
        rw [e] at hl
        simp at hl
      have hpos : 0 < (docA t).length := List.length_pos_iff.2 hD
      have hc : c = (size S : Nat) := b3
      subst hc
      simp only [twoE] at h25
      simp only [go_sem, Nat.reduceEqDiff, Nat.reduceAdd, Nat.reduceSub, Nat.reduceMul, Nat.reduceLT, Nat.reduceLeDiff, Nat.reduceMod, Nat.reduceDiv, Int.reduceToNat, Int.reduceLT, Int.reduceLE, Bool.not_true, Bool.not_false, reduceIte]
      refine ACallL.fresh1 h25 rfl ?_
      simp only [go_sem, Nat.reduceEqDiff, Nat.reduceAdd, Nat.reduceSub, Nat.reduceMul, Nat.reduceLT, Nat.reduceLeDiff, Nat.reduceMod, Nat.reduceDiv, Int.reduceToNat, Int.reduceLT, Int.reduceLE, Bool.not_true, Bool.not_false, reduceIte]
      refine ACallL.fresh1 h23 rfl ?_
      generalize (docA t).length = N at *
      have hS6 : S < 64 := by omega
      have hrs := rsize_ok S hS6
      have hcS := hcan S b1
      have hw0 : IntKind.i64.wrap (w : Int) = w := wrap_id (by omega) (by omega)
      have hsh : IntKind.i64.wrap (1 * 2 ^ (min t.bs.length 64)) = ((2 ^ t.bs.length : Nat) : Int) := shl_one (by omega)
      have hO : w &&& (2 ^ t.bs.length - 1) < 2 ^ t.bs.length := and_lt (by omega)
      have hb3 : bits .and .i64 (w : Int) ((2 ^ t.bs.length : Nat) - 1 : Int) = ((w &&& (2 ^ t.bs.length - 1) : Nat) : Int) := by
        rw [pow_cast, bits_and (by omega) (by omega)]
      have hcO := hcan _ hO
      have hrO := rsize_ok _ (Nat.lt_of_lt_of_le hO hp)
      have hbO := b4 _ hO
      have hwd : IntKind.i64.wrap (((2 ^ t.bs.length : Nat) : Int) - 1) = ((2 ^ t.bs.length : Nat) : Int) - 1 := wrap_id (by omega) (by omega)
      generalize w &&& (2 ^ t.bs.length - 1) = O at *
      generalize 2 ^ t.bs.length = A at *
      have n1 : ¬ ((t.bs.length : Int) < 0) := by omega
      have g1 : decide ((N : Int) > 0) = true := by simp; omega
      have g2 : decide ((S : Int) < 0) = false := decide_eq_false (by omega)
      have g3 : decide ((S : Int) > (A : Int) - 1) = false := by simp; omega
      simp only [go_sem, Nat.reduceEqDiff, Nat.reduceAdd, Nat.reduceSub, Nat.reduceMul, Nat.reduceLT, Nat.reduceLeDiff, Nat.reduceMod, Nat.reduceDiv, Int.reduceToNat, Int.reduceLT, Int.reduceLE, Bool.not_true, Bool.not_false, reduceIte, Int.reduceBEq, Int.reduceBNe, Int.reduceGT, Int.reduceGE, Int.reduceNeg, Int.reduceAdd, Int.reduceSub, Nat.reduceBEq, decide_true, decide_false, undef, beq_self_eq_true, bne_self_eq_false, Bool.and_true, Bool.true_and, Bool.and_false, Bool.false_and, Bool.or_true, Bool.true_or, Bool.or_false, Bool.false_or, g1, g2, g3, List.length_map, hsh, hwd, n1]
      refine ACallL.quiet1 hrs rfl rfl rfl ?_
      simp only [go_sem, Nat.reduceEqDiff, Nat.reduceAdd, Nat.reduceSub, Nat.reduceMul, Nat.reduceLT, Nat.reduceLeDiff, Nat.reduceMod, Nat.reduceDiv, Int.reduceToNat, Int.reduceLT, Int.reduceLE, Bool.not_true, Bool.not_false, reduceIte, Int.reduceBEq, Int.reduceBNe, Int.reduceGT, Int.reduceGE, Int.reduceNeg, Int.reduceAdd, Int.reduceSub, Nat.reduceBEq, decide_true, decide_false, undef, beq_self_eq_true, bne_self_eq_false, Bool.and_true, Bool.true_and, Bool.and_false, Bool.false_and, Bool.or_true, Bool.true_or, Bool.or_false, Bool.false_or]
      refine ACallL.quiet1 hcS rfl rfl rfl ?_
      simp only [go_sem, Nat.reduceEqDiff, Nat.reduceAdd, Nat.reduceSub, Nat.reduceMul, Nat.reduceLT, Nat.reduceLeDiff, Nat.reduceMod, Nat.reduceDiv, Int.reduceToNat, Int.reduceLT, Int.reduceLE, Bool.not_true, Bool.not_false, reduceIte, Int.reduceBEq, Int.reduceBNe, Int.reduceGT, Int.reduceGE, Int.reduceNeg, Int.reduceAdd, Int.reduceSub, Nat.reduceBEq, decide_true, decide_false, undef, beq_self_eq_true, bne_self_eq_false, Bool.and_true, Bool.true_and, Bool.and_false, Bool.false_and, Bool.or_true, Bool.true_or, Bool.or_false, Bool.false_or, b2, List.length_map]
      refine awpL_for (i := 87) (L := 86) t.bs.length (fun k s => s = { env := [(87, .t (vi k)), (86, .t (vi t.bs.length)), (10, .t (.fn (.func 38) [] [capT t])), (12, .t (.fn (.func 32) [] [])), (11, .t (vi ((A : Int) - 1))), (6, .t (vi S)), (5, .t (vi (size S : Nat))), (1, .t (.lit (.int .u8 w)))], σ := [] })
        ?_ ⟨_, Sub.gc [] [87, 86, 10, 12, 11, 6, 5, 1] rfl rfl, rfl⟩ ?_ ?_
      · rintro k s rfl; exact ⟨rfl, rfl⟩
      · rintro k s hk rfl
        have hw : IntKind.i64.wrap ((k : Int) + 1) = ((k + 1 : Nat) : Int) := by rw [wrap_id (by omega) (by omega)]; omega
        have n2 : ¬ ((k : Int) < 0) := by omega
        have hp2 : IntKind.i64.wrap (1 * 2 ^ (min k 64)) = ((2 ^ k : Nat) : Int) := shl_one (by omega)
        have hk2 : 2 ^ k ≤ 64 := Nat.pow_le_pow_right (n := 2) (j := 6) (by omega) (by omega)
        have hba := bits_andNot (show S < 9223372036854775808 by omega) (show 2 ^ k < 9223372036854775808 by omega)
        simp only [go_sem, Nat.reduceEqDiff, Nat.reduceAdd, Nat.reduceSub, Nat.reduceMul, Nat.reduceLT, Nat.reduceLeDiff, Nat.reduceMod, Nat.reduceDiv, Int.reduceToNat, Int.reduceLT, Int.reduceLE, Bool.not_true, Bool.not_false, reduceIte, Int.reduceBEq, Int.reduceBNe, Int.reduceGT, Int.reduceGE, Int.reduceNeg, Int.reduceAdd, Int.reduceSub, Nat.reduceBEq, decide_true, decide_false, undef, beq_self_eq_true, bne_self_eq_false, Bool.and_true, Bool.true_and, Bool.and_false, Bool.false_and, Bool.or_true, Bool.true_or, Bool.or_false, Bool.false_or, n2, bit_eq (show S < 9223372036854775808 by omega)]
        cases hbit : S.testBit k
        · simp only [go_sem, Nat.reduceEqDiff, Nat.reduceAdd, Nat.reduceSub, Nat.reduceMul, Nat.reduceLT, Nat.reduceLeDiff, Nat.reduceMod, Nat.reduceDiv, Int.reduceToNat, Int.reduceLT, Int.reduceLE, Bool.not_true, Bool.not_false, reduceIte, Int.reduceBEq, Int.reduceBNe, Int.reduceGT, Int.reduceGE, Int.reduceNeg, Int.reduceAdd, Int.reduceSub, Nat.reduceBEq, decide_true, decide_false, undef, beq_self_eq_true, bne_self_eq_false, Bool.and_true, Bool.true_and, Bool.and_false, Bool.false_and, Bool.or_true, Bool.true_or, Bool.or_false, Bool.false_or, hw]
          exact ⟨_, Sub.gc [] [87, 86, 10, 12, 11, 6, 5, 1] rfl rfl, rfl⟩
        · obtain ⟨l1, l2⟩ := size_less S hS6 k (by omega) hbit
          have l3 : ndiff S (2 ^ k) < A := Nat.lt_of_le_of_lt (ndiff_le _ _) b1
          have hcD := hcan _ l3
          have hno : (fewG t (ndiff S (2 ^ k))).2 = false := by
            rw [← Bool.not_eq_true]
            intro h
            rcases b4 _ l3 h with h | h
            · have : (fewG t (ndiff S (2 ^ k))).1 = (size (ndiff S (2 ^ k)) : Nat) := rfl
              omega
            · have : (fewG t (ndiff S (2 ^ k))).1 = (size (ndiff S (2 ^ k)) : Nat) := rfl
              omega
          rw [hno] at hcD
          simp only [go_sem, Nat.reduceEqDiff, Nat.reduceAdd, Nat.reduceSub, Nat.reduceMul, Nat.reduceLT, Nat.reduceLeDiff, Nat.reduceMod, Nat.reduceDiv, Int.reduceToNat, Int.reduceLT, Int.reduceLE, Bool.not_true, Bool.not_false, reduceIte, Int.reduceBEq, Int.reduceBNe, Int.reduceGT, Int.reduceGE, Int.reduceNeg, Int.reduceAdd, Int.reduceSub, Nat.reduceBEq, decide_true, decide_false, undef, beq_self_eq_true, bne_self_eq_false, Bool.and_true, Bool.true_and, Bool.and_false, Bool.false_and, Bool.or_true, Bool.true_or, Bool.or_false, Bool.false_or, n2, hp2, hba]
          refine ACallL.quiet1 hcD rfl rfl rfl ?_
          simp only [go_sem, Nat.reduceEqDiff, Nat.reduceAdd, Nat.reduceSub, Nat.reduceMul, Nat.reduceLT, Nat.reduceLeDiff, Nat.reduceMod, Nat.reduceDiv, Int.reduceToNat, Int.reduceLT, Int.reduceLE, Bool.not_true, Bool.not_false, reduceIte, Int.reduceBEq, Int.reduceBNe, Int.reduceGT, Int.reduceGE, Int.reduceNeg, Int.reduceAdd, Int.reduceSub, Nat.reduceBEq, decide_true, decide_false, undef, beq_self_eq_true, bne_self_eq_false, Bool.and_true, Bool.true_and, Bool.and_false, Bool.false_and, Bool.or_true, Bool.true_or, Bool.or_false, Bool.false_or, hw]
          exact ⟨_, Sub.gc [] [87, 86, 10, 12, 11, 6, 5, 1] rfl rfl, rfl⟩
      · rintro s rfl
        simp only [go_sem, Nat.reduceEqDiff, Nat.reduceAdd, Nat.reduceSub, Nat.reduceMul, Nat.reduceLT, Nat.reduceLeDiff, Nat.reduceMod, Nat.reduceDiv, Int.reduceToNat, Int.reduceLT, Int.reduceLE, Bool.not_true, Bool.not_false, reduceIte, Int.reduceBEq, Int.reduceBNe, Int.reduceGT, Int.reduceGE, Int.reduceNeg, Int.reduceAdd, Int.reduceSub, Nat.reduceBEq, decide_true, decide_false, undef, beq_self_eq_true, bne_self_eq_false, Bool.and_true, Bool.true_and, Bool.and_false, Bool.false_and, Bool.or_true, Bool.true_or, Bool.or_false, Bool.false_or, hw0, hb3]
        refine ACallL.quiet1 hcO rfl rfl rfl ?_
        have hbO2 : (fewG t O).1 = (size O : Nat) := rfl
        rw [hbO2] at hbO
        cases hr : (fewG t O).2
        · simp only [go_sem, Nat.reduceEqDiff, Nat.reduceAdd, Nat.reduceSub, Nat.reduceMul, Nat.reduceLT, Nat.reduceLeDiff, Nat.reduceMod, Nat.reduceDiv, Int.reduceToNat, Int.reduceLT, Int.reduceLE, Bool.not_true, Bool.not_false, reduceIte, Int.reduceBEq, Int.reduceBNe, Int.reduceGT, Int.reduceGE, Int.reduceNeg, Int.reduceAdd, Int.reduceSub, Nat.reduceBEq, decide_true, decide_false, undef, beq_self_eq_true, bne_self_eq_false, Bool.and_true, Bool.true_and, Bool.and_false, Bool.false_and, Bool.or_true, Bool.true_or, Bool.or_false, Bool.false_or]
          refine ACallL.quiet1 awake_ok rfl rfl rfl ?_
          simp only [go_sem, Nat.reduceEqDiff, Nat.reduceAdd, Nat.reduceSub, Nat.reduceMul, Nat.reduceLT, Nat.reduceLeDiff, Nat.reduceMod, Nat.reduceDiv, Int.reduceToNat, Int.reduceLT, Int.reduceLE, Bool.not_true, Bool.not_false, reduceIte, Int.reduceBEq, Int.reduceBNe, Int.reduceGT, Int.reduceGE, Int.reduceNeg, Int.reduceAdd, Int.reduceSub, Nat.reduceBEq, decide_true, decide_false, undef, beq_self_eq_true, bne_self_eq_false, Bool.and_true, Bool.true_and, Bool.and_false, Bool.false_and, Bool.or_true, Bool.true_or, Bool.or_false, Bool.false_or]
          exact finL_ret [] ⟨rfl, rfl, rfl, rfl, _, rfl, res_mk rfl⟩
        · have hbO3 := hbO hr
          simp only [go_sem, Nat.reduceEqDiff, Nat.reduceAdd, Nat.reduceSub, Nat.reduceMul, Nat.reduceLT, Nat.reduceLeDiff, Nat.reduceMod, Nat.reduceDiv, Int.reduceToNat, Int.reduceLT, Int.reduceLE, Bool.not_true, Bool.not_false, reduceIte, Int.reduceBEq, Int.reduceBNe, Int.reduceGT, Int.reduceGE, Int.reduceNeg, Int.reduceAdd, Int.reduceSub, Nat.reduceBEq, decide_true, decide_false, undef, beq_self_eq_true, bne_self_eq_false, Bool.and_true, Bool.true_and, Bool.and_false, Bool.false_and, Bool.or_true, Bool.true_or, Bool.or_false, Bool.false_or]
          refine ACallL.quiet1 hrO rfl rfl rfl ?_
          simp only [go_sem, Nat.reduceEqDiff, Nat.reduceAdd, Nat.reduceSub, Nat.reduceMul, Nat.reduceLT, Nat.reduceLeDiff, Nat.reduceMod, Nat.reduceDiv, Int.reduceToNat, Int.reduceLT, Int.reduceLE, Bool.not_true, Bool.not_false, reduceIte, Int.reduceBEq, Int.reduceBNe, Int.reduceGT, Int.reduceGE, Int.reduceNeg, Int.reduceAdd, Int.reduceSub, Nat.reduceBEq, decide_true, decide_false, undef, beq_self_eq_true, bne_self_eq_false, Bool.and_true, Bool.true_and, Bool.and_false, Bool.false_and, Bool.or_true, Bool.true_or, Bool.or_false, Bool.false_or]
          cases hA : decide (((size O : Nat) : Int) > (size S : Nat))
          · have e1 : (((size O : Nat) : Int) == (size S : Nat)) = true := by simp at hA ⊢; omega
            have e2 : decide ((O : Int) ≥ S) = true := by simp at hA ⊢; omega
            simp only [go_sem, Nat.reduceEqDiff, Nat.reduceAdd, Nat.reduceSub, Nat.reduceMul, Nat.reduceLT, Nat.reduceLeDiff, Nat.reduceMod, Nat.reduceDiv, Int.reduceToNat, Int.reduceLT, Int.reduceLE, Bool.not_true, Bool.not_false, reduceIte, Int.reduceBEq, Int.reduceBNe, Int.reduceGT, Int.reduceGE, Int.reduceNeg, Int.reduceAdd, Int.reduceSub, Nat.reduceBEq, decide_true, decide_false, undef, beq_self_eq_true, bne_self_eq_false, Bool.and_true, Bool.true_and, Bool.and_false, Bool.false_and, Bool.or_true, Bool.true_or, Bool.or_false, Bool.false_or]
            refine ACallL.quiet1 hrO rfl rfl rfl ?_
            simp only [go_sem, Nat.reduceEqDiff, Nat.reduceAdd, Nat.reduceSub, Nat.reduceMul, Nat.reduceLT, Nat.reduceLeDiff, Nat.reduceMod, Nat.reduceDiv, Int.reduceToNat, Int.reduceLT, Int.reduceLE, Bool.not_true, Bool.not_false, reduceIte, Int.reduceBEq, Int.reduceBNe, Int.reduceGT, Int.reduceGE, Int.reduceNeg, Int.reduceAdd, Int.reduceSub, Nat.reduceBEq, decide_true, decide_false, undef, beq_self_eq_true, bne_self_eq_false, Bool.and_true, Bool.true_and, Bool.and_false, Bool.false_and, Bool.or_true, Bool.true_or, Bool.or_false, Bool.false_or, e1, e2]
            refine ACallL.quiet1 awake_ok rfl rfl rfl ?_
            simp only [go_sem, Nat.reduceEqDiff, Nat.reduceAdd, Nat.reduceSub, Nat.reduceMul, Nat.reduceLT, Nat.reduceLeDiff, Nat.reduceMod, Nat.reduceDiv, Int.reduceToNat, Int.reduceLT, Int.reduceLE, Bool.not_true, Bool.not_false, reduceIte, Int.reduceBEq, Int.reduceBNe, Int.reduceGT, Int.reduceGE, Int.reduceNeg, Int.reduceAdd, Int.reduceSub, Nat.reduceBEq, decide_true, decide_false, undef, beq_self_eq_true, bne_self_eq_false, Bool.and_true, Bool.true_and, Bool.and_false, Bool.false_and, Bool.or_true, Bool.true_or, Bool.or_false, Bool.false_or]
            exact finL_ret [] ⟨rfl, rfl, rfl, rfl, _, rfl, res_mk rfl⟩
          · simp only [go_sem, Nat.reduceEqDiff, Nat.reduceAdd, Nat.reduceSub, Nat.reduceMul, Nat.reduceLT, Nat.reduceLeDiff, Nat.reduceMod, Nat.reduceDiv, Int.reduceToNat, Int.reduceLT, Int.reduceLE, Bool.not_true, Bool.not_false, reduceIte, Int.reduceBEq, Int.reduceBNe, Int.reduceGT, Int.reduceGE, Int.reduceNeg, Int.reduceAdd, Int.reduceSub, Nat.reduceBEq, decide_true, decide_false, undef, beq_self_eq_true, bne_self_eq_false, Bool.and_true, Bool.true_and, Bool.and_false, Bool.false_and, Bool.or_true, Bool.true_or, Bool.or_false, Bool.false_or]
            refine ACallL.quiet1 awake_ok rfl rfl rfl ?_
            simp only [go_sem, Nat.reduceEqDiff, Nat.reduceAdd, Nat.reduceSub, Nat.reduceMul, Nat.reduceLT, Nat.reduceLeDiff, Nat.reduceMod, Nat.reduceDiv, Int.reduceToNat, Int.reduceLT, Int.reduceLE, Bool.not_true, Bool.not_false, reduceIte, Int.reduceBEq, Int.reduceBNe, Int.reduceGT, Int.reduceGE, Int.reduceNeg, Int.reduceAdd, Int.reduceSub, Nat.reduceBEq, decide_true, decide_false, undef, beq_self_eq_true, bne_self_eq_false, Bool.and_true, Bool.true_and, Bool.and_false, Bool.false_and, Bool.or_true, Bool.true_or, Bool.or_false, Bool.false_or]
            exact finL_ret [] ⟨rfl, rfl, rfl, rfl, _, rfl, res_mk rfl⟩
end Go.Proofs.Yticdacdflemoiaa
