/- Proved here: laws that the statements need (TwX1, TwX2). No conditions but those that each law states. -/
import Derived.Test.YticdacdflemoiaaLK
import Derived.Test.YticdacdflemoiaaLF
import Derived.Test.YticdacdflemoiaaLH

set_option linter.unusedSimpArgs false
set_option linter.unusedVariables false

/- The statements' own functions: fine, inside, keeps, most. -/
namespace Go.Proofs.Yticdacdflemoiaa
open Go Go.Ab

theorem fine_ok (t : Tw) : ACall Try.prog 37 [.t (.agg (tw3 t))] [] (ret (vb (!(farB t) && t.ok))) := by
  refine ACall.walk k37 ?_
  unfold c37 tw3
  simp only [go_sem, Nat.reduceEqDiff, Nat.reduceAdd, Nat.reduceSub, Nat.reduceMul, Nat.reduceLT, Nat.reduceLeDiff, Nat.reduceMod, Nat.reduceDiv, Int.reduceToNat, Int.reduceLT, Int.reduceLE, Bool.not_true, Bool.not_false, reduceIte]
  refine ACallL.quiet1 (far_ok t) rfl rfl rfl ?_
  cases hF : farB t
  · simp only [go_sem, Nat.reduceEqDiff, Nat.reduceAdd, Nat.reduceSub, Nat.reduceMul, Nat.reduceLT, Nat.reduceLeDiff, Nat.reduceMod, Nat.reduceDiv, Int.reduceToNat, Int.reduceLT, Int.reduceLE, Bool.not_true, Bool.not_false, reduceIte, undef]
    refine ACallL.quiet1 (rtowels_ok t) rfl rfl rfl ?_
    simp only [go_sem, Nat.reduceEqDiff, Nat.reduceAdd, Nat.reduceSub, Nat.reduceMul, Nat.reduceLT, Nat.reduceLeDiff, Nat.reduceMod, Nat.reduceDiv, Int.reduceToNat, Int.reduceLT, Int.reduceLE, Bool.not_true, Bool.not_false, reduceIte, undef]
    exact finL_ret [] ⟨rfl, rfl, rfl, rfl, _, rfl, res_mk rfl⟩
  · simp only [go_sem, Nat.reduceEqDiff, Nat.reduceAdd, Nat.reduceSub, Nat.reduceMul, Nat.reduceLT, Nat.reduceLeDiff, Nat.reduceMod, Nat.reduceDiv, Int.reduceToNat, Int.reduceLT, Int.reduceLE, Bool.not_true, Bool.not_false, reduceIte, undef]
    exact finL_ret [] ⟨rfl, rfl, rfl, rfl, _, rfl, res_mk rfl⟩

theorem inside_ok (n lo hi : Int) : ACall Try.prog 33 [.t (vi n), .t (.agg [vi lo, vi hi])] [] (ret (vb (wI n lo hi))) := by
  refine ACall.walk k33 ?_
  unfold c33
  simp only [go_sem, Nat.reduceEqDiff, Nat.reduceAdd, Nat.reduceSub, Nat.reduceMul, Nat.reduceLT, Nat.reduceLeDiff, Nat.reduceMod, Nat.reduceDiv, Int.reduceToNat, Int.reduceLT, Int.reduceLE, Bool.not_true, Bool.not_false, reduceIte]
  cases hA : decide (lo ≤ n)
  · simp only [go_sem, Nat.reduceEqDiff, Nat.reduceAdd, Nat.reduceSub, Nat.reduceMul, Nat.reduceLT, Nat.reduceLeDiff, Nat.reduceMod, Nat.reduceDiv, Int.reduceToNat, Int.reduceLT, Int.reduceLE, Bool.not_true, Bool.not_false, reduceIte, undef, hA]
    exact finL_ret [] ⟨rfl, rfl, rfl, rfl, _, rfl, res_mk (by
      have : ¬ lo ≤ n := by simpa using hA
      have e : wI n lo hi = false := by simp [wI, this]
      rw [e]; rfl)⟩
  · simp only [go_sem, Nat.reduceEqDiff, Nat.reduceAdd, Nat.reduceSub, Nat.reduceMul, Nat.reduceLT, Nat.reduceLeDiff, Nat.reduceMod, Nat.reduceDiv, Int.reduceToNat, Int.reduceLT, Int.reduceLE, Bool.not_true, Bool.not_false, reduceIte, undef, hA]
    exact finL_ret [] ⟨rfl, rfl, rfl, rfl, _, rfl, res_mk (by
      have : lo ≤ n := by simpa using hA
      have e : wI n lo hi = decide (n ≤ hi) := by simp [wI, this]
      rw [e]; rfl)⟩

/-- Towels of which it is known how many a bather has kept. -/
def keepsT (t : Tw) (k : Nat) (b : B) (n : Int) : Tw := { t with bs := t.bs.set k { b with ll := n, lh := n, bl := 0, bh := 0 } }

theorem keeps_ok (t : Tw) (ht : t.OK) (k : Nat) (b : B) (hb : t.bs[k]? = some b) (n : Int) : ACall Try.prog 36 [.t (.agg (tw3 t)), .t (vi k), .t (vi n)] [] (ret (.agg (tw3 (keepsT t k b n)))) := by
  refine ACall.walk k36 ?_
  unfold c36 tw3
  have hnb := ht.nb
  have hk : k < t.bs.length := (List.getElem?_eq_some_iff.1 hb).1
  simp only [go_sem, Nat.reduceEqDiff, Nat.reduceAdd, Nat.reduceSub, Nat.reduceMul, Nat.reduceLT, Nat.reduceLeDiff, Nat.reduceMod, Nat.reduceDiv, Int.reduceToNat, Int.reduceLT, Int.reduceLE, Bool.not_true, Bool.not_false, reduceIte, List.length_map, maxLen]
  refine ⟨by omega, ACallL.quiet1 (span_ok n n) rfl rfl rfl ?_⟩
  simp only [go_sem, Nat.reduceEqDiff, Nat.reduceAdd, Nat.reduceSub, Nat.reduceMul, Nat.reduceLT, Nat.reduceLeDiff, Nat.reduceMod, Nat.reduceDiv, Int.reduceToNat, Int.reduceLT, Int.reduceLE, Bool.not_true, Bool.not_false, reduceIte, List.length_map, maxLen, List.getElem?_map, hb]
  refine ACallL.quiet1 (span_ok 0 0) rfl rfl rfl ?_
  simp only [go_sem, Nat.reduceEqDiff, Nat.reduceAdd, Nat.reduceSub, Nat.reduceMul, Nat.reduceLT, Nat.reduceLeDiff, Nat.reduceMod, Nat.reduceDiv, Int.reduceToNat, Int.reduceLT, Int.reduceLE, Bool.not_true, Bool.not_false, reduceIte, List.length_map, maxLen, List.getElem?_map, hb, tB]
  have hk' : (k : Int) < t.bs.length := by omega
  refine ⟨hk', ?_⟩
  have hset : ∀ x : E, (((t.bs.map tB).map E.t).set k x)[k]? = some x := fun x => by
    rw [List.getElem?_set_self (by simpa using hk)]
  simp only [go_sem, Nat.reduceEqDiff, Nat.reduceAdd, Nat.reduceSub, Nat.reduceMul, Nat.reduceLT, Nat.reduceLeDiff, Nat.reduceMod, Nat.reduceDiv, Int.reduceToNat, Int.reduceLT, Int.reduceLE, Bool.not_true, Bool.not_false, reduceIte, List.length_map, List.length_set, hset]
  refine ⟨hk', hk', hk', ?_⟩
  rw [List.set_set]
  have hlist : ((t.bs.map tB).map E.t).set k (E.t (T.agg [vi b.hut, vi b.half, vi n, vi n, vi 0, vi 0])) = ((keepsT t k b n).bs.map tB).map E.t := by
    rw [show E.t (T.agg [vi b.hut, vi b.half, vi n, vi n, vi 0, vi 0]) = E.t (tB { b with ll := n, lh := n, bl := 0, bh := 0 }) from rfl, ← List.map_set, ← List.map_set]
    rfl
  rw [hlist]
  have hgl : ∀ (A B C : AO) (x y : T), E.gc [] [A, B, C, .row 6 (((keepsT t k b n).bs.map tB).map E.t)] 12 (.agg [.loc 3 t.bs.length, .t x, .t y]) = .t (.agg [.slice 6 ((keepsT t k b n).bs.map tB), x, y]) := fun A B C x y => by
    rw [E.gc]
    simp only [List.map_cons, List.map_nil]
    rw [gc_loc (n := 9) (xs := (keepsT t k b n).bs.map tB) rfl rfl (by simp [keepsT])]
    simp only [gc_t]
    rfl
  exact finL_ret [] ⟨rfl, rfl, rfl, rfl, _, rfl, res_mk (congrArg Out.ret (hgl _ _ _ _ _))⟩

def posB (b : B) : Int × Int := (b.hut, b.half)
theorem keepsT_pos (t : Tw) (k : Nat) (b : B) (hb : t.bs[k]? = some b) (n : Int) : (keepsT t k b n).bs.map posB = t.bs.map posB := by
  unfold keepsT
  simp only [List.map_set]
  obtain ⟨hk, e⟩ := List.getElem?_eq_some_iff.1 hb
  have : posB { b with ll := n, lh := n, bl := 0, bh := 0 } = (t.bs.map posB)[k]'(by simpa using hk) := by rw [List.getElem_map, e]; rfl
  rw [this, List.set_getElem_self]
theorem sameP_pos (a b : B) : sameP b a = ((posB b).1 == (posB a).1 && (posB b).2 == (posB a).2) := by
  unfold sameP posB
  simp only
  try rw [Bool.beq_comm (a := a.hut), Bool.beq_comm (a := a.half)]
theorem keepsT_OK {t : Tw} (ht : t.OK) {k : Nat} {b : B} (hb : t.bs[k]? = some b) {n : Int} (hn : 0 ≤ n ∧ n ≤ 4) : (keepsT t k b n).OK := by
  have hbm := ht.bs b (List.mem_of_getElem? hb)
  refine ⟨by simpa [keepsT] using ht.nb, ht.nh, ht.nv, ht.hs, ht.vs, ?_, ?_⟩
  · intro x hx
    rcases List.mem_or_eq_of_mem_set hx with h | h
    · exact ht.bs x h
    · subst h
      simp only [keepsT] at *
      omega
  · have h1 := ht.ne
    have h2 : ∀ l : List B, (l.Pairwise fun a b => sameP b a = false) ↔ (l.map posB).Pairwise fun p q => (q.1 == p.1 && q.2 == p.2) = false := fun l => by
      rw [List.pairwise_map]
      simp only [sameP_pos]
    rw [h2] at h1 ⊢
    rw [keepsT_pos t k b hb n]
    exact h1

/-- The most truths that are left, of some numbers. -/
def mostF (f : Nat → Int) : Nat → Int
  | 0 => -1
  | k + 1 => max (mostF f k) (f k)

set_option maxRecDepth 4000 in
theorem most_ok (t : Tw) (ht : t.OK) (k : Nat) (b : B) (hb : t.bs[k]? = some b) : ACall Try.prog 40 [.t (.agg (tw3 t)), .t (vi k)] [] (ret (vi (mostF (fun j => (specCount (keepsT t k b ((words b).1 + j))).1) ((words b).2 - (words b).1 + 1).toNat))) := by
  refine ACall.walk k40 ?_
  unfold c40 tw3
  have hnb := ht.nb
  have hk : k < t.bs.length := (List.getElem?_eq_some_iff.1 hb).1
  have hwb := words_bound t ht (List.mem_of_getElem? hb)
  have hok := (Tw.ok_iff t).2 ht
  have hisB : t.isB (k : Int) = true := by unfold Tw.isB wI; simp; omega
  have h15 := Own_ok t k (by omega)
  have hspec : specOwn t k = (words b, 0) := by simp only [specOwn, hok, hisB, Int.toNat_natCast, hb]; rfl
  rw [hspec] at h15
  simp only [spanE, tS] at h15
  have hcnt : ∀ j : Nat, (words b).1 + (j : Int) ≤ (words b).2 → specCount (keepsT t k b ((words b).1 + j)) = ((specCount (keepsT t k b ((words b).1 + j))).1, 0) := fun j hj => by
    have hK := (Tw.ok_iff _).2 (keepsT_OK ht hb (n := (words b).1 + (j : Int)) (by omega))
    unfold specCount
    rw [hK]
    rfl
  generalize (words b).1 = lo at *
  generalize (words b).2 = hi at *
  simp only [go_sem, Nat.reduceEqDiff, Nat.reduceAdd, Nat.reduceSub, Nat.reduceMul, Nat.reduceLT, Nat.reduceLeDiff, Nat.reduceMod, Nat.reduceDiv, Int.reduceToNat, Int.reduceLT, Int.reduceLE, Bool.not_true, Bool.not_false, reduceIte]
  refine ACallL.fresh1 h15 rfl ?_
  simp only [go_sem, Nat.reduceEqDiff, Nat.reduceAdd, Nat.reduceSub, Nat.reduceMul, Nat.reduceLT, Nat.reduceLeDiff, Nat.reduceMod, Nat.reduceDiv, Int.reduceToNat, Int.reduceLT, Int.reduceLE, Bool.not_true, Bool.not_false, reduceIte]
  obtain ⟨mf, hmf⟩ : ∃ mf : Nat → Int, ∀ k', mf k' = mostF (fun j => (specCount (keepsT t k b (lo + j))).1) k' := ⟨_, fun _ => rfl⟩
  rw [← hmf]
  have hmf0 : mf 0 = -1 := hmf 0
  refine awpL_loopK (hi - lo + 1).toNat (fun j s => s = { env := [(8, .t (vi (lo + j))), (7, .t (vi (mf j))), (5, .t (.ptr (.agg [vi lo, vi hi]) 0)), (6, .t (vi 0)), (1, .t (vi k)), (2, .t (.ptr (.agg (tw3 t)) 0))], σ := [] })
    ⟨_, Sub.gc [] [8, 7, 5, 6, 1, 2] rfl rfl, by rw [hmf0, show lo + ((0 : Nat) : Int) = lo by simp]; rfl⟩ ?_
  rintro j s hj rfl
  simp only [tw3, go_sem, Nat.reduceEqDiff, Nat.reduceAdd, Nat.reduceSub, Nat.reduceMul, Nat.reduceLT, Nat.reduceLeDiff, Nat.reduceMod, Nat.reduceDiv, Int.reduceToNat, Int.reduceLT, Int.reduceLE, Bool.not_true, Bool.not_false, reduceIte]
  refine BrL.mk (fun h => ?_) (fun h => ?_)
  · have hle : lo + (j : Int) ≤ hi := by simpa using h
    have hw : IntKind.i64.wrap (lo + (j : Int) + 1) = lo + ((j + 1 : Nat) : Int) := by rw [wrap_id (by omega) (by omega)]; omega
    have hsucc : mf (j + 1) = max (mf j) (specCount (keepsT t k b (lo + j))).1 := by rw [hmf, hmf]; rfl
    have hK := keeps_ok t ht k b hb (lo + j)
    have hC := Count_ok (keepsT t k b (lo + j))
    rw [hcnt j hle] at hC
    simp only [oneE] at hC
    generalize (specCount (keepsT t k b (lo + j))).1 = c at *
    generalize keepsT t k b (lo + j) = x at *
    simp only [h, go_sem, Nat.reduceEqDiff, Nat.reduceAdd, Nat.reduceSub, Nat.reduceMul, Nat.reduceLT, Nat.reduceLeDiff, Nat.reduceMod, Nat.reduceDiv, Int.reduceToNat, Int.reduceLT, Int.reduceLE, Bool.not_true, Bool.not_false, reduceIte, undef, beq_self_eq_true]
    refine ACallL.fresh1 hK rfl ?_
    simp only [tw3, go_sem, Nat.reduceEqDiff, Nat.reduceAdd, Nat.reduceSub, Nat.reduceMul, Nat.reduceLT, Nat.reduceLeDiff, Nat.reduceMod, Nat.reduceDiv, Int.reduceToNat, Int.reduceLT, Int.reduceLE, Bool.not_true, Bool.not_false, reduceIte]
    refine ACallL.fresh1 hC rfl ?_
    simp only [go_sem, Nat.reduceEqDiff, Nat.reduceAdd, Nat.reduceSub, Nat.reduceMul, Nat.reduceLT, Nat.reduceLeDiff, Nat.reduceMod, Nat.reduceDiv, Int.reduceToNat, Int.reduceLT, Int.reduceLE, Bool.not_true, Bool.not_false, reduceIte, hw, ne0]
    refine ⟨by omega, _, Sub.gc [] [8, 7, 5, 6, 1, 2] rfl rfl, ?_⟩
    rw [hsucc]
    rfl
  · have hj : j = (hi - lo + 1).toNat := by have : ¬ lo + (j : Int) ≤ hi := by simpa using h
                                            omega
    subst hj
    simp only [h, go_sem, Nat.reduceEqDiff, Nat.reduceAdd, Nat.reduceSub, Nat.reduceMul, Nat.reduceLT, Nat.reduceLeDiff, Nat.reduceMod, Nat.reduceDiv, Int.reduceToNat, Int.reduceLT, Int.reduceLE, Bool.not_true, Bool.not_false, reduceIte, undef]
    exact finL_ret [] ⟨rfl, rfl, rfl, rfl, _, rfl, res_mk rfl⟩
def rowS (l : List (Int × Int)) : AO := .row 2 ((l.map tS).map .t)
def rowB (l : List B) : AO := .row 6 ((l.map tB).map .t)
end Go.Proofs.Yticdacdflemoiaa

/- Towels of which it is known how many a bather has kept: plain laws. -/
namespace Go.Proofs.Yticdacdflemoiaa
open Go Go.Ab

theorem range_one (lo n : Int) : ∀ m : Nat, ((List.range m).filter fun j : Nat => lo + (j : Int) == n) = if lo ≤ n ∧ n < lo + m then [(n - lo).toNat] else []
  | 0 => by
    rw [if_neg (by omega)]
    rfl
  | m + 1 => by
    rw [List.range_succ, List.filter_append, range_one lo n m]
    by_cases h : lo + (m : Int) = n
    · rw [if_neg (by omega), if_pos (by omega)]
      have : (lo + (m : Int) == n) = true := by simp [h]
      rw [List.filter_cons, this]
      simp
      omega
    · have : (lo + (m : Int) == n) = false := by simp [h]
      rw [List.filter_cons, this]
      simp only [Bool.false_eq_true, if_false, List.filter_nil, List.append_nil]
      by_cases h2 : lo ≤ n ∧ n < lo + m
      · rw [if_pos h2, if_pos (by omega)]
      · rw [if_neg h2, if_neg (by omega)]

theorem rangeI_one {lo hi n : Int} (h : lo ≤ n ∧ n ≤ hi) : ((rangeI lo hi).filter fun x => x == n) = [n] := by
  unfold rangeI
  rw [List.filter_map]
  have e : ((fun x : Int => x == n) ∘ fun j : Nat => lo + (j : Int)) = fun j : Nat => lo + (j : Int) == n := rfl
  rw [e, range_one, if_pos (by omega)]
  simp
  omega

theorem sumT_pos : ∀ (bs bs' : List B) (l : List Int) (s : List Int), bs.map posB = bs'.map posB → (bs.zip l).foldl (fun s p => addS s p.1 p.2) s = (bs'.zip l).foldl (fun s p => addS s p.1 p.2) s
  | [], [], _, _, _ => rfl
  | [], _ :: _, _, _, h => by simp at h
  | _ :: _, [], _, _, h => by simp at h
  | b :: bs, b' :: bs', [], s, _ => rfl
  | b :: bs, b' :: bs', x :: l, s, h => by
    simp only [List.map_cons, List.cons.injEq] at h
    simp only [List.zip_cons_cons, List.foldl_cons]
    have : addS s b x = addS s b' x := by
      have h1 : b.hut = b'.hut := congrArg Prod.fst h.1
      have h2 : b.half = b'.half := congrArg Prod.snd h.1
      unfold addS
      rw [h1, h2]
    rw [this]
    exact sumT_pos bs bs' l _ h.2

theorem tups_keeps {t : Tw} (ht : t.OK) {k : Nat} {b : B} (hb : t.bs[k]? = some b) {n : Int} (hn : (words b).1 ≤ n ∧ n ≤ (words b).2) : ∀ j, j ≤ t.bs.length → tupsK (keepsT t k b n) (-1) 0 0 j = tupsK t k n 0 j
  | 0, _ => rfl
  | j + 1, hj => by
    have hbj : t.bs[j]? = some (t.bs[j]'(by omega)) := List.getElem?_eq_getElem _
    have hw := words_bound t ht (List.mem_of_getElem? hb)
    obtain ⟨hk, hbe⟩ := List.getElem?_eq_some_iff.1 hb
    by_cases hjk : j = k
    · subst hjk
      have hbx : (keepsT t j b n).bs[j]? = some { b with ll := n, lh := n, bl := 0, bh := 0 } := by
        unfold keepsT
        simp only
        rw [List.getElem?_set_self hk]
      rw [tupsK_succ hbx, tupsK_succ hb, tups_keeps ht hb hn j (by omega)]
      refine flatMap_congr' fun l _ => ?_
      congr 1
      rw [canL_none]
      have hw' : words { b with ll := n, lh := n, bl := 0, bh := 0 } = (n, n) := by
        unfold words
        simp only
        rw [show max 0 (n - 0) = n by omega, show n - 0 = n by omega]
      rw [hw']
      unfold canL
      have e : (fun x => !skipN j j n 0 x) = fun x => x == n := by
        funext x
        simp [skipN, bne]
      rw [e, rangeI_one hn]
      unfold rangeI
      simp only
      rw [show (n - n + 1).toNat = 1 by omega]
      simp
    · have hbx : (keepsT t k b n).bs[j]? = some (t.bs[j]'(by omega)) := by
        unfold keepsT
        simp only
        rw [List.getElem?_set_ne (by omega)]
        exact hbj
      rw [tupsK_succ hbx, tupsK_succ hbj, tups_keeps ht hb hn j (by omega)]
      refine flatMap_congr' fun l _ => ?_
      congr 1
      rw [canL_none]
      unfold canL
      have h4 : ((j : Int) == (k : Int)) = false := by simp; omega
      symm
      rw [List.filter_eq_self]
      intro x _
      simp [skipN, h4]

theorem truths_keeps {t : Tw} (ht : t.OK) {k : Nat} {b : B} (hb : t.bs[k]? = some b) {n : Int} (hn : (words b).1 ≤ n ∧ n ≤ (words b).2) : truthsA (keepsT t k b n) (-1) 0 0 = truthsA t k n 0 := by
  unfold truthsA truthsC
  have hlen : (keepsT t k b n).bs.length = t.bs.length := by simp [keepsT]
  rw [hlen, tups_keeps ht hb hn _ (Nat.le_refl _)]
  refine List.filter_congr fun l _ => ?_
  have hs : sumT (keepsT t k b n).bs l = sumT t.bs l := sumT_pos _ _ l zero6 (keepsT_pos t k b hb n)
  rw [hs]
  rfl

theorem count_keeps {t : Tw} (ht : t.OK) {k : Nat} {b : B} (hb : t.bs[k]? = some b) {n : Int} (hn : (words b).1 ≤ n ∧ n ≤ (words b).2) : (specCount (keepsT t k b n)).1 = waysN t k 0 n := by
  have hw := words_bound t ht (List.mem_of_getElem? hb)
  have hK := (Tw.ok_iff _).2 (keepsT_OK ht hb (n := n) (by omega))
  unfold specCount waysN
  rw [hK, truths_keeps ht hb hn]
  rfl

theorem mostF_ge (f : Nat → Int) : ∀ k n, n < k → f n ≤ mostF f k
  | 0, n, h => by omega
  | k + 1, n, h => by
    simp only [mostF]
    rcases Nat.lt_succ_iff_lt_or_eq.1 h with h | h
    · have := mostF_ge f k n h; omega
    · subst h; omega
theorem mostF_is (f : Nat → Int) : ∀ k, mostF f k = -1 ∨ ∃ n < k, mostF f k = f n
  | 0 => .inl rfl
  | k + 1 => by
    simp only [mostF]
    by_cases h : mostF f k ≤ f k
    · exact .inr ⟨k, by omega, by omega⟩
    · rcases mostF_is f k with h2 | ⟨n, hn, h2⟩
      · exact .inl (by omega)
      · exact .inr ⟨n, by omega, by omega⟩

theorem mostF_eq {t : Tw} (ht : t.OK) {k : Nat} {b : B} (hb : t.bs[k]? = some b) : mostF (fun j => (specCount (keepsT t k b ((words b).1 + j))).1) ((words b).2 - (words b).1 + 1).toNat = leftD (docA t) k := by
  have hk : k < t.bs.length := (List.getElem?_eq_some_iff.1 hb).1
  have hw := words_bound t ht (List.mem_of_getElem? hb)
  have hf : ∀ j : Nat, j < ((words b).2 - (words b).1 + 1).toNat → (specCount (keepsT t k b ((words b).1 + j))).1 = manyD (docA t) k ((words b).1 + j).toNat := fun j hj => by
    rw [count_keeps ht hb (by omega), ← waysN_many ht k hk]
    congr 1
    omega
  have ge := mostF_ge (fun j => (specCount (keepsT t k b ((words b).1 + j))).1) ((words b).2 - (words b).1 + 1).toNat
  have is := mostF_is (fun j => (specCount (keepsT t k b ((words b).1 + j))).1) ((words b).2 - (words b).1 + 1).toNat
  generalize mostF (fun j => (specCount (keepsT t k b ((words b).1 + j))).1) ((words b).2 - (words b).1 + 1).toNat = M at *
  have lge := leftK_ge (docA t) k 5
  have lis := leftK_is (docA t) k 5
  have l0 := (leftK_le (docA t) k 5).1
  have g0 := ge 0 (by omega)
  rw [hf 0 (by omega)] at g0
  have le1 : M ≤ leftD (docA t) k := by
    unfold leftD
    rcases is with h | ⟨n, hn, h⟩
    · omega
    · rw [h, hf n hn]
      exact lge _ (by omega)
  have le2 : leftD (docA t) k ≤ M := by
    unfold leftD
    rcases lis with h | ⟨m, hm, h⟩
    · omega
    · rw [h]
      by_cases h0 : manyD (docA t) k m = 0
      · rw [h0]; omega
      · have hpos : 0 < manyD (docA t) k m := Nat.pos_of_ne_zero h0
        unfold manyD at hpos
        obtain ⟨l, hl, he⟩ := List.countP_pos_iff.1 hpos
        have hx : l.getD k 0 = (m : Int) := by simpa using he
        have hc := truth_word ht hb hl
        rw [canL_none, hx] at hc
        unfold rangeI at hc
        obtain ⟨j, hj, e⟩ := List.mem_map.1 hc
        have hj' := List.mem_range.1 hj
        have := ge j hj'
        rw [hf j hj', e] at this
        simpa using this
  omega
end Go.Proofs.Yticdacdflemoiaa
