/- Proved here: laws that the statements need (TwR9, TwRA, TwRB, TwRC). No conditions but those that each law states. -/
import Derived.Test.YticdacdflemoiaaLD

set_option linter.unusedSimpArgs false
set_option linter.unusedVariables false

/- The document's Fewest. -/
namespace Go.Proofs.Yticdacdflemoiaa
open Go Go.Ab

theorem size_step : ∀ m < 64, size m = m % 2 + size (m / 2) := by decide +kernel

theorem rsize_ok (n : Nat) (hn : n < 64) : ACall Try.prog 32 [.t (vi n)] [] (ret (vi (size n))) := by
  refine ACall.walk k32 ?_
  unfold c32
  simp only [go_sem, Nat.reduceEqDiff, Nat.reduceAdd, Nat.reduceSub, Nat.reduceMul, Nat.reduceLT, Nat.reduceLeDiff, Nat.reduceMod, Nat.reduceDiv, Int.reduceToNat, Int.reduceLT, Int.reduceLE, Bool.not_true, Bool.not_false, reduceIte]
  refine awpL_loopK 7 (fun k s => ∃ m o : Nat, m < 64 ∧ m * 2 ^ k ≤ n ∧ o + size m = size n ∧ o ≤ k ∧ s = { env := [(0, .t (vi m)), (3, .t (vi o))], σ := [] }) ⟨_, Sub.gc [] [0, 3] rfl rfl, n, 0, hn, by simp, by simp, by omega, rfl⟩ ?_
  rintro k s hk ⟨m, o, hm, hmn, hs, ho, rfl⟩
  simp only [go_sem, Nat.reduceEqDiff, Nat.reduceAdd, Nat.reduceSub, Nat.reduceMul, Nat.reduceLT, Nat.reduceLeDiff, Nat.reduceMod, Nat.reduceDiv, Int.reduceToNat, Int.reduceLT, Int.reduceLE, Bool.not_true, Bool.not_false, reduceIte]
  refine BrL.mk (fun h => ?_) (fun h => ?_)
  · have hpos : 0 < m := by have : (m : Int) > 0 := by simpa using h
                            omega
    have hk6 : k < 6 := by
      rcases Nat.lt_or_ge k 6 with h | h
      · exact h
      · have h2 : 2 ^ 6 ≤ 2 ^ k := Nat.pow_le_pow_right (by omega) h
        have h3 : 1 * 2 ^ 6 ≤ m * 2 ^ k := Nat.mul_le_mul hpos h2
        omega
    have hst := size_step m hm
    have n2 : ¬ ((2 : Int) = 0) := by omega
    have t1 : (m : Int).tmod 2 = ((m % 2 : Nat) : Int) := by rw [Int.tmod_eq_emod_of_nonneg (by omega)]; omega
    have t2 : (m : Int).tdiv 2 = ((m / 2 : Nat) : Int) := by rw [Int.tdiv_eq_ediv_of_nonneg (by omega)]; omega
    have w1 : IntKind.i64.wrap ((o : Int) + (m % 2 : Nat)) = ((o + m % 2 : Nat) : Int) := by rw [wrap_id (by omega) (by omega)]; omega
    have w2 : IntKind.i64.wrap ((m / 2 : Nat) : Int) = ((m / 2 : Nat) : Int) := wrap_id (by omega) (by omega)
    simp only [h, go_sem, Nat.reduceEqDiff, Nat.reduceAdd, Nat.reduceSub, Nat.reduceMul, Nat.reduceLT, Nat.reduceLeDiff, Nat.reduceMod, Nat.reduceDiv, Int.reduceToNat, Int.reduceLT, Int.reduceLE, Bool.not_true, Bool.not_false, reduceIte, n2, t1, t2, w1, w2]
    refine ⟨by omega, _, Sub.gc [] [0, 3] rfl rfl, m / 2, o + m % 2, by omega, ?_, by omega, by omega, rfl⟩
    have h3 : m / 2 * 2 ^ (k + 1) = m / 2 * 2 * 2 ^ k := by rw [Nat.pow_succ, Nat.mul_comm (2 ^ k) 2, Nat.mul_assoc]
    have h4 : m / 2 * 2 * 2 ^ k ≤ m * 2 ^ k := Nat.mul_le_mul_right _ (by omega)
    omega
  · have hz : m = 0 := by have : ¬ (m : Int) > 0 := by simpa using h
                          omega
    subst hz
    simp only [h, go_sem, Nat.reduceEqDiff, Nat.reduceAdd, Nat.reduceSub, Nat.reduceMul, Nat.reduceLT, Nat.reduceLeDiff, Nat.reduceMod, Nat.reduceDiv, Int.reduceToNat, Int.reduceLT, Int.reduceLE, Bool.not_true, Bool.not_false, reduceIte]
    have : size 0 = 0 := rfl
    exact finL_ret [] ⟨rfl, rfl, rfl, rfl, _, rfl, res_mk (by rw [← hs, this]; rfl)⟩

theorem rsome_ok (xs : List Int) (hl : xs.length ≤ 6) : ACall Try.prog 70 [.t (.slice 1 (xs.map vi))] [] (ret (vi (maskOf (fun i => decide (xs.getD i 0 > 0)) xs.length : Nat))) := by
  refine ACall.walk k70 ?_
  unfold c70
  simp only [go_sem, Nat.reduceEqDiff, Nat.reduceAdd, Nat.reduceSub, Nat.reduceMul, Nat.reduceLT, Nat.reduceLeDiff, Nat.reduceMod, Nat.reduceDiv, Int.reduceToNat, Int.reduceLT, Int.reduceLE, Bool.not_true, Bool.not_false, reduceIte, List.length_map]
  obtain ⟨m1, hm1⟩ : ∃ m1 : Nat → Nat, ∀ k, m1 k = maskOf (fun i => decide (xs.getD i 0 > 0)) k := ⟨_, fun _ => rfl⟩
  have hm10 : m1 0 = 0 := hm1 0
  refine awpL_loopK xs.length (fun k s => s = { env := [(4, .t (vi k)), (3, .t (vi (m1 k))), (0, .t (.slice 1 (xs.map vi)))], σ := [] }) ⟨_, Sub.gc [] [4, 3, 0] rfl rfl, by rw [hm10]; rfl⟩ ?_
  rintro k s hk rfl
  simp only [go_sem, Nat.reduceEqDiff, Nat.reduceAdd, Nat.reduceSub, Nat.reduceMul, Nat.reduceLT, Nat.reduceLeDiff, Nat.reduceMod, Nat.reduceDiv, Int.reduceToNat, Int.reduceLT, Int.reduceLE, Bool.not_true, Bool.not_false, reduceIte, List.length_map]
  refine BrL.mk (fun h => ?_) (fun h => ?_)
  · have hk : k < xs.length := by simpa using h
    have hx : xs[k]? = some (xs.getD k 0) := by rw [List.getD_eq_getElem?_getD, List.getElem?_eq_getElem hk]; rfl
    have hw : IntKind.i64.wrap ((k : Int) + 1) = ((k + 1 : Nat) : Int) := by rw [wrap_id (by omega) (by omega)]; omega
    have hs1 : m1 (k + 1) = if decide (xs.getD k 0 > 0) then m1 k + 2 ^ k else m1 k := by
      rw [hm1, hm1, ← or_add (maskOf_lt _ k)]; rfl
    have hb1 : m1 k < 2 ^ k := by rw [hm1]; exact maskOf_lt _ k
    have hp : 2 ^ k ≤ 64 := Nat.le_trans (Nat.pow_le_pow_right (by omega) (show k ≤ 6 by omega)) (by decide)
    have hpw := power_ok k (by omega)
    generalize 2 ^ k = P at *
    generalize m1 k = x1 at *
    have hw1 : IntKind.i64.wrap ((x1 : Int) + P) = ((x1 + P : Nat) : Int) := by rw [wrap_id (by omega) (by omega)]; omega
    generalize xs.getD k 0 = x at *
    simp only [h, go_sem, Nat.reduceEqDiff, Nat.reduceAdd, Nat.reduceSub, Nat.reduceMul, Nat.reduceLT, Nat.reduceLeDiff, Nat.reduceMod, Nat.reduceDiv, Int.reduceToNat, Int.reduceLT, Int.reduceLE, Bool.not_true, Bool.not_false, reduceIte, List.getElem?_map, hx]
    refine BrL.mk (fun h1 => ?_) (fun h1 => ?_)
    · simp only [go_sem, Nat.reduceEqDiff, Nat.reduceAdd, Nat.reduceSub, Nat.reduceMul, Nat.reduceLT, Nat.reduceLeDiff, Nat.reduceMod, Nat.reduceDiv, Int.reduceToNat, Int.reduceLT, Int.reduceLE, Bool.not_true, Bool.not_false, reduceIte]
      refine ACallL.quiet1 hpw rfl rfl rfl ?_
      simp only [go_sem, Nat.reduceEqDiff, Nat.reduceAdd, Nat.reduceSub, Nat.reduceMul, Nat.reduceLT, Nat.reduceLeDiff, Nat.reduceMod, Nat.reduceDiv, Int.reduceToNat, Int.reduceLT, Int.reduceLE, Bool.not_true, Bool.not_false, reduceIte, hw, hw1]
      refine ⟨hk, _, Sub.gc [] [4, 3, 0] rfl rfl, ?_⟩
      rw [hs1, h1]; rfl
    · simp only [go_sem, Nat.reduceEqDiff, Nat.reduceAdd, Nat.reduceSub, Nat.reduceMul, Nat.reduceLT, Nat.reduceLeDiff, Nat.reduceMod, Nat.reduceDiv, Int.reduceToNat, Int.reduceLT, Int.reduceLE, Bool.not_true, Bool.not_false, reduceIte, hw, hw1]
      refine ⟨hk, _, Sub.gc [] [4, 3, 0] rfl rfl, ?_⟩
      rw [hs1, h1]; rfl
  · have hk : k = xs.length := by have : ¬ (k : Int) < xs.length := by simpa using h
                                  omega
    subst hk
    simp only [h, go_sem, Nat.reduceEqDiff, Nat.reduceAdd, Nat.reduceSub, Nat.reduceMul, Nat.reduceLT, Nat.reduceLeDiff, Nat.reduceMod, Nat.reduceDiv, Int.reduceToNat, Int.reduceLT, Int.reduceLE, Bool.not_true, Bool.not_false, reduceIte]
    exact finL_ret [] ⟨rfl, rfl, rfl, rfl, _, rfl, res_mk (by rw [hm1]; rfl)⟩
end Go.Proofs.Yticdacdflemoiaa

/- The document's Fewest: its contract. -/
namespace Go.Proofs.Yticdacdflemoiaa
open Go Go.Ab

def someOf (l : List Int) : Nat := maskOf (fun i => decide (l.getD i 0 > 0)) l.length
def fewS (best n : Nat) : Nat := if decide ((size n : Int) < size best) || (((size n : Int) == size best) && decide ((n : Int) < best)) then n else best
def fewD (ds : List (List Int)) : Nat := (ds.map someOf).foldl fewS ((ds.map someOf).headD 0)
def docFewest (t : Tw) : Int × Int × Int :=
  if t.ok then (if (docA t).isEmpty then (0, 0, 10) else ((size (fewD (docA t)) : Nat), (fewD (docA t) : Nat), 0)) else (0, 0, 1)

theorem someOf_lt {l : List Int} (h : l.length ≤ 6) : someOf l < 64 := by
  have h1 := maskOf_lt (fun i => decide (l.getD i 0 > 0)) l.length
  have h2 : 2 ^ l.length ≤ 64 := Nat.le_trans (Nat.pow_le_pow_right (by omega) h) (by decide)
  unfold someOf
  omega

set_option maxRecDepth 4000 in
set_option maxHeartbeats 1000000 in
theorem rFewest_ok (t : Tw) : ACall Try.prog 26 [.t (.agg (tw3 t))] [] (res (twoE (docFewest t).1 (docFewest t).2.1 (docFewest t).2.2)) := by
  refine ACall.walk k26 ?_
  unfold c26 tw3
  simp only [go_sem, Nat.reduceEqDiff, Nat.reduceAdd, Nat.reduceSub, Nat.reduceMul, Nat.reduceLT, Nat.reduceLeDiff, Nat.reduceMod, Nat.reduceDiv, Int.reduceToNat, Int.reduceLT, Int.reduceLE, Bool.not_true, Bool.not_false, reduceIte]
  refine ACallL.fresh1 (rtold_ok t true) rfl ?_
  cases hok : t.ok
  · rw [toldO_no _ hok]
    simp only [go_sem, Nat.reduceEqDiff, Nat.reduceAdd, Nat.reduceSub, Nat.reduceMul, Nat.reduceLT, Nat.reduceLeDiff, Nat.reduceMod, Nat.reduceDiv, Int.reduceToNat, Int.reduceLT, Int.reduceLE, Bool.not_true, Bool.not_false, reduceIte, nilT, ne1]
    exact finL_ret [] ⟨rfl, rfl, rfl, rfl, _, rfl, res_mk (by simp only [docFewest, hok]; rfl)⟩
  · have ht := (Tw.ok_iff t).1 hok
    have hnb := ht.nb
    cases hD : (docA t).isEmpty
    · have hpos : 0 < (docA t).length := by
        have : docA t ≠ [] := by simpa using hD
        exact List.length_pos_iff.2 this
      have hmem := fun l (h : l ∈ docA t) => docA_mem ht h
      have hmany : (docA t).length ≤ 15625 := docT_many ht _ _
      have hspec : docFewest t = (((size (fewD (docA t)) : Nat) : Int), ((fewD (docA t) : Nat) : Int), (0 : Int)) := by simp only [docFewest, hok, hD]; rfl
      rw [hspec, toldO_yes hok hD]
      generalize docA t = ds at *
      have hsl : ∀ l ∈ ds, someOf l < 64 := fun l hl => someOf_lt (by rw [(hmem l hl).1]; omega)
      have hsm : ∀ l ∈ ds, ACall Try.prog 70 [.t (.slice 1 (l.map vi))] [] (ret (vi (someOf l : Nat))) := fun l hl => rsome_ok l (by rw [(hmem l hl).1]; omega)
      have hd0 : ds[0]? = some ds[0] := List.getElem?_eq_getElem hpos
      have hl0 := hsl _ (List.getElem_mem hpos)
      have hs0 := hsm _ (List.getElem_mem hpos)
      have hhead : (ds.map someOf).headD 0 = someOf ds[0] := by
        cases ds with
        | nil => simp at hpos
        | cons l ls => rfl
      generalize ds[0] = d0 at *
      obtain ⟨bs, hbs⟩ : ∃ bs : Nat → Nat, ∀ k, bs k = ((ds.map someOf).take k).foldl fewS (someOf d0) := ⟨_, fun _ => rfl⟩
      have hbs0 : bs 0 = someOf d0 := hbs 0
      have hbN : bs ds.length = fewD ds := by
        rw [hbs, List.take_of_length_le (by simp)]; unfold fewD; rw [hhead]
      simp only [go_sem, Nat.reduceEqDiff, Nat.reduceAdd, Nat.reduceSub, Nat.reduceMul, Nat.reduceLT, Nat.reduceLeDiff, Nat.reduceMod, Nat.reduceDiv, Int.reduceToNat, Int.reduceLT, Int.reduceLE, Bool.not_true, Bool.not_false, reduceIte, ne0, List.getElem?_map, List.length_map, hd0, tL]
      refine ACallL.quiet1 hs0 rfl rfl rfl ?_
      simp only [go_sem, Nat.reduceEqDiff, Nat.reduceAdd, Nat.reduceSub, Nat.reduceMul, Nat.reduceLT, Nat.reduceLeDiff, Nat.reduceMod, Nat.reduceDiv, Int.reduceToNat, Int.reduceLT, Int.reduceLE, Bool.not_true, Bool.not_false, reduceIte, ne0, List.getElem?_map, List.length_map, hd0, tL]
      refine awpL_loopK ds.length (fun k s => bs k < 64 ∧ s = { env := [(8, .t (vi k)), (7, .t (vi (bs k))), (5, .t (.slice 1 (ds.map tL)))], σ := [] })
          ⟨_, Sub.gc [] [8, 7, 5] rfl rfl, by rw [hbs0]; exact hl0, by rw [hbs0]; rfl⟩ ?_
      rintro k s hk ⟨hlt, rfl⟩
      simp only [go_sem, Nat.reduceEqDiff, Nat.reduceAdd, Nat.reduceSub, Nat.reduceMul, Nat.reduceLT, Nat.reduceLeDiff, Nat.reduceMod, Nat.reduceDiv, Int.reduceToNat, Int.reduceLT, Int.reduceLE, Bool.not_true, Bool.not_false, reduceIte, List.length_map]
      refine BrL.mk (fun h => ?_) (fun h => ?_)
      · have hk : k < ds.length := by simpa using h
        have hdk : ds[k]? = some ds[k] := List.getElem?_eq_getElem hk
        have hlk := hsl _ (List.getElem_mem hk)
        have hsk := hsm _ (List.getElem_mem hk)
        have hcol : (ds.map someOf)[k]? = some (someOf ds[k]) := by rw [List.getElem?_map, hdk]; rfl
        have hb1 : bs (k + 1) = fewS (bs k) (someOf ds[k]) := by rw [hbs, hbs, foldl_take _ _ _ _ _ hcol]
        have hw : IntKind.i64.wrap ((k : Int) + 1) = ((k + 1 : Nat) : Int) := by rw [wrap_id (by omega) (by omega)]; omega
        generalize ds[k] = dk at *
        generalize bs k = b at *
        simp only [h, go_sem, Nat.reduceEqDiff, Nat.reduceAdd, Nat.reduceSub, Nat.reduceMul, Nat.reduceLT, Nat.reduceLeDiff, Nat.reduceMod, Nat.reduceDiv, Int.reduceToNat, Int.reduceLT, Int.reduceLE, Bool.not_true, Bool.not_false, reduceIte, List.getElem?_map, hdk, tL]
        refine ACallL.quiet1 hsk rfl rfl rfl ?_
        generalize someOf dk = n at *
        have hzn := rsize_ok n hlk
        have hzb := rsize_ok b hlt
        unfold fewS at hb1
        simp only [go_sem, Nat.reduceEqDiff, Nat.reduceAdd, Nat.reduceSub, Nat.reduceMul, Nat.reduceLT, Nat.reduceLeDiff, Nat.reduceMod, Nat.reduceDiv, Int.reduceToNat, Int.reduceLT, Int.reduceLE, Bool.not_true, Bool.not_false, reduceIte]
        refine ACallL.quiet1 hzn rfl rfl rfl ?_
        simp only [go_sem, Nat.reduceEqDiff, Nat.reduceAdd, Nat.reduceSub, Nat.reduceMul, Nat.reduceLT, Nat.reduceLeDiff, Nat.reduceMod, Nat.reduceDiv, Int.reduceToNat, Int.reduceLT, Int.reduceLE, Bool.not_true, Bool.not_false, reduceIte]
        refine ACallL.quiet1 hzb rfl rfl rfl ?_
        cases hA : decide ((size n : Int) < size b)
        · simp only [go_sem, Nat.reduceEqDiff, Nat.reduceAdd, Nat.reduceSub, Nat.reduceMul, Nat.reduceLT, Nat.reduceLeDiff, Nat.reduceMod, Nat.reduceDiv, Int.reduceToNat, Int.reduceLT, Int.reduceLE, Bool.not_true, Bool.not_false, reduceIte, hA, undef]
          refine ACallL.quiet1 hzn rfl rfl rfl ?_
          simp only [go_sem, Nat.reduceEqDiff, Nat.reduceAdd, Nat.reduceSub, Nat.reduceMul, Nat.reduceLT, Nat.reduceLeDiff, Nat.reduceMod, Nat.reduceDiv, Int.reduceToNat, Int.reduceLT, Int.reduceLE, Bool.not_true, Bool.not_false, reduceIte]
          refine ACallL.quiet1 hzb rfl rfl rfl ?_
          cases hB : ((size n : Int) == size b)
          · simp only [go_sem, Nat.reduceEqDiff, Nat.reduceAdd, Nat.reduceSub, Nat.reduceMul, Nat.reduceLT, Nat.reduceLeDiff, Nat.reduceMod, Nat.reduceDiv, Int.reduceToNat, Int.reduceLT, Int.reduceLE, Bool.not_true, Bool.not_false, reduceIte, hB, undef, hw]
            refine ⟨hk, _, Sub.gc [] [8, 7, 5] rfl rfl, ?_, ?_⟩
            · rw [hb1, hA, hB]; simpa using hlt
            · rw [hb1, hA, hB]; rfl
          · cases hC : decide ((n : Int) < b)
            · simp only [go_sem, Nat.reduceEqDiff, Nat.reduceAdd, Nat.reduceSub, Nat.reduceMul, Nat.reduceLT, Nat.reduceLeDiff, Nat.reduceMod, Nat.reduceDiv, Int.reduceToNat, Int.reduceLT, Int.reduceLE, Bool.not_true, Bool.not_false, reduceIte, hB, hC, undef, hw]
              refine ⟨hk, _, Sub.gc [] [8, 7, 5] rfl rfl, ?_, ?_⟩
              · rw [hb1, hA, hB, hC]; simpa using hlt
              · rw [hb1, hA, hB, hC]; rfl
            · simp only [go_sem, Nat.reduceEqDiff, Nat.reduceAdd, Nat.reduceSub, Nat.reduceMul, Nat.reduceLT, Nat.reduceLeDiff, Nat.reduceMod, Nat.reduceDiv, Int.reduceToNat, Int.reduceLT, Int.reduceLE, Bool.not_true, Bool.not_false, reduceIte, hB, hC, undef, hw]
              refine ⟨hk, _, Sub.gc [] [8, 7, 5] rfl rfl, ?_, ?_⟩
              · rw [hb1, hA, hB, hC]; simpa using hlk
              · rw [hb1, hA, hB, hC]; rfl
        · simp only [go_sem, Nat.reduceEqDiff, Nat.reduceAdd, Nat.reduceSub, Nat.reduceMul, Nat.reduceLT, Nat.reduceLeDiff, Nat.reduceMod, Nat.reduceDiv, Int.reduceToNat, Int.reduceLT, Int.reduceLE, Bool.not_true, Bool.not_false, reduceIte, hA, undef, hw]
          refine ⟨hk, _, Sub.gc [] [8, 7, 5] rfl rfl, ?_, ?_⟩
          · rw [hb1, hA]; simpa using hlk
          · rw [hb1, hA]; rfl
      · have hk : k = ds.length := by have : ¬ (k : Int) < ds.length := by simpa using h
                                      omega
        subst hk
        have hz := rsize_ok _ hlt
        rw [hbN] at hz ⊢
        simp only [h, go_sem, Nat.reduceEqDiff, Nat.reduceAdd, Nat.reduceSub, Nat.reduceMul, Nat.reduceLT, Nat.reduceLeDiff, Nat.reduceMod, Nat.reduceDiv, Int.reduceToNat, Int.reduceLT, Int.reduceLE, Bool.not_true, Bool.not_false, reduceIte]
        refine ACallL.quiet1 hz rfl rfl rfl ?_
        simp only [go_sem, Nat.reduceEqDiff, Nat.reduceAdd, Nat.reduceSub, Nat.reduceMul, Nat.reduceLT, Nat.reduceLeDiff, Nat.reduceMod, Nat.reduceDiv, Int.reduceToNat, Int.reduceLT, Int.reduceLE, Bool.not_true, Bool.not_false, reduceIte]
        exact finL_ret [] ⟨rfl, rfl, rfl, rfl, _, rfl, res_mk rfl⟩
    · rw [toldO_clash hok hD]
      simp only [go_sem, Nat.reduceEqDiff, Nat.reduceAdd, Nat.reduceSub, Nat.reduceMul, Nat.reduceLT, Nat.reduceLeDiff, Nat.reduceMod, Nat.reduceDiv, Int.reduceToNat, Int.reduceLT, Int.reduceLE, Bool.not_true, Bool.not_false, reduceIte, nilT, ne10]
      exact finL_ret [] ⟨rfl, rfl, rfl, rfl, _, rfl, res_mk (by simp only [docFewest, hok, hD]; rfl)⟩
end Go.Proofs.Yticdacdflemoiaa

/- The document's Search. -/
namespace Go.Proofs.Yticdacdflemoiaa
open Go Go.Ab

/-- In how many truths a bather has kept a number. -/
def manyD (ds : List (List Int)) (b : Nat) (n : Nat) : Nat := ds.countP fun l => l.getD b 0 == (n : Int)
def leftK (ds : List (List Int)) (b : Nat) : Nat → Int
  | 0 => 0
  | k + 1 => max (leftK ds b k) (manyD ds b k)
def leftD (ds : List (List Int)) (b : Nat) : Int := leftK ds b 5
theorem leftK_le (ds : List (List Int)) (b : Nat) : ∀ k, 0 ≤ leftK ds b k ∧ leftK ds b k ≤ ds.length
  | 0 => by simp [leftK]
  | k + 1 => by
    have h1 := leftK_le ds b k
    have h2 : manyD ds b k ≤ ds.length := List.countP_le_length
    simp only [leftK]
    omega

set_option maxRecDepth 4000 in
theorem rleft_ok (ds : List (List Int)) (b N : Nat) (hb : b < N) (hlen : ∀ l ∈ ds, l.length = N) (hmany : ds.length ≤ 15625) :
    ACall Try.prog 72 [.t (.slice 1 (ds.map tL)), .t (vi b)] [] (ret (vi (leftD ds b))) := by
  refine ACall.walk k72 ?_
  unfold c72
  simp only [go_sem, Nat.reduceEqDiff, Nat.reduceAdd, Nat.reduceSub, Nat.reduceMul, Nat.reduceLT, Nat.reduceLeDiff, Nat.reduceMod, Nat.reduceDiv, Int.reduceToNat, Int.reduceLT, Int.reduceLE, Bool.not_true, Bool.not_false, reduceIte, List.length_map]
  refine awpL_loopK 5 (fun k s => s = { env := [(6, .t (vi k)), (5, .t (vi (leftK ds b k))), (0, .t (.slice 1 (ds.map tL))), (1, .t (vi b))], σ := [] })
      ⟨_, Sub.gc [] [6, 5, 0, 1] rfl rfl, rfl⟩ ?_
  rintro k s hk rfl
  simp only [go_sem, Nat.reduceEqDiff, Nat.reduceAdd, Nat.reduceSub, Nat.reduceMul, Nat.reduceLT, Nat.reduceLeDiff, Nat.reduceMod, Nat.reduceDiv, Int.reduceToNat, Int.reduceLT, Int.reduceLE, Bool.not_true, Bool.not_false, reduceIte, List.length_map]
  refine BrL.mk (fun h => ?_) (fun h => ?_)
  · have hk : k < 5 := by have : (k : Int) ≤ 4 := by simpa using h
                          omega
    have hw : IntKind.i64.wrap ((k : Int) + 1) = ((k + 1 : Nat) : Int) := by rw [wrap_id (by omega) (by omega)]; omega
    have hsucc : leftK ds b (k + 1) = max (leftK ds b k) (manyD ds b k) := rfl
    generalize leftK ds b k = lf at *
    simp only [h, go_sem, Nat.reduceEqDiff, Nat.reduceAdd, Nat.reduceSub, Nat.reduceMul, Nat.reduceLT, Nat.reduceLeDiff, Nat.reduceMod, Nat.reduceDiv, Int.reduceToNat, Int.reduceLT, Int.reduceLE, Bool.not_true, Bool.not_false, reduceIte]
    obtain ⟨cn, hcn⟩ : ∃ cn : Nat → Nat, ∀ j, cn j = (ds.take j).countP fun l => l.getD b 0 == (k : Int) := ⟨_, fun _ => rfl⟩
    have hcn0 : cn 0 = 0 := hcn 0
    refine awpL_loopK ds.length (fun j s => s = { env := [(8, .t (vi j)), (7, .t (vi (cn j))), (6, .t (vi k)), (5, .t (vi lf)), (0, .t (.slice 1 (ds.map tL))), (1, .t (vi b))], σ := [] })
      ⟨_, Sub.gc [] [8, 7, 6, 5, 0, 1] rfl rfl, by rw [hcn0]; rfl⟩ ?_
    clear h
    rintro j s hj rfl
    simp only [go_sem, Nat.reduceEqDiff, Nat.reduceAdd, Nat.reduceSub, Nat.reduceMul, Nat.reduceLT, Nat.reduceLeDiff, Nat.reduceMod, Nat.reduceDiv, Int.reduceToNat, Int.reduceLT, Int.reduceLE, Bool.not_true, Bool.not_false, reduceIte, List.length_map]
    refine BrL.mk (fun h => ?_) (fun h => ?_)
    · have hj : j < ds.length := by simpa using h
      have hdj : ds[j]? = some ds[j] := List.getElem?_eq_getElem hj
      have hl := hlen _ (List.getElem_mem hj)
      have hxj : (ds[j])[b]? = some (ds[j].getD b 0) := by
        rw [List.getD_eq_getElem?_getD, List.getElem?_eq_getElem (by omega : b < ds[j].length)]; rfl
      have hc1 : cn (j + 1) = cn j + if ds[j].getD b 0 == (k : Int) then 1 else 0 := by rw [hcn, hcn, countP_take _ _ _ _ hdj]
      have hcl : cn j ≤ ds.length := by rw [hcn]; exact countP_take_le _ _ _
      have hw : IntKind.i64.wrap ((j : Int) + 1) = ((j + 1 : Nat) : Int) := by rw [wrap_id (by omega) (by omega)]; omega
      have hwc : IntKind.i64.wrap ((cn j : Int) + 1) = ((cn j + 1 : Nat) : Int) := by rw [wrap_id (by omega) (by omega)]; omega
      generalize ds[j] = dj at *
      simp only [h, go_sem, Nat.reduceEqDiff, Nat.reduceAdd, Nat.reduceSub, Nat.reduceMul, Nat.reduceLT, Nat.reduceLeDiff, Nat.reduceMod, Nat.reduceDiv, Int.reduceToNat, Int.reduceLT, Int.reduceLE, Bool.not_true, Bool.not_false, reduceIte, List.getElem?_map, hdj, tL, hxj]
      refine BrL.mk (fun h1 => ?_) (fun h1 => ?_)
      all_goals
        simp only [go_sem, Nat.reduceEqDiff, Nat.reduceAdd, Nat.reduceSub, Nat.reduceMul, Nat.reduceLT, Nat.reduceLeDiff, Nat.reduceMod, Nat.reduceDiv, Int.reduceToNat, Int.reduceLT, Int.reduceLE, Bool.not_true, Bool.not_false, reduceIte, hw, hwc]
        refine ⟨hj, _, Sub.gc [] [8, 7, 6, 5, 0, 1] rfl rfl, ?_⟩
        rw [hc1, h1]
        rfl
    · have hj : j = ds.length := by have : ¬ (j : Int) < ds.length := by simpa using h
                                    omega
      subst hj
      have hm : cn ds.length = manyD ds b k := by rw [hcn, List.take_length]; rfl
      simp only [h, go_sem, Nat.reduceEqDiff, Nat.reduceAdd, Nat.reduceSub, Nat.reduceMul, Nat.reduceLT, Nat.reduceLeDiff, Nat.reduceMod, Nat.reduceDiv, Int.reduceToNat, Int.reduceLT, Int.reduceLE, Bool.not_true, Bool.not_false, reduceIte, hw]
      refine ⟨hk, _, Sub.gc [] [6, 5, 0, 1] rfl rfl, ?_⟩
      rw [hsucc, hm]
      rfl
  · have hk : k = 5 := by have : ¬ (k : Int) ≤ 4 := by simpa using h
                          omega
    subst hk
    simp only [h, go_sem, Nat.reduceEqDiff, Nat.reduceAdd, Nat.reduceSub, Nat.reduceMul, Nat.reduceLT, Nat.reduceLeDiff, Nat.reduceMod, Nat.reduceDiv, Int.reduceToNat, Int.reduceLT, Int.reduceLE, Bool.not_true, Bool.not_false, reduceIte]
    exact finL_ret [] ⟨rfl, rfl, rfl, rfl, _, rfl, res_mk rfl⟩

def bestD (ds : List (List Int)) : Nat → Nat
  | 0 => 0
  | k + 1 => if decide (leftD ds k < leftD ds (bestD ds k)) then k else bestD ds k
theorem bestD_lt (ds : List (List Int)) : ∀ k, 0 < k → bestD ds k < k
  | 0, h => by omega
  | k + 1, _ => by
    simp only [bestD]
    split
    · omega
    · rcases Nat.eq_zero_or_pos k with h | h
      · subst h; simp [bestD]
      · have := bestD_lt ds k h; omega

def docSearch (t : Tw) : Int × Int × Int :=
  if t.ok then (if (docA t).isEmpty then (0, 0, 10) else (if ((docA t).length : Int) == 1 then (0, 0, 11) else ((bestD (docA t) t.bs.length : Nat), leftD (docA t) (bestD (docA t) t.bs.length), 0))) else (0, 0, 1)

set_option maxRecDepth 4000 in
set_option maxHeartbeats 1000000 in
theorem rSearch_ok (t : Tw) : ACall Try.prog 28 [.t (.agg (tw3 t))] [] (res (twoE (docSearch t).1 (docSearch t).2.1 (docSearch t).2.2)) := by
  refine ACall.walk k28 ?_
  unfold c28 tw3
  simp only [go_sem, Nat.reduceEqDiff, Nat.reduceAdd, Nat.reduceSub, Nat.reduceMul, Nat.reduceLT, Nat.reduceLeDiff, Nat.reduceMod, Nat.reduceDiv, Int.reduceToNat, Int.reduceLT, Int.reduceLE, Bool.not_true, Bool.not_false, reduceIte]
  refine ACallL.fresh1 (rtold_ok t true) rfl ?_
  cases hok : t.ok
  · rw [toldO_no _ hok]
    simp only [go_sem, Nat.reduceEqDiff, Nat.reduceAdd, Nat.reduceSub, Nat.reduceMul, Nat.reduceLT, Nat.reduceLeDiff, Nat.reduceMod, Nat.reduceDiv, Int.reduceToNat, Int.reduceLT, Int.reduceLE, Bool.not_true, Bool.not_false, reduceIte, nilT, ne1]
    exact finL_ret [] ⟨rfl, rfl, rfl, rfl, _, rfl, res_mk (by simp only [docSearch, hok]; rfl)⟩
  · have ht := (Tw.ok_iff t).1 hok
    have hnb := ht.nb
    cases hD : (docA t).isEmpty
    · have hpos : 0 < (docA t).length := by
        have : docA t ≠ [] := by simpa using hD
        exact List.length_pos_iff.2 this
      have hmem := fun l (h : l ∈ docA t) => (docA_mem ht h).1
      have hmany : (docA t).length ≤ 15625 := docT_many ht _ _
      have hfew : (docA t).length ≤ 5 ^ t.bs.length := extL_many ht _ _ t.bs.length [] (by simp)
      rw [toldO_yes hok hD]
      cases hO : (((docA t).length : Int) == 1)
      · have hspec : docSearch t = (((bestD (docA t) t.bs.length : Nat) : Int), leftD (docA t) (bestD (docA t) t.bs.length), (0 : Int)) := by simp only [docSearch, hok, hD, hO]; rfl
        rw [hspec]
        have hbp : 0 < t.bs.length := by
          rcases Nat.eq_zero_or_pos t.bs.length with h | h
          · rw [h] at hfew
            have : ¬ (((docA t).length : Int) = 1) := by simpa using hO
            omega
          · exact h
        clear hfew hspec
        generalize docA t = ds at *
        have hleft : ∀ b, b < t.bs.length → ACall Try.prog 72 [.t (.slice 1 (ds.map tL)), .t (vi b)] [] (ret (vi (leftD ds b))) := fun b hb => rleft_ok ds b t.bs.length hb hmem hmany
        simp only [go_sem, Nat.reduceEqDiff, Nat.reduceAdd, Nat.reduceSub, Nat.reduceMul, Nat.reduceLT, Nat.reduceLeDiff, Nat.reduceMod, Nat.reduceDiv, Int.reduceToNat, Int.reduceLT, Int.reduceLE, Bool.not_true, Bool.not_false, reduceIte, ne0, List.length_map, hO]
        refine awpL_loopK t.bs.length (fun k s => s = { env := [(8, .t (vi k)), (7, .t (vi (bestD ds k : Nat))), (5, .t (.slice 1 (ds.map tL))), (1, .t (.ptr (.agg (tw3 t)) 0))], σ := [] })
          ⟨_, Sub.gc [] [8, 7, 5, 1] rfl rfl, rfl⟩ ?_
        rintro k s hk rfl
        simp only [tw3, go_sem, Nat.reduceEqDiff, Nat.reduceAdd, Nat.reduceSub, Nat.reduceMul, Nat.reduceLT, Nat.reduceLeDiff, Nat.reduceMod, Nat.reduceDiv, Int.reduceToNat, Int.reduceLT, Int.reduceLE, Bool.not_true, Bool.not_false, reduceIte, List.length_map]
        refine BrL.mk (fun h => ?_) (fun h => ?_)
        · have hk : k < t.bs.length := by simpa using h
          have hw : IntKind.i64.wrap ((k : Int) + 1) = ((k + 1 : Nat) : Int) := by rw [wrap_id (by omega) (by omega)]; omega
          have hb : bestD ds k < t.bs.length := by
            rcases Nat.eq_zero_or_pos k with h | h
            · subst h; exact hbp
            · have := bestD_lt ds k h; omega
          have hsucc : bestD ds (k + 1) = if decide (leftD ds k < leftD ds (bestD ds k)) then k else bestD ds k := rfl
          have l1 := hleft k hk
          have l2 := hleft _ hb
          generalize bestD ds k = bt at *
          simp only [h, go_sem, Nat.reduceEqDiff, Nat.reduceAdd, Nat.reduceSub, Nat.reduceMul, Nat.reduceLT, Nat.reduceLeDiff, Nat.reduceMod, Nat.reduceDiv, Int.reduceToNat, Int.reduceLT, Int.reduceLE, Bool.not_true, Bool.not_false, reduceIte]
          refine ACallL.quiet1 l1 rfl rfl rfl ?_
          simp only [go_sem, Nat.reduceEqDiff, Nat.reduceAdd, Nat.reduceSub, Nat.reduceMul, Nat.reduceLT, Nat.reduceLeDiff, Nat.reduceMod, Nat.reduceDiv, Int.reduceToNat, Int.reduceLT, Int.reduceLE, Bool.not_true, Bool.not_false, reduceIte]
          refine ACallL.quiet1 l2 rfl rfl rfl ?_
          cases hA : decide (leftD ds k < leftD ds bt)
          all_goals
            simp only [go_sem, Nat.reduceEqDiff, Nat.reduceAdd, Nat.reduceSub, Nat.reduceMul, Nat.reduceLT, Nat.reduceLeDiff, Nat.reduceMod, Nat.reduceDiv, Int.reduceToNat, Int.reduceLT, Int.reduceLE, Bool.not_true, Bool.not_false, reduceIte, hA, hw]
            refine ⟨hk, _, Sub.gc [] [8, 7, 5, 1] rfl rfl, ?_⟩
            rw [hsucc, hA]
            rfl
        · have hk : k = t.bs.length := by have : ¬ (k : Int) < t.bs.length := by simpa using h
                                          omega
          subst hk
          have l1 := hleft _ (bestD_lt ds _ hbp)
          simp only [h, go_sem, Nat.reduceEqDiff, Nat.reduceAdd, Nat.reduceSub, Nat.reduceMul, Nat.reduceLT, Nat.reduceLeDiff, Nat.reduceMod, Nat.reduceDiv, Int.reduceToNat, Int.reduceLT, Int.reduceLE, Bool.not_true, Bool.not_false, reduceIte]
          refine ACallL.quiet1 l1 rfl rfl rfl ?_
          simp only [go_sem, Nat.reduceEqDiff, Nat.reduceAdd, Nat.reduceSub, Nat.reduceMul, Nat.reduceLT, Nat.reduceLeDiff, Nat.reduceMod, Nat.reduceDiv, Int.reduceToNat, Int.reduceLT, Int.reduceLE, Bool.not_true, Bool.not_false, reduceIte]
          exact finL_ret [] ⟨rfl, rfl, rfl, rfl, _, rfl, res_mk rfl⟩
      · simp only [go_sem, Nat.reduceEqDiff, Nat.reduceAdd, Nat.reduceSub, Nat.reduceMul, Nat.reduceLT, Nat.reduceLeDiff, Nat.reduceMod, Nat.reduceDiv, Int.reduceToNat, Int.reduceLT, Int.reduceLE, Bool.not_true, Bool.not_false, reduceIte, ne0, List.length_map, hO]
        exact finL_ret [] ⟨rfl, rfl, rfl, rfl, _, rfl, res_mk (by simp only [docSearch, hok, hD, hO]; rfl)⟩
    · rw [toldO_clash hok hD]
      simp only [go_sem, Nat.reduceEqDiff, Nat.reduceAdd, Nat.reduceSub, Nat.reduceMul, Nat.reduceLT, Nat.reduceLeDiff, Nat.reduceMod, Nat.reduceDiv, Int.reduceToNat, Int.reduceLT, Int.reduceLE, Bool.not_true, Bool.not_false, reduceIte, nilT, ne10]
      exact finL_ret [] ⟨rfl, rfl, rfl, rfl, _, rfl, res_mk (by simp only [docSearch, hok, hD]; rfl)⟩
end Go.Proofs.Yticdacdflemoiaa

/- The document's Clash. -/
namespace Go.Proofs.Yticdacdflemoiaa
open Go Go.Ab

def clashS (t : Tw) (p q : Nat × Nat) : Nat × Nat := if decide (((size q.1 + size q.2 : Nat) : Int) < ((size p.1 + size p.2 : Nat) : Int)) && (((docT t q.1 q.2).length : Int) == 0) then q else p
def clashIn (t : Tw) (x : Nat) (p : Nat × Nat) : Nat → Nat × Nat
  | 0 => p
  | k + 1 => clashS t (clashIn t x p k) (x, k)
def clashOut (t : Tw) (b : Nat) (p : Nat × Nat) : Nat → Nat × Nat
  | 0 => p
  | k + 1 => clashIn t k (clashOut t b p k) b
def clashD (t : Tw) : Nat × Nat := clashOut t (2 ^ t.vs.length) (2 ^ t.hs.length - 1, 2 ^ t.vs.length - 1) (2 ^ t.hs.length)
def docClash (t : Tw) : Int × Int × Int :=
  if t.ok then (if (docA t).isEmpty then (((clashD t).1 : Nat), ((clashD t).2 : Nat), 0) else (0, 0, 4)) else (0, 0, 1)

theorem size_le : ∀ m < 64, size m ≤ 6 := by decide +kernel

theorem clashS_lt {t : Tw} {p q : Nat × Nat} (hp : p.1 < 8 ∧ p.2 < 8) (hq : q.1 < 8 ∧ q.2 < 8) : (clashS t p q).1 < 8 ∧ (clashS t p q).2 < 8 := by
  unfold clashS
  split
  · exact hq
  · exact hp

set_option maxRecDepth 4000 in
set_option maxHeartbeats 1000000 in
theorem rClash_ok (t : Tw) : ACall Try.prog 30 [.t (.agg (tw3 t))] [] (res (twoE (docClash t).1 (docClash t).2.1 (docClash t).2.2)) := by
  refine ACall.walk k30 ?_
  unfold c30 tw3
  simp only [go_sem, Nat.reduceEqDiff, Nat.reduceAdd, Nat.reduceSub, Nat.reduceMul, Nat.reduceLT, Nat.reduceLeDiff, Nat.reduceMod, Nat.reduceDiv, Int.reduceToNat, Int.reduceLT, Int.reduceLE, Bool.not_true, Bool.not_false, reduceIte]
  refine ACallL.quiet1 (rtowels_ok t) rfl rfl rfl ?_
  cases hok : t.ok
  · simp only [go_sem, Nat.reduceEqDiff, Nat.reduceAdd, Nat.reduceSub, Nat.reduceMul, Nat.reduceLT, Nat.reduceLeDiff, Nat.reduceMod, Nat.reduceDiv, Int.reduceToNat, Int.reduceLT, Int.reduceLE, Bool.not_true, Bool.not_false, reduceIte]
    exact finL_ret [] ⟨rfl, rfl, rfl, rfl, _, rfl, res_mk (by simp only [docClash, hok]; rfl)⟩
  · have ht := (Tw.ok_iff t).1 hok
    simp only [go_sem, Nat.reduceEqDiff, Nat.reduceAdd, Nat.reduceSub, Nat.reduceMul, Nat.reduceLT, Nat.reduceLeDiff, Nat.reduceMod, Nat.reduceDiv, Int.reduceToNat, Int.reduceLT, Int.reduceLE, Bool.not_true, Bool.not_false, reduceIte]
    refine ACallL.fresh1 (rTruths_ok t ht) rfl ?_
    have hd : docT t (2 ^ t.hs.length - 1) (2 ^ t.vs.length - 1) = docA t := rfl
    rw [hd]
    cases hD : (docA t).isEmpty
    · have hb : decide (((docA t).length : Int) > 0) = true := by
        have : docA t ≠ [] := by simpa using hD
        have := List.length_pos_iff.2 this
        simp; omega
      simp only [go_sem, Nat.reduceEqDiff, Nat.reduceAdd, Nat.reduceSub, Nat.reduceMul, Nat.reduceLT, Nat.reduceLeDiff, Nat.reduceMod, Nat.reduceDiv, Int.reduceToNat, Int.reduceLT, Int.reduceLE, Bool.not_true, Bool.not_false, reduceIte, List.length_map, hb]
      exact finL_ret [] ⟨rfl, rfl, rfl, rfl, _, rfl, res_mk (by simp only [docClash, hok, hD]; rfl)⟩
    · have hb : decide (((docA t).length : Int) > 0) = false := by
        have : docA t = [] := by simpa using hD
        simp [this]
      have hspec : docClash t = (((clashD t).1 : Int), ((clashD t).2 : Int), (0 : Int)) := by simp only [docClash, hok, hD]; rfl
      rw [hspec]
      clear hspec hd hD
      simp only [go_sem, Nat.reduceEqDiff, Nat.reduceAdd, Nat.reduceSub, Nat.reduceMul, Nat.reduceLT, Nat.reduceLeDiff, Nat.reduceMod, Nat.reduceDiv, Int.reduceToNat, Int.reduceLT, Int.reduceLE, Bool.not_true, Bool.not_false, reduceIte, List.length_map, hb]
      have h1 := ht.nh
      have h2 := ht.nv
      have q1 := Nat.two_pow_pos t.hs.length
      have q2 := Nat.two_pow_pos t.vs.length
      have p1 := pow_small h1
      have p2 := pow_small h2
      have hpw1 := power_ok t.hs.length (by omega)
      have hpw2 := power_ok t.vs.length (by omega)
      unfold clashD
      generalize 2 ^ t.hs.length = A at *
      generalize 2 ^ t.vs.length = Bv at *
      have e1 : IntKind.i64.wrap ((A : Int) - 1) = ((A - 1 : Nat) : Int) := by rw [wrap_id (by omega) (by omega)]; omega
      have e2 : IntKind.i64.wrap ((Bv : Int) - 1) = ((Bv - 1 : Nat) : Int) := by rw [wrap_id (by omega) (by omega)]; omega
      refine ACallL.quiet1 hpw1 rfl rfl rfl ?_
      simp only [go_sem, Nat.reduceEqDiff, Nat.reduceAdd, Nat.reduceSub, Nat.reduceMul, Nat.reduceLT, Nat.reduceLeDiff, Nat.reduceMod, Nat.reduceDiv, Int.reduceToNat, Int.reduceLT, Int.reduceLE, Bool.not_true, Bool.not_false, reduceIte, List.length_map, e1]
      refine ACallL.quiet1 hpw2 rfl rfl rfl ?_
      simp only [go_sem, Nat.reduceEqDiff, Nat.reduceAdd, Nat.reduceSub, Nat.reduceMul, Nat.reduceLT, Nat.reduceLeDiff, Nat.reduceMod, Nat.reduceDiv, Int.reduceToNat, Int.reduceLT, Int.reduceLE, Bool.not_true, Bool.not_false, reduceIte, List.length_map, e2]
      refine awpL_loopK A (fun k s => ((clashOut t Bv (A - 1, Bv - 1) k).1 < 8 ∧ (clashOut t Bv (A - 1, Bv - 1) k).2 < 8) ∧ s = { env := [(9, .t (vi k)), (7, .t (vi ((clashOut t Bv (A - 1, Bv - 1) k).1 : Nat))), (8, .t (vi ((clashOut t Bv (A - 1, Bv - 1) k).2 : Nat))), (5, .t (vi (A - 1 : Nat))), (6, .t (vi (Bv - 1 : Nat))), (1, .t (.ptr (.agg (tw3 t)) 0))], σ := [] })
          ⟨_, Sub.gc [] [9, 7, 8, 5, 6, 1] rfl rfl, ⟨p1, p2⟩, rfl⟩ ?_
      rintro k s hk ⟨hp, rfl⟩
      simp only [tw3, go_sem, Nat.reduceEqDiff, Nat.reduceAdd, Nat.reduceSub, Nat.reduceMul, Nat.reduceLT, Nat.reduceLeDiff, Nat.reduceMod, Nat.reduceDiv, Int.reduceToNat, Int.reduceLT, Int.reduceLE, Bool.not_true, Bool.not_false, reduceIte, List.length_map]
      refine BrL.mk (fun h => ?_) (fun h => ?_)
      · have hk : k < A := by have : (k : Int) ≤ (A - 1 : Nat) := by simpa using h
                              omega
        have hw : IntKind.i64.wrap ((k : Int) + 1) = ((k + 1 : Nat) : Int) := by rw [wrap_id (by omega) (by omega)]; omega
        have hsucc : clashOut t Bv (A - 1, Bv - 1) (k + 1) = clashIn t k (clashOut t Bv (A - 1, Bv - 1) k) Bv := rfl
        generalize clashOut t Bv (A - 1, Bv - 1) k = pp at *
        simp only [h, go_sem, Nat.reduceEqDiff, Nat.reduceAdd, Nat.reduceSub, Nat.reduceMul, Nat.reduceLT, Nat.reduceLeDiff, Nat.reduceMod, Nat.reduceDiv, Int.reduceToNat, Int.reduceLT, Int.reduceLE, Bool.not_true, Bool.not_false, reduceIte]
        refine awpL_loopK Bv (fun j s => ((clashIn t k pp j).1 < 8 ∧ (clashIn t k pp j).2 < 8) ∧ s = { env := [(10, .t (vi j)), (9, .t (vi k)), (7, .t (vi ((clashIn t k pp j).1 : Nat))), (8, .t (vi ((clashIn t k pp j).2 : Nat))), (5, .t (vi (A - 1 : Nat))), (6, .t (vi (Bv - 1 : Nat))), (1, .t (.ptr (.agg (tw3 t)) 0))], σ := [] })
          ⟨_, Sub.gc [] [10, 9, 7, 8, 5, 6, 1] rfl rfl, hp, rfl⟩ ?_
        clear h
        rintro j s hj ⟨hpj, rfl⟩
        simp only [tw3, go_sem, Nat.reduceEqDiff, Nat.reduceAdd, Nat.reduceSub, Nat.reduceMul, Nat.reduceLT, Nat.reduceLeDiff, Nat.reduceMod, Nat.reduceDiv, Int.reduceToNat, Int.reduceLT, Int.reduceLE, Bool.not_true, Bool.not_false, reduceIte, List.length_map]
        refine BrL.mk (fun h => ?_) (fun h => ?_)
        · have hj : j < Bv := by have : (j : Int) ≤ (Bv - 1 : Nat) := by simpa using h
                                 omega
          have hw : IntKind.i64.wrap ((j : Int) + 1) = ((j + 1 : Nat) : Int) := by rw [wrap_id (by omega) (by omega)]; omega
          have hsj : clashIn t k pp (j + 1) = clashS t (clashIn t k pp j) (k, j) := rfl
          have hlt := clashS_lt (t := t) hpj (q := (k, j)) ⟨by simp only; omega, by simp only; omega⟩
          rw [← hsj] at hlt
          generalize clashIn t k pp j = qq at *
          obtain ⟨a, b⟩ := qq
          simp only at hpj
          unfold clashS at hsj
          simp only at hsj
          have z1 := rsize_ok k (by omega)
          have z2 := rsize_ok j (by omega)
          have z3 := rsize_ok a (by omega)
          have z4 := rsize_ok b (by omega)
          have s1 := size_le k (by omega)
          have s2 := size_le j (by omega)
          have s3 := size_le a (by omega)
          have s4 := size_le b (by omega)
          have w1 : IntKind.i64.wrap ((size k : Int) + size j) = ((size k + size j : Nat) : Int) := by rw [wrap_id (by omega) (by omega)]; omega
          have w2 : IntKind.i64.wrap ((size a : Int) + size b) = ((size a + size b : Nat) : Int) := by rw [wrap_id (by omega) (by omega)]; omega
          have htr := rtruthsN_ok t ht k j (by omega) (by omega)
          simp only [h, go_sem, Nat.reduceEqDiff, Nat.reduceAdd, Nat.reduceSub, Nat.reduceMul, Nat.reduceLT, Nat.reduceLeDiff, Nat.reduceMod, Nat.reduceDiv, Int.reduceToNat, Int.reduceLT, Int.reduceLE, Bool.not_true, Bool.not_false, reduceIte]
          refine ACallL.quiet1 z1 rfl rfl rfl ?_
          simp only [go_sem, Nat.reduceEqDiff, Nat.reduceAdd, Nat.reduceSub, Nat.reduceMul, Nat.reduceLT, Nat.reduceLeDiff, Nat.reduceMod, Nat.reduceDiv, Int.reduceToNat, Int.reduceLT, Int.reduceLE, Bool.not_true, Bool.not_false, reduceIte]
          refine ACallL.quiet1 z2 rfl rfl rfl ?_
          simp only [go_sem, Nat.reduceEqDiff, Nat.reduceAdd, Nat.reduceSub, Nat.reduceMul, Nat.reduceLT, Nat.reduceLeDiff, Nat.reduceMod, Nat.reduceDiv, Int.reduceToNat, Int.reduceLT, Int.reduceLE, Bool.not_true, Bool.not_false, reduceIte]
          refine ACallL.quiet1 z3 rfl rfl rfl ?_
          simp only [go_sem, Nat.reduceEqDiff, Nat.reduceAdd, Nat.reduceSub, Nat.reduceMul, Nat.reduceLT, Nat.reduceLeDiff, Nat.reduceMod, Nat.reduceDiv, Int.reduceToNat, Int.reduceLT, Int.reduceLE, Bool.not_true, Bool.not_false, reduceIte]
          refine ACallL.quiet1 z4 rfl rfl rfl ?_
          cases hA : decide (((size k + size j : Nat) : Int) < ((size a + size b : Nat) : Int))
          · simp only [go_sem, Nat.reduceEqDiff, Nat.reduceAdd, Nat.reduceSub, Nat.reduceMul, Nat.reduceLT, Nat.reduceLeDiff, Nat.reduceMod, Nat.reduceDiv, Int.reduceToNat, Int.reduceLT, Int.reduceLE, Bool.not_true, Bool.not_false, reduceIte, w1, w2, hA, undef, hw]
            refine ⟨hj, _, Sub.gc [] [10, 9, 7, 8, 5, 6, 1] rfl rfl, hlt, ?_⟩
            rw [hsj, hA]; rfl
          · simp only [go_sem, Nat.reduceEqDiff, Nat.reduceAdd, Nat.reduceSub, Nat.reduceMul, Nat.reduceLT, Nat.reduceLeDiff, Nat.reduceMod, Nat.reduceDiv, Int.reduceToNat, Int.reduceLT, Int.reduceLE, Bool.not_true, Bool.not_false, reduceIte, w1, w2, hA, undef, hw]
            refine ACallL.fresh1 htr rfl ?_
            cases hB : (((docT t k j).length : Int) == 0)
            all_goals
              simp only [go_sem, Nat.reduceEqDiff, Nat.reduceAdd, Nat.reduceSub, Nat.reduceMul, Nat.reduceLT, Nat.reduceLeDiff, Nat.reduceMod, Nat.reduceDiv, Int.reduceToNat, Int.reduceLT, Int.reduceLE, Bool.not_true, Bool.not_false, reduceIte, List.length_map, hB, undef, hw]
              refine ⟨hj, _, Sub.gc [] [10, 9, 7, 8, 5, 6, 1] rfl rfl, hlt, ?_⟩
              rw [hsj, hA, hB]; rfl
        · have hj : j = Bv := by have : ¬ (j : Int) ≤ (Bv - 1 : Nat) := by simpa using h
                                 omega
          subst hj
          simp only [h, go_sem, Nat.reduceEqDiff, Nat.reduceAdd, Nat.reduceSub, Nat.reduceMul, Nat.reduceLT, Nat.reduceLeDiff, Nat.reduceMod, Nat.reduceDiv, Int.reduceToNat, Int.reduceLT, Int.reduceLE, Bool.not_true, Bool.not_false, reduceIte, hw]
          refine ⟨hk, _, Sub.gc [] [9, 7, 8, 5, 6, 1] rfl rfl, by rw [hsucc]; exact hpj, by rw [hsucc]; rfl⟩
      · have hk : k = A := by have : ¬ (k : Int) ≤ (A - 1 : Nat) := by simpa using h
                              omega
        subst hk
        simp only [h, go_sem, Nat.reduceEqDiff, Nat.reduceAdd, Nat.reduceSub, Nat.reduceMul, Nat.reduceLT, Nat.reduceLeDiff, Nat.reduceMod, Nat.reduceDiv, Int.reduceToNat, Int.reduceLT, Int.reduceLE, Bool.not_true, Bool.not_false, reduceIte]
        exact finL_ret [] ⟨rfl, rfl, rfl, rfl, _, rfl, res_mk rfl⟩
end Go.Proofs.Yticdacdflemoiaa
