/- Proved here: laws that the statement TowelReadsSaid needs (TwR7, TwR8, TwS2, TwU1). No conditions but those that each law states. -/
import Derived.Test.YticdacdflemoiaaTAO

set_option linter.unusedSimpArgs false
set_option linter.unusedVariables false

/- The document's All. -/
namespace Go.Proofs.Yticdacdflemoiaa
open Go Go.Ab

def docAll (t : Tw) : (Int × Int) × Int :=
  if t.ok then (if (docA t).isEmpty then ((0, 0), 10) else (hullD ((docA t).map fun l => l.sum), 0)) else ((0, 0), 1)

set_option maxRecDepth 4000 in
set_option maxHeartbeats 1000000 in
theorem rAll_ok (t : Tw) : ACall Try.prog 22 [.t (.agg (tw3 t))] [] (res (spanE (docAll t).1 (docAll t).2)) := by
  refine ACall.walk k22 ?_
  unfold c22 tw3
  simp only [go_sem, Nat.reduceEqDiff, Nat.reduceAdd, Nat.reduceSub, Nat.reduceMul, Nat.reduceLT, Nat.reduceLeDiff, Nat.reduceMod, Nat.reduceDiv, Int.reduceToNat, Int.reduceLT, Int.reduceLE, Bool.not_true, Bool.not_false, reduceIte]
  refine ACallL.fresh1 (rtold_ok t true) rfl ?_
  cases hok : t.ok
  · rw [toldO_no _ hok]
    simp only [go_sem, Nat.reduceEqDiff, Nat.reduceAdd, Nat.reduceSub, Nat.reduceMul, Nat.reduceLT, Nat.reduceLeDiff, Nat.reduceMod, Nat.reduceDiv, Int.reduceToNat, Int.reduceLT, Int.reduceLE, Bool.not_true, Bool.not_false, reduceIte, nilT, ne1]
    exact finL_ret [] ⟨rfl, rfl, rfl, rfl, _, rfl, res_mk (by simp only [docAll, hok]; rfl)⟩
  · have ht := (Tw.ok_iff t).1 hok
    have hnb := ht.nb
    cases hD : (docA t).isEmpty
    · have hpos : 0 < (docA t).length := by
        have : docA t ≠ [] := by simpa using hD
        exact List.length_pos_iff.2 this
      have hmem := fun l (h : l ∈ docA t) => docA_mem ht h
      have hmany : (docA t).length ≤ 15625 := docT_many ht _ _
      have hspec : docAll t = (hullD ((docA t).map fun l => l.sum), 0) := by simp only [docAll, hok, hD]; rfl
      rw [hspec, toldO_yes hok hD]
      generalize docA t = ds at *
      have hd0 : ds[0]? = some ds[0] := List.getElem?_eq_getElem hpos
      have hs0 := rsum_ok ds[0] (by have := (hmem _ (List.getElem_mem hpos)).1; omega) (hmem _ (List.getElem_mem hpos)).2
      have hhead : (ds.map fun l => l.sum).headD 0 = ds[0].sum := by
        cases ds with
        | nil => simp at hpos
        | cons l ls => rfl
      generalize ds[0] = d0 at *
      simp only [go_sem, Nat.reduceEqDiff, Nat.reduceAdd, Nat.reduceSub, Nat.reduceMul, Nat.reduceLT, Nat.reduceLeDiff, Nat.reduceMod, Nat.reduceDiv, Int.reduceToNat, Int.reduceLT, Int.reduceLE, Bool.not_true, Bool.not_false, reduceIte, ne0, List.getElem?_map, List.length_map, hd0, tL]
      obtain ⟨lo, hlo⟩ : ∃ lo : Nat → Int, ∀ k, lo k = ((ds.map fun l => l.sum).take k).foldl min d0.sum := ⟨_, fun _ => rfl⟩
      obtain ⟨hi, hhi⟩ : ∃ hi : Nat → Int, ∀ k, hi k = ((ds.map fun l => l.sum).take k).foldl max d0.sum := ⟨_, fun _ => rfl⟩
      have hlo0 : lo 0 = d0.sum := hlo 0
      have hhi0 : hi 0 = d0.sum := hhi 0
      refine AndL.mk ?_ ?_
      · simp only [go_sem, Nat.reduceEqDiff, Nat.reduceAdd, Nat.reduceSub, Nat.reduceMul, Nat.reduceLT, Nat.reduceLeDiff, Nat.reduceMod, Nat.reduceDiv, Int.reduceToNat, Int.reduceLT, Int.reduceLE, Bool.not_true, Bool.not_false, reduceIte, hd0, tL, List.getElem?_map]
        refine ACallL.quiet1 hs0 rfl rfl rfl ?_
        simp only [go_sem, Nat.reduceEqDiff, Nat.reduceAdd, Nat.reduceSub, Nat.reduceMul, Nat.reduceLT, Nat.reduceLeDiff, Nat.reduceMod, Nat.reduceDiv, Int.reduceToNat, Int.reduceLT, Int.reduceLE, Bool.not_true, Bool.not_false, reduceIte, hd0, tL, List.getElem?_map]
        refine AndL.mk ?_ ?_
        · simp only [go_sem, Nat.reduceEqDiff, Nat.reduceAdd, Nat.reduceSub, Nat.reduceMul, Nat.reduceLT, Nat.reduceLeDiff, Nat.reduceMod, Nat.reduceDiv, Int.reduceToNat, Int.reduceLT, Int.reduceLE, Bool.not_true, Bool.not_false, reduceIte, hd0, tL, List.getElem?_map]
          refine ACallL.quiet1 hs0 rfl rfl rfl ?_
          simp only [go_sem, Nat.reduceEqDiff, Nat.reduceAdd, Nat.reduceSub, Nat.reduceMul, Nat.reduceLT, Nat.reduceLeDiff, Nat.reduceMod, Nat.reduceDiv, Int.reduceToNat, Int.reduceLT, Int.reduceLE, Bool.not_true, Bool.not_false, reduceIte, hd0, tL, List.getElem?_map]
          refine awpL_loopK ds.length (fun k s => s = { env := [(7, .t (vi k)), (6, .ptr 1 0), (4, .t (.slice 1 (ds.map tL))), (2, .ptr 0 0)], σ := [.cells [.t (vi 0), .t (vi 0)], .cells [.t (vi (lo k)), .t (vi (hi k))]] })
            ⟨_, Sub.gc [1, 2] [7, 6, 4, 2] rfl rfl, by rw [hlo0, hhi0]; rfl⟩ ?_
          rintro k s hk rfl
          simp only [go_sem, Nat.reduceEqDiff, Nat.reduceAdd, Nat.reduceSub, Nat.reduceMul, Nat.reduceLT, Nat.reduceLeDiff, Nat.reduceMod, Nat.reduceDiv, Int.reduceToNat, Int.reduceLT, Int.reduceLE, Bool.not_true, Bool.not_false, reduceIte, List.length_map]
          refine BrL.mk (fun h => ?_) (fun h => ?_)
          · have hk : k < ds.length := by simpa using h
            have hdk : ds[k]? = some ds[k] := List.getElem?_eq_getElem hk
            have hlen := (hmem _ (List.getElem_mem hk)).1
            have hsk := rsum_ok ds[k] (by omega) (hmem _ (List.getElem_mem hk)).2
            have hcol : (ds.map fun l => l.sum)[k]? = some ds[k].sum := by rw [List.getElem?_map, hdk]; rfl
            have hlo1 : lo (k + 1) = min (lo k) ds[k].sum := by rw [hlo, hlo, foldl_take _ _ _ _ _ hcol]
            have hhi1 : hi (k + 1) = max (hi k) ds[k].sum := by rw [hhi, hhi, foldl_take _ _ _ _ _ hcol]
            have hw : IntKind.i64.wrap ((k : Int) + 1) = ((k + 1 : Nat) : Int) := by rw [wrap_id (by omega) (by omega)]; omega
            generalize ds[k] = dk at *
            simp only [h, go_sem, Nat.reduceEqDiff, Nat.reduceAdd, Nat.reduceSub, Nat.reduceMul, Nat.reduceLT, Nat.reduceLeDiff, Nat.reduceMod, Nat.reduceDiv, Int.reduceToNat, Int.reduceLT, Int.reduceLE, Bool.not_true, Bool.not_false, reduceIte, List.getElem?_map, hdk, tL]
            refine ACallL.quiet1 hsk rfl rfl rfl ?_
            simp only [h, go_sem, Nat.reduceEqDiff, Nat.reduceAdd, Nat.reduceSub, Nat.reduceMul, Nat.reduceLT, Nat.reduceLeDiff, Nat.reduceMod, Nat.reduceDiv, Int.reduceToNat, Int.reduceLT, Int.reduceLE, Bool.not_true, Bool.not_false, reduceIte, List.getElem?_map, hdk, tL]
            refine ACallL.quiet1 hsk rfl rfl rfl ?_
            simp only [h, go_sem, Nat.reduceEqDiff, Nat.reduceAdd, Nat.reduceSub, Nat.reduceMul, Nat.reduceLT, Nat.reduceLeDiff, Nat.reduceMod, Nat.reduceDiv, Int.reduceToNat, Int.reduceLT, Int.reduceLE, Bool.not_true, Bool.not_false, reduceIte, List.getElem?_map, hdk, tL, hw]
            refine ⟨hk, _, Sub.gc [0, 1] [7, 6, 4, 2] rfl rfl, ?_⟩
            rw [hlo1, hhi1]
            rfl
          · have hk : k = ds.length := by have : ¬ (k : Int) < ds.length := by simpa using h
                                          omega
            subst hk
            have e1 : lo ds.length = (hullD (ds.map fun l => l.sum)).1 := by
              rw [hlo, List.take_of_length_le (by simp)]; simp only [hullD, hhead]
            have e2 : hi ds.length = (hullD (ds.map fun l => l.sum)).2 := by
              rw [hhi, List.take_of_length_le (by simp)]; simp only [hullD, hhead]
            rw [e1, e2]
            simp only [h, go_sem, Nat.reduceEqDiff, Nat.reduceAdd, Nat.reduceSub, Nat.reduceMul, Nat.reduceLT, Nat.reduceLeDiff, Nat.reduceMod, Nat.reduceDiv, Int.reduceToNat, Int.reduceLT, Int.reduceLE, Bool.not_true, Bool.not_false, reduceIte]
            exact finL_ret [] ⟨rfl, rfl, rfl, rfl, _, rfl, res_mk rfl⟩
        · simp only [go_sem, Nat.reduceEqDiff, Nat.reduceAdd, Nat.reduceSub, Nat.reduceMul, Nat.reduceLT, Nat.reduceLeDiff, Nat.reduceMod, Nat.reduceDiv, Int.reduceToNat, Int.reduceLT, Int.reduceLE, Bool.not_true, Bool.not_false, reduceIte, hd0, tL, List.getElem?_map]
          refine ACallL.quiet1 hs0 rfl rfl rfl ?_
          simp only [go_sem, Nat.reduceEqDiff, Nat.reduceAdd, Nat.reduceSub, Nat.reduceMul, Nat.reduceLT, Nat.reduceLeDiff, Nat.reduceMod, Nat.reduceDiv, Int.reduceToNat, Int.reduceLT, Int.reduceLE, Bool.not_true, Bool.not_false, reduceIte, hd0, tL, List.getElem?_map]
          refine awpL_loopK ds.length (fun k s => s = { env := [(7, .t (vi k)), (6, .ptr 1 0), (4, .t (.slice 1 (ds.map tL))), (2, .ptr 0 0)], σ := [.cells [.t (vi 0), .t (vi 0)], .cells [.t (vi (lo k)), .t (vi (hi k))]] })
            ⟨_, Sub.gc [1, 2] [7, 6, 4, 2] rfl rfl, by rw [hlo0, hhi0]; rfl⟩ ?_
          rintro k s hk rfl
          simp only [go_sem, Nat.reduceEqDiff, Nat.reduceAdd, Nat.reduceSub, Nat.reduceMul, Nat.reduceLT, Nat.reduceLeDiff, Nat.reduceMod, Nat.reduceDiv, Int.reduceToNat, Int.reduceLT, Int.reduceLE, Bool.not_true, Bool.not_false, reduceIte, List.length_map]
          refine BrL.mk (fun h => ?_) (fun h => ?_)
          · have hk : k < ds.length := by simpa using h
            have hdk : ds[k]? = some ds[k] := List.getElem?_eq_getElem hk
            have hlen := (hmem _ (List.getElem_mem hk)).1
            have hsk := rsum_ok ds[k] (by omega) (hmem _ (List.getElem_mem hk)).2
            have hcol : (ds.map fun l => l.sum)[k]? = some ds[k].sum := by rw [List.getElem?_map, hdk]; rfl
            have hlo1 : lo (k + 1) = min (lo k) ds[k].sum := by rw [hlo, hlo, foldl_take _ _ _ _ _ hcol]
            have hhi1 : hi (k + 1) = max (hi k) ds[k].sum := by rw [hhi, hhi, foldl_take _ _ _ _ _ hcol]
            have hw : IntKind.i64.wrap ((k : Int) + 1) = ((k + 1 : Nat) : Int) := by rw [wrap_id (by omega) (by omega)]; omega
            generalize ds[k] = dk at *
            simp only [h, go_sem, Nat.reduceEqDiff, Nat.reduceAdd, Nat.reduceSub, Nat.reduceMul, Nat.reduceLT, Nat.reduceLeDiff, Nat.reduceMod, Nat.reduceDiv, Int.reduceToNat, Int.reduceLT, Int.reduceLE, Bool.not_true, Bool.not_false, reduceIte, List.getElem?_map, hdk, tL]
            refine ACallL.quiet1 hsk rfl rfl rfl ?_
            simp only [h, go_sem, Nat.reduceEqDiff, Nat.reduceAdd, Nat.reduceSub, Nat.reduceMul, Nat.reduceLT, Nat.reduceLeDiff, Nat.reduceMod, Nat.reduceDiv, Int.reduceToNat, Int.reduceLT, Int.reduceLE, Bool.not_true, Bool.not_false, reduceIte, List.getElem?_map, hdk, tL]
            refine ACallL.quiet1 hsk rfl rfl rfl ?_
            simp only [h, go_sem, Nat.reduceEqDiff, Nat.reduceAdd, Nat.reduceSub, Nat.reduceMul, Nat.reduceLT, Nat.reduceLeDiff, Nat.reduceMod, Nat.reduceDiv, Int.reduceToNat, Int.reduceLT, Int.reduceLE, Bool.not_true, Bool.not_false, reduceIte, List.getElem?_map, hdk, tL, hw]
            refine ⟨hk, _, Sub.gc [0, 1] [7, 6, 4, 2] rfl rfl, ?_⟩
            rw [hlo1, hhi1]
            rfl
          · have hk : k = ds.length := by have : ¬ (k : Int) < ds.length := by simpa using h
                                          omega
            subst hk
            have e1 : lo ds.length = (hullD (ds.map fun l => l.sum)).1 := by
              rw [hlo, List.take_of_length_le (by simp)]; simp only [hullD, hhead]
            have e2 : hi ds.length = (hullD (ds.map fun l => l.sum)).2 := by
              rw [hhi, List.take_of_length_le (by simp)]; simp only [hullD, hhead]
            rw [e1, e2]
            simp only [h, go_sem, Nat.reduceEqDiff, Nat.reduceAdd, Nat.reduceSub, Nat.reduceMul, Nat.reduceLT, Nat.reduceLeDiff, Nat.reduceMod, Nat.reduceDiv, Int.reduceToNat, Int.reduceLT, Int.reduceLE, Bool.not_true, Bool.not_false, reduceIte]
            exact finL_ret [] ⟨rfl, rfl, rfl, rfl, _, rfl, res_mk rfl⟩
      · simp only [go_sem, Nat.reduceEqDiff, Nat.reduceAdd, Nat.reduceSub, Nat.reduceMul, Nat.reduceLT, Nat.reduceLeDiff, Nat.reduceMod, Nat.reduceDiv, Int.reduceToNat, Int.reduceLT, Int.reduceLE, Bool.not_true, Bool.not_false, reduceIte, hd0, tL, List.getElem?_map]
        refine ACallL.quiet1 hs0 rfl rfl rfl ?_
        simp only [go_sem, Nat.reduceEqDiff, Nat.reduceAdd, Nat.reduceSub, Nat.reduceMul, Nat.reduceLT, Nat.reduceLeDiff, Nat.reduceMod, Nat.reduceDiv, Int.reduceToNat, Int.reduceLT, Int.reduceLE, Bool.not_true, Bool.not_false, reduceIte, hd0, tL, List.getElem?_map]
        refine ACallL.quiet1 hs0 rfl rfl rfl ?_
        simp only [go_sem, Nat.reduceEqDiff, Nat.reduceAdd, Nat.reduceSub, Nat.reduceMul, Nat.reduceLT, Nat.reduceLeDiff, Nat.reduceMod, Nat.reduceDiv, Int.reduceToNat, Int.reduceLT, Int.reduceLE, Bool.not_true, Bool.not_false, reduceIte, hd0, tL, List.getElem?_map]
        refine awpL_loopK ds.length (fun k s => s = { env := [(7, .t (vi k)), (6, .ptr 1 0), (4, .t (.slice 1 (ds.map tL))), (2, .ptr 0 0)], σ := [.cells [.t (vi 0), .t (vi 0)], .cells [.t (vi (lo k)), .t (vi (hi k))]] })
          ⟨_, Sub.gc [1, 2] [7, 6, 4, 2] rfl rfl, by rw [hlo0, hhi0]; rfl⟩ ?_
        rintro k s hk rfl
        simp only [go_sem, Nat.reduceEqDiff, Nat.reduceAdd, Nat.reduceSub, Nat.reduceMul, Nat.reduceLT, Nat.reduceLeDiff, Nat.reduceMod, Nat.reduceDiv, Int.reduceToNat, Int.reduceLT, Int.reduceLE, Bool.not_true, Bool.not_false, reduceIte, List.length_map]
        refine BrL.mk (fun h => ?_) (fun h => ?_)
        · have hk : k < ds.length := by simpa using h
          have hdk : ds[k]? = some ds[k] := List.getElem?_eq_getElem hk
          have hlen := (hmem _ (List.getElem_mem hk)).1
          have hsk := rsum_ok ds[k] (by omega) (hmem _ (List.getElem_mem hk)).2
          have hcol : (ds.map fun l => l.sum)[k]? = some ds[k].sum := by rw [List.getElem?_map, hdk]; rfl
          have hlo1 : lo (k + 1) = min (lo k) ds[k].sum := by rw [hlo, hlo, foldl_take _ _ _ _ _ hcol]
          have hhi1 : hi (k + 1) = max (hi k) ds[k].sum := by rw [hhi, hhi, foldl_take _ _ _ _ _ hcol]
          have hw : IntKind.i64.wrap ((k : Int) + 1) = ((k + 1 : Nat) : Int) := by rw [wrap_id (by omega) (by omega)]; omega
          generalize ds[k] = dk at *
          simp only [h, go_sem, Nat.reduceEqDiff, Nat.reduceAdd, Nat.reduceSub, Nat.reduceMul, Nat.reduceLT, Nat.reduceLeDiff, Nat.reduceMod, Nat.reduceDiv, Int.reduceToNat, Int.reduceLT, Int.reduceLE, Bool.not_true, Bool.not_false, reduceIte, List.getElem?_map, hdk, tL]
          refine ACallL.quiet1 hsk rfl rfl rfl ?_
          simp only [h, go_sem, Nat.reduceEqDiff, Nat.reduceAdd, Nat.reduceSub, Nat.reduceMul, Nat.reduceLT, Nat.reduceLeDiff, Nat.reduceMod, Nat.reduceDiv, Int.reduceToNat, Int.reduceLT, Int.reduceLE, Bool.not_true, Bool.not_false, reduceIte, List.getElem?_map, hdk, tL]
          refine ACallL.quiet1 hsk rfl rfl rfl ?_
          simp only [h, go_sem, Nat.reduceEqDiff, Nat.reduceAdd, Nat.reduceSub, Nat.reduceMul, Nat.reduceLT, Nat.reduceLeDiff, Nat.reduceMod, Nat.reduceDiv, Int.reduceToNat, Int.reduceLT, Int.reduceLE, Bool.not_true, Bool.not_false, reduceIte, List.getElem?_map, hdk, tL, hw]
          refine ⟨hk, _, Sub.gc [0, 1] [7, 6, 4, 2] rfl rfl, ?_⟩
          rw [hlo1, hhi1]
          rfl
        · have hk : k = ds.length := by have : ¬ (k : Int) < ds.length := by simpa using h
                                        omega
          subst hk
          have e1 : lo ds.length = (hullD (ds.map fun l => l.sum)).1 := by
            rw [hlo, List.take_of_length_le (by simp)]; simp only [hullD, hhead]
          have e2 : hi ds.length = (hullD (ds.map fun l => l.sum)).2 := by
            rw [hhi, List.take_of_length_le (by simp)]; simp only [hullD, hhead]
          rw [e1, e2]
          simp only [h, go_sem, Nat.reduceEqDiff, Nat.reduceAdd, Nat.reduceSub, Nat.reduceMul, Nat.reduceLT, Nat.reduceLeDiff, Nat.reduceMod, Nat.reduceDiv, Int.reduceToNat, Int.reduceLT, Int.reduceLE, Bool.not_true, Bool.not_false, reduceIte]
          exact finL_ret [] ⟨rfl, rfl, rfl, rfl, _, rfl, res_mk rfl⟩
    · rw [toldO_clash hok hD]
      simp only [go_sem, Nat.reduceEqDiff, Nat.reduceAdd, Nat.reduceSub, Nat.reduceMul, Nat.reduceLT, Nat.reduceLeDiff, Nat.reduceMod, Nat.reduceDiv, Int.reduceToNat, Int.reduceLT, Int.reduceLE, Bool.not_true, Bool.not_false, reduceIte, nilT, ne10]
      exact finL_ret [] ⟨rfl, rfl, rfl, rfl, _, rfl, res_mk (by simp only [docAll, hok, hD]; rfl)⟩
end Go.Proofs.Yticdacdflemoiaa

/- The document's Who. -/
namespace Go.Proofs.Yticdacdflemoiaa
open Go Go.Ab

def docWho (t : Tw) : Int × Int × Int :=
  if t.ok then (if (docA t).isEmpty then (0, 0, 10) else ((maskOf (fun i => (docA t).all fun l => decide (l.getD i 0 > 0)) t.bs.length : Nat), (maskOf (fun i => (docA t).any fun l => decide (l.getD i 0 > 0)) t.bs.length : Nat), 0)) else (0, 0, 1)

theorem or_add {m k : Nat} (h : m < 2 ^ k) : m ||| 2 ^ k = m + 2 ^ k := by
  have := Nat.two_pow_add_eq_or_of_lt h 1
  rw [Nat.mul_one] at this
  rw [Nat.or_comm, ← this, Nat.add_comm]

theorem countP_take {α : Type} (p : α → Bool) (l : List α) (k : Nat) (x : α) (h : l[k]? = some x) : (l.take (k + 1)).countP p = (l.take k).countP p + if p x then 1 else 0 := by
  obtain ⟨hk, rfl⟩ := List.getElem?_eq_some_iff.1 h
  rw [List.take_succ_eq_append_getElem hk, List.countP_append]
  simp [List.countP_cons]

theorem countP_take_le {α : Type} (p : α → Bool) (l : List α) (k : Nat) : (l.take k).countP p ≤ l.length := by
  have h1 := List.countP_le_length (p := p) (l := l.take k)
  have h2 := List.length_take_le' k l
  omega

set_option maxRecDepth 4000 in
set_option maxHeartbeats 1000000 in
theorem rWho_ok (t : Tw) : ACall Try.prog 20 [.t (.agg (tw3 t))] [] (res (twoE (docWho t).1 (docWho t).2.1 (docWho t).2.2)) := by
  refine ACall.walk k20 ?_
  unfold c20 tw3
  simp only [go_sem, Nat.reduceEqDiff, Nat.reduceAdd, Nat.reduceSub, Nat.reduceMul, Nat.reduceLT, Nat.reduceLeDiff, Nat.reduceMod, Nat.reduceDiv, Int.reduceToNat, Int.reduceLT, Int.reduceLE, Bool.not_true, Bool.not_false, reduceIte]
  refine ACallL.fresh1 (rtold_ok t true) rfl ?_
  cases hok : t.ok
  · rw [toldO_no _ hok]
    simp only [go_sem, Nat.reduceEqDiff, Nat.reduceAdd, Nat.reduceSub, Nat.reduceMul, Nat.reduceLT, Nat.reduceLeDiff, Nat.reduceMod, Nat.reduceDiv, Int.reduceToNat, Int.reduceLT, Int.reduceLE, Bool.not_true, Bool.not_false, reduceIte, nilT, ne1]
    exact finL_ret [] ⟨rfl, rfl, rfl, rfl, _, rfl, res_mk (by simp only [docWho, hok]; rfl)⟩
  · have ht := (Tw.ok_iff t).1 hok
    have hnb := ht.nb
    cases hD : (docA t).isEmpty
    · have hpos : 0 < (docA t).length := by
        have : docA t ≠ [] := by simpa using hD
        exact List.length_pos_iff.2 this
      have hmem := fun l (h : l ∈ docA t) => docA_mem ht h
      have hmany : (docA t).length ≤ 15625 := docT_many ht _ _
      have hspec : docWho t = (((maskOf (fun i => (docA t).all fun l => decide (l.getD i 0 > 0)) t.bs.length : Nat) : Int), ((maskOf (fun i => (docA t).any fun l => decide (l.getD i 0 > 0)) t.bs.length : Nat) : Int), (0 : Int)) := by simp only [docWho, hok, hD]; rfl
      rw [hspec, toldO_yes hok hD]
      generalize docA t = ds at *
      simp only [go_sem, Nat.reduceEqDiff, Nat.reduceAdd, Nat.reduceSub, Nat.reduceMul, Nat.reduceLT, Nat.reduceLeDiff, Nat.reduceMod, Nat.reduceDiv, Int.reduceToNat, Int.reduceLT, Int.reduceLE, Bool.not_true, Bool.not_false, reduceIte, ne0, List.getElem?_map, List.length_map, tL]
      obtain ⟨m1, hm1⟩ : ∃ m1 : Nat → Nat, ∀ k, m1 k = maskOf (fun i => ds.all fun l => decide (l.getD i 0 > 0)) k := ⟨_, fun _ => rfl⟩
      obtain ⟨m2, hm2⟩ : ∃ m2 : Nat → Nat, ∀ k, m2 k = maskOf (fun i => ds.any fun l => decide (l.getD i 0 > 0)) k := ⟨_, fun _ => rfl⟩
      have hm10 : m1 0 = 0 := hm1 0
      have hm20 : m2 0 = 0 := hm2 0
      rw [← hm1, ← hm2]
      refine awpL_loopK t.bs.length (fun k s => s = { env := [(9, .t (vi k)), (7, .t (vi (m1 k))), (8, .t (vi (m2 k))), (5, .t (.slice 1 (ds.map tL))), (1, .t (.ptr (.agg (tw3 t)) 0))], σ := [] })
          ⟨_, Sub.gc [] [9, 7, 8, 5, 1] rfl rfl, by rw [hm10, hm20]; rfl⟩ ?_
      rintro k s hk rfl
      simp only [tw3, go_sem, Nat.reduceEqDiff, Nat.reduceAdd, Nat.reduceSub, Nat.reduceMul, Nat.reduceLT, Nat.reduceLeDiff, Nat.reduceMod, Nat.reduceDiv, Int.reduceToNat, Int.reduceLT, Int.reduceLE, Bool.not_true, Bool.not_false, reduceIte, List.length_map]
      refine BrL.mk (fun h => ?_) (fun h => ?_)
      · have hk : k < t.bs.length := by simpa using h
        have hw : IntKind.i64.wrap ((k : Int) + 1) = ((k + 1 : Nat) : Int) := by rw [wrap_id (by omega) (by omega)]; omega
        simp only [h, go_sem, Nat.reduceEqDiff, Nat.reduceAdd, Nat.reduceSub, Nat.reduceMul, Nat.reduceLT, Nat.reduceLeDiff, Nat.reduceMod, Nat.reduceDiv, Int.reduceToNat, Int.reduceLT, Int.reduceLE, Bool.not_true, Bool.not_false, reduceIte]
        obtain ⟨cn, hcn⟩ : ∃ cn : Nat → Nat, ∀ j, cn j = (ds.take j).countP fun l => decide (l.getD k 0 > 0) := ⟨_, fun _ => rfl⟩
        have hcn0 : cn 0 = 0 := hcn 0
        refine awpL_loopK ds.length (fun j s => s = { env := [(11, .t (vi j)), (10, .t (vi (cn j))), (9, .t (vi k)), (7, .t (vi (m1 k))), (8, .t (vi (m2 k))), (5, .t (.slice 1 (ds.map tL))), (1, .t (.ptr (.agg (tw3 t)) 0))], σ := [] })
          ⟨_, Sub.gc [] [11, 10, 9, 7, 8, 5, 1] rfl rfl, by rw [hcn0]; rfl⟩ ?_
        clear h
        rintro j s hj rfl
        simp only [tw3, go_sem, Nat.reduceEqDiff, Nat.reduceAdd, Nat.reduceSub, Nat.reduceMul, Nat.reduceLT, Nat.reduceLeDiff, Nat.reduceMod, Nat.reduceDiv, Int.reduceToNat, Int.reduceLT, Int.reduceLE, Bool.not_true, Bool.not_false, reduceIte, List.length_map]
        refine BrL.mk (fun h => ?_) (fun h => ?_)
        · have hj : j < ds.length := by simpa using h
          have hdj : ds[j]? = some ds[j] := List.getElem?_eq_getElem hj
          have hlen := (hmem _ (List.getElem_mem hj)).1
          have hxj : (ds[j])[k]? = some (ds[j].getD k 0) := by
            rw [List.getD_eq_getElem?_getD, List.getElem?_eq_getElem (by omega : k < ds[j].length)]; rfl
          have hc1 : cn (j + 1) = cn j + if decide (ds[j].getD k 0 > 0) then 1 else 0 := by rw [hcn, hcn, countP_take _ _ _ _ hdj]
          have hcl : cn j ≤ ds.length := by rw [hcn]; exact countP_take_le _ _ _
          have hw : IntKind.i64.wrap ((j : Int) + 1) = ((j + 1 : Nat) : Int) := by rw [wrap_id (by omega) (by omega)]; omega
          have hwc : IntKind.i64.wrap ((cn j : Int) + 1) = ((cn j + 1 : Nat) : Int) := by rw [wrap_id (by omega) (by omega)]; omega
          generalize ds[j] = dj at *
          simp only [h, go_sem, Nat.reduceEqDiff, Nat.reduceAdd, Nat.reduceSub, Nat.reduceMul, Nat.reduceLT, Nat.reduceLeDiff, Nat.reduceMod, Nat.reduceDiv, Int.reduceToNat, Int.reduceLT, Int.reduceLE, Bool.not_true, Bool.not_false, reduceIte, List.getElem?_map, hdj, tL, hxj]
          refine BrL.mk (fun h1 => ?_) (fun h1 => ?_)
          all_goals
            simp only [go_sem, Nat.reduceEqDiff, Nat.reduceAdd, Nat.reduceSub, Nat.reduceMul, Nat.reduceLT, Nat.reduceLeDiff, Nat.reduceMod, Nat.reduceDiv, Int.reduceToNat, Int.reduceLT, Int.reduceLE, Bool.not_true, Bool.not_false, reduceIte, hw, hwc]
            refine ⟨hj, _, Sub.gc [] [11, 10, 9, 7, 8, 5, 1] rfl rfl, ?_⟩
            rw [hc1, h1]
            rfl
        · have hj : j = ds.length := by have : ¬ (j : Int) < ds.length := by simpa using h
                                        omega
          subst hj
          have hcl : cn ds.length = ds.countP fun l => decide (l.getD k 0 > 0) := by rw [hcn, List.take_length]
          have hall : ((cn ds.length : Int) == (ds.length : Int)) = ds.all fun l => decide (l.getD k 0 > 0) := by
            rw [hcl, Bool.eq_iff_iff, beq_iff_eq, Int.ofNat_inj, List.countP_eq_length, List.all_eq_true]
          have hany : decide ((cn ds.length : Int) > 0) = ds.any fun l => decide (l.getD k 0 > 0) := by
            rw [hcl, Bool.eq_iff_iff, decide_eq_true_iff, List.any_eq_true]
            rw [show ((ds.countP fun l => decide (l.getD k 0 > 0) : Nat) : Int) > 0 ↔ 0 < ds.countP fun l => decide (l.getD k 0 > 0) by omega, List.countP_pos_iff]
          have hs1 : m1 (k + 1) = if (ds.all fun l => decide (l.getD k 0 > 0)) then m1 k + 2 ^ k else m1 k := by
            rw [hm1, hm1, ← or_add (maskOf_lt _ k)]; rfl
          have hs2 : m2 (k + 1) = if (ds.any fun l => decide (l.getD k 0 > 0)) then m2 k + 2 ^ k else m2 k := by
            rw [hm2, hm2, ← or_add (maskOf_lt _ k)]; rfl
          have hb1 : m1 k < 2 ^ k := by rw [hm1]; exact maskOf_lt _ k
          have hb2 : m2 k < 2 ^ k := by rw [hm2]; exact maskOf_lt _ k
          have hp : 2 ^ k ≤ 64 := Nat.le_trans (Nat.pow_le_pow_right (by omega) (show k ≤ 6 by omega)) (by decide)
          have hpw := power_ok k (by omega)
          generalize 2 ^ k = P at *
          generalize m1 k = x1 at *
          generalize m2 k = x2 at *
          have hw1 : IntKind.i64.wrap ((x1 : Int) + P) = ((x1 + P : Nat) : Int) := by rw [wrap_id (by omega) (by omega)]; omega
          have hw2 : IntKind.i64.wrap ((x2 : Int) + P) = ((x2 + P : Nat) : Int) := by rw [wrap_id (by omega) (by omega)]; omega
          generalize (ds.all fun l => decide (l.getD k 0 > 0)) = A at *
          generalize (ds.any fun l => decide (l.getD k 0 > 0)) = Y at *
          have hk1 : k < t.bs.length := hk
          cases A <;> cases Y
          · simp only [h, go_sem, Nat.reduceEqDiff, Nat.reduceAdd, Nat.reduceSub, Nat.reduceMul, Nat.reduceLT, Nat.reduceLeDiff, Nat.reduceMod, Nat.reduceDiv, Int.reduceToNat, Int.reduceLT, Int.reduceLE, Bool.not_true, Bool.not_false, reduceIte, List.length_map, hall, hany, hw]
            refine ⟨hk1, _, Sub.gc [] [9, 7, 8, 5, 1] rfl rfl, ?_⟩
            rw [hs1, hs2]; rfl
          · simp only [h, go_sem, Nat.reduceEqDiff, Nat.reduceAdd, Nat.reduceSub, Nat.reduceMul, Nat.reduceLT, Nat.reduceLeDiff, Nat.reduceMod, Nat.reduceDiv, Int.reduceToNat, Int.reduceLT, Int.reduceLE, Bool.not_true, Bool.not_false, reduceIte, List.length_map, hall, hany]
            refine ACallL.quiet1 hpw rfl rfl rfl ?_
            simp only [go_sem, Nat.reduceEqDiff, Nat.reduceAdd, Nat.reduceSub, Nat.reduceMul, Nat.reduceLT, Nat.reduceLeDiff, Nat.reduceMod, Nat.reduceDiv, Int.reduceToNat, Int.reduceLT, Int.reduceLE, Bool.not_true, Bool.not_false, reduceIte, hw, hw1, hw2]
            refine ⟨hk1, _, Sub.gc [] [9, 7, 8, 5, 1] rfl rfl, ?_⟩
            rw [hs1, hs2]; rfl
          · simp only [h, go_sem, Nat.reduceEqDiff, Nat.reduceAdd, Nat.reduceSub, Nat.reduceMul, Nat.reduceLT, Nat.reduceLeDiff, Nat.reduceMod, Nat.reduceDiv, Int.reduceToNat, Int.reduceLT, Int.reduceLE, Bool.not_true, Bool.not_false, reduceIte, List.length_map, hall, hany]
            refine ACallL.quiet1 hpw rfl rfl rfl ?_
            simp only [go_sem, Nat.reduceEqDiff, Nat.reduceAdd, Nat.reduceSub, Nat.reduceMul, Nat.reduceLT, Nat.reduceLeDiff, Nat.reduceMod, Nat.reduceDiv, Int.reduceToNat, Int.reduceLT, Int.reduceLE, Bool.not_true, Bool.not_false, reduceIte, hw, hw1, hw2, hany]
            refine ⟨hk1, _, Sub.gc [] [9, 7, 8, 5, 1] rfl rfl, ?_⟩
            rw [hs1, hs2]; rfl
          · simp only [h, go_sem, Nat.reduceEqDiff, Nat.reduceAdd, Nat.reduceSub, Nat.reduceMul, Nat.reduceLT, Nat.reduceLeDiff, Nat.reduceMod, Nat.reduceDiv, Int.reduceToNat, Int.reduceLT, Int.reduceLE, Bool.not_true, Bool.not_false, reduceIte, List.length_map, hall, hany]
            refine ACallL.quiet1 hpw rfl rfl rfl ?_
            simp only [go_sem, Nat.reduceEqDiff, Nat.reduceAdd, Nat.reduceSub, Nat.reduceMul, Nat.reduceLT, Nat.reduceLeDiff, Nat.reduceMod, Nat.reduceDiv, Int.reduceToNat, Int.reduceLT, Int.reduceLE, Bool.not_true, Bool.not_false, reduceIte, hw, hw1, hw2, hany]
            refine ACallL.quiet1 hpw rfl rfl rfl ?_
            simp only [go_sem, Nat.reduceEqDiff, Nat.reduceAdd, Nat.reduceSub, Nat.reduceMul, Nat.reduceLT, Nat.reduceLeDiff, Nat.reduceMod, Nat.reduceDiv, Int.reduceToNat, Int.reduceLT, Int.reduceLE, Bool.not_true, Bool.not_false, reduceIte, hw, hw1, hw2, hany]
            refine ⟨hk1, _, Sub.gc [] [9, 7, 8, 5, 1] rfl rfl, ?_⟩
            rw [hs1, hs2]; rfl
      · have hk : k = t.bs.length := by have : ¬ (k : Int) < t.bs.length := by simpa using h
                                        omega
        subst hk
        simp only [h, go_sem, Nat.reduceEqDiff, Nat.reduceAdd, Nat.reduceSub, Nat.reduceMul, Nat.reduceLT, Nat.reduceLeDiff, Nat.reduceMod, Nat.reduceDiv, Int.reduceToNat, Int.reduceLT, Int.reduceLE, Bool.not_true, Bool.not_false, reduceIte]
        exact finL_ret [] ⟨rfl, rfl, rfl, rfl, _, rfl, res_mk rfl⟩
    · rw [toldO_clash hok hD]
      simp only [go_sem, Nat.reduceEqDiff, Nat.reduceAdd, Nat.reduceSub, Nat.reduceMul, Nat.reduceLT, Nat.reduceLeDiff, Nat.reduceMod, Nat.reduceDiv, Int.reduceToNat, Int.reduceLT, Int.reduceLE, Bool.not_true, Bool.not_false, reduceIte, nilT, ne10]
      exact finL_ret [] ⟨rfl, rfl, rfl, rfl, _, rfl, res_mk (by simp only [docWho, hok, hD]; rfl)⟩
end Go.Proofs.Yticdacdflemoiaa

/- What the program tells is what the document does: plain laws. -/
namespace Go.Proofs.Yticdacdflemoiaa
open Go Go.Ab

theorem docA_eq {t : Tw} (ht : t.OK) : docA t = truthsA t (-1) 0 0 := docT_eq ht _ _

/-! ### Of some numbers only -/
def agrees (o m : Int) (z : Nat) (l : List Int) : Bool := l.zipIdx.all fun p => !skipN p.2 o m z p.1

theorem agrees_snoc (o m : Int) (z : Nat) (l : List Int) (n : Int) : agrees o m z (l ++ [n]) = (agrees o m z l && !skipN l.length o m z n) := by
  unfold agrees
  rw [List.zipIdx_append, List.all_append]
  simp

theorem tups_agree (t : Tw) (o m : Int) (z : Nat) : ∀ k, k ≤ t.bs.length → tupsK t o m z k = (tupsK t (-1) 0 0 k).filter (agrees o m z)
  | 0, _ => rfl
  | k + 1, hk => by
    have hb : t.bs[k]? = some (t.bs[k]'(by omega)) := List.getElem?_eq_getElem _
    rw [tupsK_succ hb, tupsK_succ hb, tups_agree t o m z k (by omega)]
    rw [List.filter_flatMap, filter_flatMap' (agrees o m z), List.flatMap_assoc]
    refine flatMap_congr' fun l hl => ?_
    have hlen := tupsK_len (by omega) l hl
    rw [canL_none, List.filter_map]
    have e : (agrees o m z) ∘ (fun n => l ++ [n]) = fun n => agrees o m z l && !skipN k o m z n := by
      funext n
      rw [Function.comp, agrees_snoc, hlen]
    rw [e]
    cases agrees o m z l
    · simp
    · simp [canL]

theorem truths_agree (t : Tw) (o m : Int) (z : Nat) (cs : List Cnt) : truthsC t o m z cs = (truthsC t (-1) 0 0 cs).filter (agrees o m z) := by
  unfold truthsC
  rw [tups_agree t o m z _ (Nat.le_refl _), List.filter_filter, List.filter_filter]
  refine List.filter_congr fun l _ => Bool.and_comm _ _

theorem agrees_one (n : Nat) (k : Int) : ∀ (l : List Int) (i : Nat), i ≤ n → n < i + l.length → ((l.zipIdx i).all fun p => !skipN p.2 n k 0 p.1) = (l.getD (n - i) 0 == k)
  | [], i, h1, h2 => by simp at h2; omega
  | x :: l, i, h1, h2 => by
    rw [List.zipIdx_cons, List.all_cons]
    by_cases hi : i = n
    · subst hi
      have h3 : ((l.zipIdx (i + 1)).all fun p => !skipN p.2 i k 0 p.1) = true := by
        rw [List.all_eq_true]
        intro p hp
        have := (List.mem_zipIdx hp).1
        have h4 : ((p.2 : Int) == (i : Int)) = false := by simp; omega
        simp [skipN, h4]
      rw [h3, Bool.and_true, Nat.sub_self, List.getD_cons_zero]
      have h5 : ((i : Int) == (i : Int)) = true := by simp
      simp only [skipN, h5, Nat.zero_testBit, Bool.true_and, Bool.false_and, Bool.or_false, bne, Bool.not_not]
    · have h4 : ((i : Int) == (n : Int)) = false := by simp; omega
      rw [agrees_one n k l (i + 1) (by omega) (by simp at h2; omega)]
      have h5 : n - i = (n - (i + 1)) + 1 := by omega
      rw [h5, List.getD_cons_succ]
      simp [skipN, h4]

theorem truthsA_mem {t : Tw} (ht : t.OK) {l : List Int} (h : l ∈ truthsA t (-1) 0 0) : l.length = t.bs.length ∧ ∀ x ∈ l, 0 ≤ x ∧ x ≤ 4 := by
  rw [← docA_eq ht] at h
  exact docA_mem ht h

theorem truthsA_one {t : Tw} (ht : t.OK) (n : Nat) (hn : n < t.bs.length) (k : Int) : truthsA t n k 0 = (docA t).filter fun l => l.getD n 0 == k := by
  unfold truthsA
  rw [truths_agree, docA_eq ht]
  refine List.filter_congr fun l hl => ?_
  have hlen := (truthsA_mem ht hl).1
  exact agrees_one n k l 0 (by omega) (by omega)

theorem waysN_pos {t : Tw} (ht : t.OK) (n : Nat) (hn : n < t.bs.length) (k : Int) : decide (0 < waysN t n 0 k) = (docA t).any fun l => l.getD n 0 == k := by
  unfold waysN
  rw [truthsA_one ht n hn, Bool.eq_iff_iff, decide_eq_true_iff, List.any_eq_true]
  rw [show (0 : Int) < (((docA t).filter fun l => l.getD n 0 == k).length : Nat) ↔ 0 < ((docA t).filter fun l => l.getD n 0 == k).length by omega]
  rw [List.length_filter_pos_iff]

/-! ### Least and greatest -/
theorem foldlMin_le : ∀ (l : List Int) (b : Int), l.foldl min b ≤ b ∧ ∀ x ∈ l, l.foldl min b ≤ x
  | [], b => ⟨Int.le_refl _, fun x h => by simp at h⟩
  | a :: l, b => by
    obtain ⟨h1, h2⟩ := foldlMin_le l (min b a)
    refine ⟨by simp only [List.foldl_cons]; omega, fun x hx => ?_⟩
    simp only [List.foldl_cons]
    rcases List.mem_cons.1 hx with rfl | hx
    · omega
    · exact h2 x hx
theorem foldlMin_mem : ∀ (l : List Int) (b : Int), l.foldl min b = b ∨ l.foldl min b ∈ l
  | [], b => .inl rfl
  | a :: l, b => by
    simp only [List.foldl_cons]
    rcases foldlMin_mem l (min b a) with h | h
    · rw [h]
      by_cases hab : b ≤ a
      · exact .inl (by omega)
      · exact .inr (by rw [show min b a = a by omega]; exact List.mem_cons_self ..)
    · exact .inr (List.mem_cons_of_mem _ h)
theorem foldlMax_le : ∀ (l : List Int) (b : Int), b ≤ l.foldl max b ∧ ∀ x ∈ l, x ≤ l.foldl max b
  | [], b => ⟨Int.le_refl _, fun x h => by simp at h⟩
  | a :: l, b => by
    obtain ⟨h1, h2⟩ := foldlMax_le l (max b a)
    refine ⟨by simp only [List.foldl_cons]; omega, fun x hx => ?_⟩
    simp only [List.foldl_cons]
    rcases List.mem_cons.1 hx with rfl | hx
    · omega
    · exact h2 x hx
theorem foldlMax_mem : ∀ (l : List Int) (b : Int), l.foldl max b = b ∨ l.foldl max b ∈ l
  | [], b => .inl rfl
  | a :: l, b => by
    simp only [List.foldl_cons]
    rcases foldlMax_mem l (max b a) with h | h
    · rw [h]
      by_cases hab : a ≤ b
      · exact .inl (by omega)
      · exact .inr (by rw [show max b a = a by omega]; exact List.mem_cons_self ..)
    · exact .inr (List.mem_cons_of_mem _ h)

theorem headD_mem {l : List Int} (h : l ≠ []) : l.headD 0 ∈ l := by
  cases l with
  | nil => exact absurd rfl h
  | cons a l => exact List.mem_cons_self ..

theorem hullD_min {l : List Int} (h : l ≠ []) : (hullD l).1 ∈ l ∧ ∀ x ∈ l, (hullD l).1 ≤ x := by
  refine ⟨?_, (foldlMin_le l _).2⟩
  rcases foldlMin_mem l (l.headD 0) with e | e
  · unfold hullD; rw [e]; exact headD_mem h
  · exact e
theorem hullD_max {l : List Int} (h : l ≠ []) : (hullD l).2 ∈ l ∧ ∀ x ∈ l, x ≤ (hullD l).2 := by
  refine ⟨?_, (foldlMax_le l _).2⟩
  rcases foldlMax_mem l (l.headD 0) with e | e
  · unfold hullD; rw [e]; exact headD_mem h
  · exact e

theorem hull_eq {xs ys : List Int} (hy : ys ≠ []) (hm : ∀ x, x ∈ xs ↔ x ∈ ys) (hb : ∀ x ∈ ys, -1000000 ≤ x ∧ x ≤ 1000000) : hullOf xs = hullD ys := by
  obtain ⟨a1, a2⟩ := hullD_min hy
  obtain ⟨b1, b2⟩ := hullD_max hy
  have c1 := (foldlMin_le xs 1073741824).2 _ ((hm _).2 a1)
  have c2 := (foldlMax_le xs (-1073741824)).2 _ ((hm _).2 b1)
  have d1 := hb _ a1
  have d2 := hb _ b1
  refine Prod.ext ?_ ?_
  · unfold hullOf
    simp only
    rcases foldlMin_mem xs 1073741824 with e | e
    · omega
    · have := a2 _ ((hm _).1 e)
      omega
  · unfold hullOf
    simp only
    rcases foldlMax_mem xs (-1073741824) with e | e
    · omega
    · have := b2 _ ((hm _).1 e)
      omega

/-! ### Each answer -/
theorem isT_eq {t : Tw} (ht : t.OK) : isT t = !(docA t).isEmpty := by
  unfold isT
  rw [← docA_eq ht]
  cases docA t <;> simp

theorem truth_word {t : Tw} (ht : t.OK) {n : Nat} {b : B} (hb : t.bs[n]? = some b) {l : List Int} (hl : l ∈ docA t) : l.getD n 0 ∈ canL b n (-1) 0 0 := by
  rw [docA_eq ht] at hl
  have h1 := (List.mem_filter.1 hl).1
  have hn : n < t.bs.length := (List.getElem?_eq_some_iff.1 hb).1
  have gen : ∀ k, k ≤ t.bs.length → n < k → ∀ l ∈ tupsK t (-1) 0 0 k, l.getD n 0 ∈ canL b n (-1) 0 0 := by
    intro k
    induction k with
    | zero => intro _ h; omega
    | succ k ih =>
      intro hk hnk l hl
      have hbk : t.bs[k]? = some (t.bs[k]'(by omega)) := List.getElem?_eq_getElem _
      rw [tupsK_succ hbk] at hl
      obtain ⟨l', h', hl⟩ := List.mem_flatMap.1 hl
      obtain ⟨x, hx, rfl⟩ := List.mem_map.1 hl
      have hlen := tupsK_len (by omega) l' h'
      by_cases hc : n < k
      · rw [List.getD_eq_getElem?_getD, List.getElem?_append_left (by omega), ← List.getD_eq_getElem?_getD]
        exact ih (by omega) hc l' h'
      · have : n = k := by omega
        subst this
        rw [hb] at hbk
        injection hbk with hbk
        rw [List.getD_eq_getElem?_getD, List.getElem?_append_right (by omega), hlen, Nat.sub_self, hbk]
        exact hx
  exact gen _ (Nat.le_refl _) hn l h1

theorem keptOf_eq {t : Tw} (ht : t.OK) {n : Nat} {b : B} (hb : t.bs[n]? = some b) (hD : (docA t).isEmpty = false) : keptOf t n = hullD ((docA t).map fun l => l.getD n 0) := by
  have hn : n < t.bs.length := (List.getElem?_eq_some_iff.1 hb).1
  have hne : docA t ≠ [] := by simpa using hD
  unfold keptOf
  rw [hb]
  simp only
  refine hull_eq (by simpa using hne) (fun x => ?_) (fun x hx => ?_)
  · rw [List.mem_filter, waysN_pos ht n hn, List.any_eq_true, List.mem_map]
    constructor
    · rintro ⟨_, l, hl, h⟩
      exact ⟨l, hl, by simpa using h⟩
    · rintro ⟨l, hl, rfl⟩
      exact ⟨truth_word ht hb hl, l, hl, by simp⟩
  · obtain ⟨l, hl, rfl⟩ := List.mem_map.1 hx
    have := canL_mem ht (List.mem_of_getElem? hb) (truth_word ht hb hl)
    omega

theorem Kept_eq (t : Tw) (i : Int) : specKept t i = docKept t i := by
  unfold specKept docKept
  cases hok : t.ok
  · rfl
  · have ht := (Tw.ok_iff t).1 hok
    cases hB : t.isB i
    · rfl
    · obtain ⟨n, b, rfl, hb⟩ := isB_get hB
      rw [isT_eq ht]
      cases hD : (docA t).isEmpty
      · rw [Int.toNat_natCast, keptOf_eq ht hb hD]; rfl
      · rfl

theorem maskOf_congr {p q : Nat → Bool} : ∀ k, (∀ i, i < k → p i = q i) → maskOf p k = maskOf q k
  | 0, _ => rfl
  | k + 1, h => by
    rw [maskOf, maskOf, maskOf_congr k fun i hi => h i (by omega), h k (by omega)]

theorem Who_eq (t : Tw) : specWho t = docWho t := by
  unfold specWho docWho
  cases hok : t.ok
  · rfl
  · have ht := (Tw.ok_iff t).1 hok
    rw [isT_eq ht]
    cases hD : (docA t).isEmpty
    · have hne : docA t ≠ [] := by simpa using hD
      have hk : ∀ i, i < t.bs.length → keptOf t i = hullD ((docA t).map fun l => l.getD i 0) := fun i hi => keptOf_eq ht (List.getElem?_eq_getElem hi) hD
      have h1 : maskOf (fun i => decide ((keptOf t i).1 > 0)) t.bs.length = maskOf (fun i => (docA t).all fun l => decide (l.getD i 0 > 0)) t.bs.length := by
        refine maskOf_congr _ fun i hi => ?_
        simp only [hk i hi]
        obtain ⟨a1, a2⟩ := hullD_min (l := (docA t).map fun l => l.getD i 0) (by simpa using hne)
        rw [Bool.eq_iff_iff, decide_eq_true_iff, List.all_eq_true]
        constructor
        · intro h l hl
          have := a2 _ (List.mem_map.2 ⟨l, hl, rfl⟩)
          simp only [decide_eq_true_iff]
          omega
        · intro h
          obtain ⟨l, hl, e⟩ := List.mem_map.1 a1
          rw [← e]
          exact of_decide_eq_true (h l hl)
      have h2 : maskOf (fun i => decide ((keptOf t i).2 > 0)) t.bs.length = maskOf (fun i => (docA t).any fun l => decide (l.getD i 0 > 0)) t.bs.length := by
        refine maskOf_congr _ fun i hi => ?_
        simp only [hk i hi]
        obtain ⟨a1, a2⟩ := hullD_max (l := (docA t).map fun l => l.getD i 0) (by simpa using hne)
        rw [Bool.eq_iff_iff, decide_eq_true_iff, List.any_eq_true]
        constructor
        · intro h
          obtain ⟨l, hl, e⟩ := List.mem_map.1 a1
          exact ⟨l, hl, by simp only [decide_eq_true_iff]; omega⟩
        · rintro ⟨l, hl, h⟩
          have h := of_decide_eq_true h
          have := a2 _ (List.mem_map.2 ⟨l, hl, rfl⟩)
          omega
      rw [h1, h2]; rfl
    · rfl

theorem All_eq (t : Tw) : specAll t = docAll t := by
  unfold specAll docAll
  cases hok : t.ok
  · rfl
  · have ht := (Tw.ok_iff t).1 hok
    rw [isT_eq ht]
    cases hD : (docA t).isEmpty
    · have hne : docA t ≠ [] := by simpa using hD
      have e : ((truthsA t (-1) 0 0).map fun l => totS (sumT t.bs l)) = (docA t).map fun l => l.sum := by
        rw [docA_eq ht]
        refine List.map_congr_left fun l hl => totS_sumT ht l (truthsA_mem ht hl).1
      rw [e]
      have hnb := ht.nb
      rw [hull_eq (by simpa using hne) (fun x => Iff.rfl) (fun x hx => ?_)]
      · rfl
      · obtain ⟨l, hl, rfl⟩ := List.mem_map.1 hx
        obtain ⟨h1, h2⟩ := docA_mem ht hl
        have : ∀ l : List Int, (∀ x ∈ l, 0 ≤ x ∧ x ≤ 4) → 0 ≤ l.sum ∧ l.sum ≤ 4 * l.length := by
          intro l
          induction l with
          | nil => intro _; simp
          | cons a l ih =>
            intro h
            have h1 := ih fun x hx => h x (List.mem_cons_of_mem _ hx)
            have h2 := h a (List.mem_cons_self ..)
            simp only [List.sum_cons, List.length_cons]
            omega
        have := this l h2
        omega
    · rfl

theorem Count_eq (t : Tw) : specCount t = docCount t := by
  unfold specCount docCount
  cases hok : t.ok
  · rfl
  · rw [docA_eq ((Tw.ok_iff t).1 hok)]
end Go.Proofs.Yticdacdflemoiaa

/- TowelReads. -/
namespace Go.Proofs.Yticdacdflemoiaa
open Go Go.Ab

set_option maxRecDepth 8000 in
set_option maxHeartbeats 4000000 in
theorem TowelReads_ok (t : Tw) (hL : t.bs.length < 9223372036854775808) (i : Int) : ACall Try.prog 3 [.t (.agg (tw3 t)), .t (vi i)] [] (res (.ret (.t (vb true)))) := by
  have h15 := Own_ok t i hL
  have h16 := rOwn_ok t i hL
  have h17 := Kept_ok t i hL
  have h18 := rKept_ok t i hL
  have h19 := Who_ok t
  have h20 := rWho_ok t
  have h21 := All_ok t
  have h22 := rAll_ok t
  have h23 := Count_ok t
  have h24 := rCount_ok t
  rw [Kept_eq] at h17
  rw [Who_eq] at h19
  rw [All_eq] at h21
  rw [Count_eq] at h23
  obtain ⟨a, b, c, h0⟩ : ∃ a b c, specOwn t i = ((a, b), c) := ⟨_, _, _, rfl⟩
  obtain ⟨d, e, f, h1⟩ : ∃ a b c, docKept t i = ((a, b), c) := ⟨_, _, _, rfl⟩
  obtain ⟨g, h, j, h2⟩ : ∃ a b c, docWho t = (a, b, c) := ⟨_, _, _, rfl⟩
  obtain ⟨l, m, n, h3⟩ : ∃ a b c, docAll t = ((a, b), c) := ⟨_, _, _, rfl⟩
  obtain ⟨o, p, h4⟩ : ∃ a b, docCount t = (a, b) := ⟨_, _, rfl⟩
  rw [h0] at h15 h16
  rw [h1] at h17 h18
  rw [h2] at h19 h20
  rw [h3] at h21 h22
  rw [h4] at h23 h24
  clear h0 h1 h2 h3 h4
  simp only [spanE, twoE, oneE, tS] at h15 h16 h17 h18 h19 h20 h21 h22 h23 h24
  refine ACall.walk k3 ?_
  unfold c3 tw3
  simp only [go_sem, Nat.reduceEqDiff, Nat.reduceAdd, Nat.reduceSub, Nat.reduceMul, Nat.reduceLT, Nat.reduceLeDiff, Nat.reduceMod, Nat.reduceDiv, Int.reduceToNat, Int.reduceLT, Int.reduceLE, Bool.not_true, Bool.not_false, reduceIte]
  refine ACallL.quiet1 (heavy_ok t 5) rfl rfl rfl ?_
  cases heavyB t 5
  · simp only [go_sem, Nat.reduceEqDiff, Nat.reduceAdd, Nat.reduceSub, Nat.reduceMul, Nat.reduceLT, Nat.reduceLeDiff, Nat.reduceMod, Nat.reduceDiv, Int.reduceToNat, Int.reduceLT, Int.reduceLE, Bool.not_true, Bool.not_false, reduceIte, undef]
    refine ACallL.fresh1 h15 rfl ?_
    simp only [go_sem, Nat.reduceEqDiff, Nat.reduceAdd, Nat.reduceSub, Nat.reduceMul, Nat.reduceLT, Nat.reduceLeDiff, Nat.reduceMod, Nat.reduceDiv, Int.reduceToNat, Int.reduceLT, Int.reduceLE, Bool.not_true, Bool.not_false, reduceIte]
    refine ACallL.fresh1 h16 rfl ?_
    simp only [go_sem, Nat.reduceEqDiff, Nat.reduceAdd, Nat.reduceSub, Nat.reduceMul, Nat.reduceLT, Nat.reduceLeDiff, Nat.reduceMod, Nat.reduceDiv, Int.reduceToNat, Int.reduceLT, Int.reduceLE, Bool.not_true, Bool.not_false, reduceIte]
    refine ACallL.fresh1 h17 rfl ?_
    simp only [go_sem, Nat.reduceEqDiff, Nat.reduceAdd, Nat.reduceSub, Nat.reduceMul, Nat.reduceLT, Nat.reduceLeDiff, Nat.reduceMod, Nat.reduceDiv, Int.reduceToNat, Int.reduceLT, Int.reduceLE, Bool.not_true, Bool.not_false, reduceIte]
    refine ACallL.fresh1 h18 rfl ?_
    simp only [go_sem, Nat.reduceEqDiff, Nat.reduceAdd, Nat.reduceSub, Nat.reduceMul, Nat.reduceLT, Nat.reduceLeDiff, Nat.reduceMod, Nat.reduceDiv, Int.reduceToNat, Int.reduceLT, Int.reduceLE, Bool.not_true, Bool.not_false, reduceIte]
    refine ACallL.fresh1 h19 rfl ?_
    simp only [go_sem, Nat.reduceEqDiff, Nat.reduceAdd, Nat.reduceSub, Nat.reduceMul, Nat.reduceLT, Nat.reduceLeDiff, Nat.reduceMod, Nat.reduceDiv, Int.reduceToNat, Int.reduceLT, Int.reduceLE, Bool.not_true, Bool.not_false, reduceIte]
    refine ACallL.fresh1 h20 rfl ?_
    simp only [go_sem, Nat.reduceEqDiff, Nat.reduceAdd, Nat.reduceSub, Nat.reduceMul, Nat.reduceLT, Nat.reduceLeDiff, Nat.reduceMod, Nat.reduceDiv, Int.reduceToNat, Int.reduceLT, Int.reduceLE, Bool.not_true, Bool.not_false, reduceIte]
    refine ACallL.fresh1 h21 rfl ?_
    simp only [go_sem, Nat.reduceEqDiff, Nat.reduceAdd, Nat.reduceSub, Nat.reduceMul, Nat.reduceLT, Nat.reduceLeDiff, Nat.reduceMod, Nat.reduceDiv, Int.reduceToNat, Int.reduceLT, Int.reduceLE, Bool.not_true, Bool.not_false, reduceIte]
    refine ACallL.fresh1 h22 rfl ?_
    simp only [go_sem, Nat.reduceEqDiff, Nat.reduceAdd, Nat.reduceSub, Nat.reduceMul, Nat.reduceLT, Nat.reduceLeDiff, Nat.reduceMod, Nat.reduceDiv, Int.reduceToNat, Int.reduceLT, Int.reduceLE, Bool.not_true, Bool.not_false, reduceIte]
    refine ACallL.fresh1 h23 rfl ?_
    simp only [go_sem, Nat.reduceEqDiff, Nat.reduceAdd, Nat.reduceSub, Nat.reduceMul, Nat.reduceLT, Nat.reduceLeDiff, Nat.reduceMod, Nat.reduceDiv, Int.reduceToNat, Int.reduceLT, Int.reduceLE, Bool.not_true, Bool.not_false, reduceIte]
    refine ACallL.fresh1 h24 rfl ?_
    simp only [go_sem, Nat.reduceEqDiff, Nat.reduceAdd, Nat.reduceSub, Nat.reduceMul, Nat.reduceLT, Nat.reduceLeDiff, Nat.reduceMod, Nat.reduceDiv, Int.reduceToNat, Int.reduceLT, Int.reduceLE, Bool.not_true, Bool.not_false, reduceIte, undef, toKey2, kEq2, beq_self_eq_true, bne_self_eq_false, Bool.and_true, Bool.not_true, Bool.not_false]
    refine ACallL.quiet1 awake_ok rfl rfl rfl ?_
    simp only [go_sem, Nat.reduceEqDiff, Nat.reduceAdd, Nat.reduceSub, Nat.reduceMul, Nat.reduceLT, Nat.reduceLeDiff, Nat.reduceMod, Nat.reduceDiv, Int.reduceToNat, Int.reduceLT, Int.reduceLE, Bool.not_true, Bool.not_false, reduceIte, undef, toKey2, kEq2, beq_self_eq_true, bne_self_eq_false, Bool.and_true, Bool.not_true, Bool.not_false]
    exact finL_ret [] ⟨rfl, rfl, rfl, rfl, _, rfl, res_mk rfl⟩
  · simp only [go_sem, Nat.reduceEqDiff, Nat.reduceAdd, Nat.reduceSub, Nat.reduceMul, Nat.reduceLT, Nat.reduceLeDiff, Nat.reduceMod, Nat.reduceDiv, Int.reduceToNat, Int.reduceLT, Int.reduceLE, Bool.not_true, Bool.not_false, reduceIte, undef]
    refine ACallL.quiet1 awake_ok rfl rfl rfl ?_
    simp only [go_sem, Nat.reduceEqDiff, Nat.reduceAdd, Nat.reduceSub, Nat.reduceMul, Nat.reduceLT, Nat.reduceLeDiff, Nat.reduceMod, Nat.reduceDiv, Int.reduceToNat, Int.reduceLT, Int.reduceLE, Bool.not_true, Bool.not_false, reduceIte, undef]
    exact finL_ret [] ⟨rfl, rfl, rfl, rfl, _, rfl, res_mk rfl⟩
end Go.Proofs.Yticdacdflemoiaa
