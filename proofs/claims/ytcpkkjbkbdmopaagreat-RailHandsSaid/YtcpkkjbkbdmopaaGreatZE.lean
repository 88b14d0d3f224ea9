/- Proved here: laws that the statements need (ZtR4, ZtR5, ZtR6, ZtR7, ZtR8, ZtS1, ZtS2). No conditions but those that each law states. -/
import Derived.Test.YtcpkkjbkbdmopaaGreatZD
import Derived.Test.YtcpkkjbkbdmopaaGreatFJ
import Derived.Test.YtcpkkjbkbdmopaaGreatZB

set_option linter.unusedSimpArgs false
set_option linter.unusedVariables false

/- The document's truths, and what is told if there are any. -/
namespace Go.Proofs.YtcpkkjbkbdmopaaGreat
open Go Go.Ab

theorem extL_many {t : Tw} (ht : t.OK) (a b : Nat) : ∀ (k : Nat) (l : List Int), l.length + k = t.bs.length → (extL t a b k l).length ≤ 5 ^ k
  | 0, l, _ => by simp only [extL]; split <;> simp
  | k + 1, l, hl => by
    have hbx : t.bs[l.length]? = some (t.bs[l.length]'(by omega)) := List.getElem?_eq_getElem _
    rw [extL, hbx]
    simp only
    have hwb := words_bound t ht (List.mem_of_getElem? hbx)
    generalize (words (t.bs[l.length]'(by omega))).1 = lo at *
    generalize (words (t.bs[l.length]'(by omega))).2 = hi at *
    rw [List.length_flatMap]
    have hlen : (rangeI lo hi).length ≤ 5 := by unfold rangeI; rw [List.length_map, List.length_range]; omega
    have : ∀ L : List Int, (L.map fun n => (extL t a b k (l ++ [n])).length).sum ≤ L.length * 5 ^ k := by
      intro L
      induction L with
      | nil => simp
      | cons n L ih =>
        have := extL_many ht a b k (l ++ [n]) (by simp; omega)
        simp only [List.map_cons, List.sum_cons, List.length_cons, Nat.succ_mul]
        omega
    have h2 := this (rangeI lo hi)
    have h3 := Nat.mul_le_mul_right (5 ^ k) hlen
    rw [Nat.pow_succ]
    omega

/-- The document's truths, by the counts of two sets. -/
def docT (t : Tw) (a b : Nat) : List (List Int) := extL t a b t.bs.length []

theorem rtruthsN_ok (t : Tw) (ht : t.OK) (a b : Nat) (ha : a < 8) (hb : b < 8) :
    ACall Tryz.prog 101 [.t (.agg (tw3 t)), .t (vi a), .t (vi b), .t (.lit (.slice none 0 0)), .t (.lit (.slice none 0 0))] [] (ret (.slice 1 ((docT t a b).map tL))) := by
  have hmany := extL_many ht a b t.bs.length [] (by simp)
  have h5 : 5 ^ t.bs.length ≤ 5 ^ 6 := Nat.pow_le_pow_right (by omega) ht.nb
  have h6 : (5 : Nat) ^ 6 = 15625 := by decide
  have h := rtruths_ok t ht a b ha hb t.bs.length [] [] (by simp) (by simp) (by simp; omega)
  have h1 := ACall.ghost (σ := [.row 1 []]) 1 (by decide) h
  have h2 := ACall.ghost (σ := []) 1 (by decide) h1
  refine (ACall.strike h2).mono ?_
  rintro o σ ⟨o0, σ0, ⟨rfl, rfl⟩, rfl, rfl⟩
  refine ⟨?_, rfl⟩
  simp only [Out.gc, List.map_nil, List.nil_append, List.length_nil, Nat.zero_add]
  congr 1
  have hg := newsE_gc t a b t.bs.length [] 1 [] [AO.row 1 (newsE t a b t.bs.length [] 1), AO.row 1 []] rfl rfl
  rw [E.gc]
  simp only [pos?, List.getElem?_cons_zero, newsE_len, if_true]
  have hg' : (newsE t a b t.bs.length [] 1).map (E.gc [] [AO.row 1 (newsE t a b t.bs.length [] 1), AO.row 1 []] 11) = ((docT t a b).map tL).map .t := by
    rw [List.map_map]
    cases hk : t.bs.length with
    | zero =>
      simp only [newsE, docT, hk, extL]
      split <;> rfl
    | succ k =>
      simp only [newsE, docT, hk]
      rw [List.map_map]
      rfl
  rw [hg', allT_t]

theorem rTruths_ok (t : Tw) (ht : t.OK) : ACall Tryz.prog 96 [.t (.agg (tw3 t))] [] (ret (.slice 1 ((docT t (2 ^ t.hs.length - 1) (2 ^ t.vs.length - 1)).map tL))) := by
  refine ACall.walk k96 ?_
  unfold c96 tw3
  have h1 := ht.nh
  have h2 := ht.nv
  have q1 := Nat.two_pow_pos t.hs.length
  have q2 := Nat.two_pow_pos t.vs.length
  have p1 := pow_small h1
  have p2 := pow_small h2
  have hpw1 := power_ok t.hs.length (by omega)
  have hpw2 := power_ok t.vs.length (by omega)
  have htr := rtruthsN_ok t ht (2 ^ t.hs.length - 1) (2 ^ t.vs.length - 1) p1 p2
  simp only [go_sem, Nat.reduceEqDiff, Nat.reduceAdd, Nat.reduceLeDiff, List.length_map]
  refine ACallL.quiet1 hpw1 rfl rfl rfl ?_
  generalize 2 ^ t.hs.length = A at *
  generalize 2 ^ t.vs.length = Bv at *
  have e1 : IntKind.i64.wrap ((A : Int) - 1) = ((A - 1 : Nat) : Int) := by rw [wrap_id (by omega) (by omega)]; omega
  have e2 : IntKind.i64.wrap ((Bv : Int) - 1) = ((Bv - 1 : Nat) : Int) := by rw [wrap_id (by omega) (by omega)]; omega
  simp only [go_sem, Nat.reduceEqDiff, Nat.reduceAdd, Nat.reduceLeDiff, List.length_map, e1]
  refine ACallL.quiet1 hpw2 rfl rfl rfl ?_
  simp only [go_sem, Nat.reduceEqDiff, Nat.reduceAdd, Nat.reduceLeDiff, List.length_map, e2]
  refine ACallL.fresh1 htr rfl ?_
  simp only [go_sem, Nat.reduceEqDiff, Nat.reduceAdd, Nat.reduceLeDiff]
  refine ⟨⟨by rw [List.length_map], by rw [List.length_map]⟩, ?_⟩
  exact finL_ret [] ⟨rfl, rfl, rfl, rfl, _, rfl, rfl, rfl⟩
end Go.Proofs.YtcpkkjbkbdmopaaGreat

/- The document's Own, Count, and what is told if there are truths. -/
namespace Go.Proofs.YtcpkkjbkbdmopaaGreat
open Go Go.Ab

theorem extL_mem {t : Tw} (ht : t.OK) (a b : Nat) : ∀ (k : Nat) (l : List Int), l.length + k = t.bs.length → (∀ x ∈ l, 0 ≤ x ∧ x ≤ 4) → ∀ l' ∈ extL t a b k l, l'.length = t.bs.length ∧ ∀ x ∈ l', 0 ≤ x ∧ x ≤ 4
  | 0, l, hl, hr, l', h => by
    rw [extL] at h
    split at h
    · simp at h; subst h; exact ⟨by omega, hr⟩
    · simp at h
  | k + 1, l, hl, hr, l', h => by
    have hbx : t.bs[l.length]? = some (t.bs[l.length]'(by omega)) := List.getElem?_eq_getElem _
    rw [extL, hbx] at h
    simp only at h
    have hwb := words_bound t ht (List.mem_of_getElem? hbx)
    obtain ⟨n, hn, h⟩ := List.mem_flatMap.1 h
    refine extL_mem ht a b k (l ++ [n]) (by simp; omega) (fun x hx => ?_) l' h
    rcases List.mem_append.1 hx with hx | hx
    · exact hr x hx
    · simp at hx
      subst hx
      unfold rangeI at hn
      obtain ⟨j, hj, rfl⟩ := List.mem_map.1 hn
      have := List.mem_range.1 hj
      omega

/-- The document's truths, by all counts. -/
def docA (t : Tw) : List (List Int) := docT t (2 ^ t.hs.length - 1) (2 ^ t.vs.length - 1)

theorem docA_mem {t : Tw} (ht : t.OK) {l : List Int} (h : l ∈ docA t) : l.length = t.bs.length ∧ ∀ x ∈ l, 0 ≤ x ∧ x ≤ 4 :=
  extL_mem ht _ _ t.bs.length [] (by simp) (by simp) l h
theorem docT_many {t : Tw} (ht : t.OK) (a b : Nat) : (docT t a b).length ≤ 15625 := by
  have h1 := extL_many ht a b t.bs.length [] (by simp)
  have h2 : 5 ^ t.bs.length ≤ 5 ^ 6 := Nat.pow_le_pow_right (by omega) ht.nb
  have h6 : (5 : Nat) ^ 6 = 15625 := by decide
  unfold docT
  omega

def nilT : T := .lit (.slice none 0 0)
def toldO (t : Tw) (is : Bool) : Out :=
  if t.ok then (if is then (if (docA t).isEmpty then .ret (.tup [.t nilT, .t (vi 10)]) else .ret (.tup [.t (.slice 1 ((docA t).map tL)), .t (vi 0)])) else .ret (.tup [.t nilT, .t (vi 2)])) else .ret (.tup [.t nilT, .t (vi 1)])

theorem rtold_ok (t : Tw) (is : Bool) : ACall Tryz.prog 76 [.t (.agg (tw3 t)), .t (vb is)] [] (res (toldO t is)) := by
  refine ACall.walk k76 ?_
  unfold c76 tw3
  simp only [go_sem, Nat.reduceEqDiff, Nat.reduceAdd]
  refine ACallL.quiet1 (rtowels_ok t) rfl rfl rfl ?_
  cases hok : t.ok
  · simp only [go_sem, Nat.reduceEqDiff, Bool.not_false]
    exact finL_ret [] ⟨rfl, rfl, rfl, rfl, _, rfl, res_mk (by simp only [toldO, hok]; rfl)⟩
  · have ht := (Tw.ok_iff t).1 hok
    cases is
    · simp only [go_sem, Nat.reduceEqDiff, Bool.not_true, Bool.not_false]
      exact finL_ret [] ⟨rfl, rfl, rfl, rfl, _, rfl, res_mk (by simp only [toldO, hok]; rfl)⟩
    · simp only [go_sem, Nat.reduceEqDiff, Nat.reduceAdd, Bool.not_true]
      refine ACallL.fresh1 (rTruths_ok t ht) rfl ?_
      have hd : docT t (2 ^ t.hs.length - 1) (2 ^ t.vs.length - 1) = docA t := rfl
      cases hD : (docA t).isEmpty
      · have h0 : ((docA t).length : Int) ≠ 0 := by
          have : docA t ≠ [] := by simpa using hD
          have := List.length_pos_iff.2 this
          omega
        have hb : (((docA t).length : Int) == 0) = false := by simpa using h0
        simp only [go_sem, Nat.reduceEqDiff, List.length_map, hd, hb]
        exact finL_ret [] ⟨rfl, rfl, rfl, rfl, _, rfl, res_mk (by simp only [toldO, hok, hD]; rfl)⟩
      · have h0 : docA t = [] := by simpa using hD
        have hb : (((docA t).length : Int) == 0) = true := by simp [h0]
        simp only [go_sem, Nat.reduceEqDiff, List.length_map, hd, hb]
        exact finL_ret [] ⟨rfl, rfl, rfl, rfl, _, rfl, res_mk (by simp only [toldO, hok, hD]; rfl)⟩

/-! ### Own -/
def docCount (t : Tw) : Int × Int := if t.ok then ((docA t).length, 0) else (0, 1)

theorem rsum_ok (xs : List Int) (hl : xs.length ≤ 1000) (hr : ∀ x ∈ xs, 0 ≤ x ∧ x ≤ 4) : ACall Tryz.prog 89 [.t (.slice 1 (xs.map vi))] [] (ret (vi xs.sum)) := by
  have hsum : ∀ k : Nat, k ≤ 1000 → 0 ≤ (xs.take k).sum ∧ (xs.take k).sum ≤ k * 4 := by
    intro k
    induction k with
    | zero => intro _; simp
    | succ k ih =>
      intro hk
      have ih := ih (by omega)
      by_cases h : k < xs.length
      · have := hr _ (List.getElem_mem h)
        rw [List.take_succ_eq_append_getElem h, List.sum_append]
        simp only [List.sum_cons, List.sum_nil]
        omega
      · rw [List.take_of_length_le (by omega)] at ih ⊢
        omega
  refine ACall.walk k89 ?_
  unfold c89
  simp only [go_sem]
  refine awpL_loopK xs.length (fun k s => s = { env := [(4, .t (vi k)), (3, .t (vi (xs.take k).sum)), (0, .t (.slice 1 (xs.map vi)))], σ := [] }) ⟨_, Sub.gc [] [4, 3, 0] rfl rfl, rfl⟩ ?_
  rintro k s hk rfl
  simp only [go_sem, Nat.reduceEqDiff, List.length_map]
  refine BrL.mk (fun h => ?_) (fun h => ?_)
  · have hk : k < xs.length := by simpa using h
    have hw : IntKind.i64.wrap ((k : Int) + 1) = ((k + 1 : Nat) : Int) := by rw [wrap_id (by omega) (by omega)]; omega
    have h1 := hsum k (by omega)
    have h2 := hr _ (List.getElem_mem hk)
    have hs : IntKind.i64.wrap ((xs.take k).sum + xs[k]) = (xs.take (k + 1)).sum := by
      rw [wrap_id (by omega) (by omega), List.take_succ_eq_append_getElem hk, List.sum_append]
      simp
    simp only [h, go_sem, Nat.reduceEqDiff, List.getElem?_map, List.getElem?_eq_getElem hk, hw, hs]
    exact ⟨hk, _, Sub.gc [] [4, 3, 0] rfl rfl, rfl⟩
  · have hk : k = xs.length := by have : ¬ (k : Int) < xs.length := by simpa using h
                                  omega
    subst hk
    simp only [h, go_sem, Nat.reduceEqDiff, List.take_length]
    exact finL_ret [] ⟨rfl, rfl, rfl, rfl, _, rfl, res_mk rfl⟩
end Go.Proofs.YtcpkkjbkbdmopaaGreat

/- The document's Kept, All and Who. -/
namespace Go.Proofs.YtcpkkjbkbdmopaaGreat
open Go Go.Ab

/-- From the least to the greatest of some numbers. -/
def hullD (xs : List Int) : Int × Int := (xs.foldl min (xs.headD 0), xs.foldl max (xs.headD 0))
theorem foldl_take {α β : Type} (f : β → α → β) (b : β) (l : List α) (k : Nat) (x : α) (h : l[k]? = some x) : (l.take (k + 1)).foldl f b = f ((l.take k).foldl f b) x := by
  obtain ⟨hk, rfl⟩ := List.getElem?_eq_some_iff.1 h
  rw [List.take_succ_eq_append_getElem hk, List.foldl_append]
  rfl

theorem ne1 : ((1 : Int) != 0) = true := rfl
theorem ne2 : ((2 : Int) != 0) = true := rfl
theorem ne10 : ((10 : Int) != 0) = true := rfl
theorem ne0 : ((0 : Int) != 0) = false := rfl
theorem toldO_no {t : Tw} (is : Bool) (h : t.ok = false) : toldO t is = .ret (.tup [.t nilT, .t (vi 1)]) := by simp only [toldO, h]; rfl
theorem toldO_range {t : Tw} (h : t.ok = true) : toldO t false = .ret (.tup [.t nilT, .t (vi 2)]) := by simp only [toldO, h]; rfl
theorem toldO_clash {t : Tw} (h : t.ok = true) (hD : (docA t).isEmpty = true) : toldO t true = .ret (.tup [.t nilT, .t (vi 10)]) := by simp only [toldO, h, hD]; rfl
theorem toldO_yes {t : Tw} (h : t.ok = true) (hD : (docA t).isEmpty = false) : toldO t true = .ret (.tup [.t (.slice 1 ((docA t).map tL)), .t (vi 0)]) := by simp only [toldO, h, hD]; rfl

def docKept (t : Tw) (i : Int) : (Int × Int) × Int :=
  if t.ok then (if t.isB i then (if (docA t).isEmpty then ((0, 0), 10) else (hullD ((docA t).map fun l => l.getD i.toNat 0), 0)) else ((0, 0), 2)) else ((0, 0), 1)

set_option maxRecDepth 4000 in
set_option maxHeartbeats 1000000 in
theorem rKept_ok (t : Tw) (i : Int) (hL : t.bs.length < 9223372036854775808) : ACall Tryz.prog 47 [.t (.agg (tw3 t)), .t (vi i)] [] (res (spanE (docKept t i).1 (docKept t i).2)) := by
  refine ACall.walk k47 ?_
  unfold c47 tw3
  simp only [go_sem, Nat.reduceEqDiff, Nat.reduceAdd]
  refine ACallL.quiet1 (rbather_ok t i hL) rfl rfl rfl ?_
  simp only [go_sem, Nat.reduceEqDiff, Nat.reduceAdd]
  refine ACallL.fresh1 (rtold_ok t (t.isB i)) rfl ?_
  cases hok : t.ok
  · rw [toldO_no _ hok]
    simp only [go_sem, Nat.reduceEqDiff, Nat.reduceAdd, nilT, ne1]
    exact finL_ret [] ⟨rfl, rfl, rfl, rfl, _, rfl, res_mk (by simp only [docKept, hok]; rfl)⟩
  · have ht := (Tw.ok_iff t).1 hok
    cases hB : t.isB i
    · rw [toldO_range hok]
      simp only [go_sem, Nat.reduceEqDiff, Nat.reduceAdd, nilT, ne2]
      exact finL_ret [] ⟨rfl, rfl, rfl, rfl, _, rfl, res_mk (by simp only [docKept, hok, hB]; rfl)⟩
    · obtain ⟨n, b, rfl, hb⟩ := isB_get hB
      cases hD : (docA t).isEmpty
      · have hpos : 0 < (docA t).length := by
          have : docA t ≠ [] := by simpa using hD
          exact List.length_pos_iff.2 this
        have hmem := fun l (h : l ∈ docA t) => docA_mem ht h
        have hmany : (docA t).length ≤ 15625 := docT_many ht _ _
        have hspec : docKept t n = (hullD ((docA t).map fun l => l.getD n 0), 0) := by simp only [docKept, hok, hB, hD]; rfl
        rw [hspec, toldO_yes hok hD]
        have hn : n < t.bs.length := (List.getElem?_eq_some_iff.1 hb).1
        generalize docA t = ds at *
        have hd0 : ds[0]? = some ds[0] := List.getElem?_eq_getElem hpos
        have hx0 : (ds[0])[n]? = some ((ds[0])[n]'(by rw [(hmem _ (List.getElem_mem hpos)).1]; exact hn)) := List.getElem?_eq_getElem _
        have hg0 : ds[0].getD n 0 = (ds[0])[n]'(by rw [(hmem _ (List.getElem_mem hpos)).1]; exact hn) := by rw [List.getD_eq_getElem?_getD, hx0]; rfl
        have hhead : (ds.map fun l => l.getD n 0).headD 0 = ds[0].getD n 0 := by
          cases ds with
          | nil => simp at hpos
          | cons l ls => rfl
        rw [← hg0] at hx0
        clear hg0
        generalize ds[0] = d0 at *
        simp only [go_sem, Nat.reduceEqDiff, Nat.reduceAdd, Nat.reduceLeDiff, Int.reduceLE, ne0, List.getElem?_map, hd0, tL, hx0]
        obtain ⟨lo, hlo⟩ : ∃ lo : Nat → Int, ∀ k, lo k = ((ds.map fun l => l.getD n 0).take k).foldl min (d0.getD n 0) := ⟨_, fun _ => rfl⟩
        obtain ⟨hi, hhi⟩ : ∃ hi : Nat → Int, ∀ k, hi k = ((ds.map fun l => l.getD n 0).take k).foldl max (d0.getD n 0) := ⟨_, fun _ => rfl⟩
        have hlo0 : lo 0 = d0.getD n 0 := hlo 0
        have hhi0 : hi 0 = d0.getD n 0 := hhi 0
        refine awpL_loopK ds.length (fun k s => s = { env := [(9, .t (vi k)), (8, .ptr 1 0), (6, .t (.slice 1 (ds.map tL))), (4, .ptr 0 0), (1, .t (vi n))], σ := [.cells [.t (vi 0), .t (vi 0)], .cells [.t (vi (lo k)), .t (vi (hi k))]] })
          ⟨_, Sub.gc [1, 2] [9, 8, 6, 4, 1] rfl rfl, by rw [hlo0, hhi0]; rfl⟩ ?_
        rintro k s hk rfl
        simp only [go_sem, Nat.reduceEqDiff, List.length_map]
        refine BrL.mk (fun h => ?_) (fun h => ?_)
        · have hk : k < ds.length := by simpa using h
          have hdk : ds[k]? = some ds[k] := List.getElem?_eq_getElem hk
          have hlen := (hmem _ (List.getElem_mem hk)).1
          have hxk : (ds[k])[n]? = some (ds[k].getD n 0) := by
            rw [List.getD_eq_getElem?_getD, List.getElem?_eq_getElem (by omega : n < ds[k].length)]; rfl
          have hcol : (ds.map fun l => l.getD n 0)[k]? = some (ds[k].getD n 0) := by rw [List.getElem?_map, hdk]; rfl
          have hlo1 : lo (k + 1) = min (lo k) (ds[k].getD n 0) := by rw [hlo, hlo, foldl_take _ _ _ _ _ hcol]
          have hhi1 : hi (k + 1) = max (hi k) (ds[k].getD n 0) := by rw [hhi, hhi, foldl_take _ _ _ _ _ hcol]
          have hw : IntKind.i64.wrap ((k : Int) + 1) = ((k + 1 : Nat) : Int) := by rw [wrap_id (by omega) (by omega)]; omega
          generalize ds[k] = dk at *
          simp only [h, go_sem, Nat.reduceEqDiff, Nat.reduceAdd, Nat.reduceLeDiff, List.getElem?_map, hdk, tL, hxk, hw]
          refine ⟨hk, _, Sub.gc [0, 1] [9, 8, 6, 4, 1] rfl rfl, ?_⟩
          rw [hlo1, hhi1]
          rfl
        · have hk : k = ds.length := by have : ¬ (k : Int) < ds.length := by simpa using h
                                        omega
          subst hk
          have e1 : lo ds.length = (hullD (ds.map fun l => l.getD n 0)).1 := by
            rw [hlo, List.take_of_length_le (by simp)]; simp only [hullD, hhead]
          have e2 : hi ds.length = (hullD (ds.map fun l => l.getD n 0)).2 := by
            rw [hhi, List.take_of_length_le (by simp)]; simp only [hullD, hhead]
          rw [e1, e2]
          simp only [h, go_sem, Nat.reduceEqDiff, Nat.reduceAdd]
          exact finL_ret [] ⟨rfl, rfl, rfl, rfl, _, rfl, res_mk rfl⟩
      · rw [toldO_clash hok hD]
        simp only [go_sem, Nat.reduceEqDiff, Nat.reduceAdd, nilT, ne10]
        exact finL_ret [] ⟨rfl, rfl, rfl, rfl, _, rfl, res_mk (by simp only [docKept, hok, hB, hD]; rfl)⟩
end Go.Proofs.YtcpkkjbkbdmopaaGreat

/- The document's All. -/
namespace Go.Proofs.YtcpkkjbkbdmopaaGreat
open Go Go.Ab

def docAll (t : Tw) : (Int × Int) × Int :=
  if t.ok then (if (docA t).isEmpty then ((0, 0), 10) else (hullD ((docA t).map fun l => l.sum), 0)) else ((0, 0), 1)

set_option maxRecDepth 4000 in
set_option maxHeartbeats 1000000 in
theorem rAll_ok (t : Tw) : ACall Tryz.prog 67 [.t (.agg (tw3 t))] [] (res (spanE (docAll t).1 (docAll t).2)) := by
  refine ACall.walk k67 ?_
  unfold c67 tw3
  simp only [go_sem, Nat.reduceEqDiff, Nat.reduceAdd]
  refine ACallL.fresh1 (rtold_ok t true) rfl ?_
  cases hok : t.ok
  · rw [toldO_no _ hok]
    simp only [go_sem, Nat.reduceEqDiff, Nat.reduceAdd, nilT, ne1]
    exact finL_ret [] ⟨rfl, rfl, rfl, rfl, _, rfl, res_mk (by simp only [docAll, hok]; rfl)⟩
  · have ht := (Tw.ok_iff t).1 hok
    have hnb := ht.nb
    cases hD : (docA t).isEmpty
    · have hpos : 0 < (docA t).length := by
        have : docA t ≠ [] := by simpa using hD
        exact List.length_pos_iff.2 this
      have hmem := fun l (h : l ∈ docA t) => docA_mem ht h
      have hmany : (docA t).length ≤ 15625 := docT_many ht _ _
      have hspec : docAll t = (hullD ((docA t).map fun l => l.sum), 0) := by simp only [docAll, hok, hD]; rfl
      rw [hspec, toldO_yes hok hD]
      generalize docA t = ds at *
      have hd0 : ds[0]? = some ds[0] := List.getElem?_eq_getElem hpos
      have hs0 := rsum_ok ds[0] (by have := (hmem _ (List.getElem_mem hpos)).1; omega) (hmem _ (List.getElem_mem hpos)).2
      have hhead : (ds.map fun l => l.sum).headD 0 = ds[0].sum := by
        cases ds with
        | nil => simp at hpos
        | cons l ls => rfl
      generalize ds[0] = d0 at *
      simp only [go_sem, Nat.reduceEqDiff, Int.reduceLE, ne0, List.getElem?_map, hd0, tL]
      obtain ⟨lo, hlo⟩ : ∃ lo : Nat → Int, ∀ k, lo k = ((ds.map fun l => l.sum).take k).foldl min d0.sum := ⟨_, fun _ => rfl⟩
      obtain ⟨hi, hhi⟩ : ∃ hi : Nat → Int, ∀ k, hi k = ((ds.map fun l => l.sum).take k).foldl max d0.sum := ⟨_, fun _ => rfl⟩
      have hlo0 : lo 0 = d0.sum := hlo 0
      have hhi0 : hi 0 = d0.sum := hhi 0
      refine AndL.mk ?_ ?_
      · simp only [go_sem, Nat.reduceEqDiff]
        refine ACallL.quiet1 hs0 rfl rfl rfl ?_
        simp only [go_sem, Nat.reduceEqDiff, Int.reduceLE, hd0, tL, List.getElem?_map]
        refine AndL.mk ?_ ?_
        · simp only [go_sem, Nat.reduceEqDiff]
          refine ACallL.quiet1 hs0 rfl rfl rfl ?_
          simp only [go_sem, Nat.reduceEqDiff, Nat.reduceAdd, Nat.reduceLeDiff, Int.reduceLE, hd0, tL, List.getElem?_map]
          refine awpL_loopK ds.length (fun k s => s = { env := [(7, .t (vi k)), (6, .ptr 1 0), (4, .t (.slice 1 (ds.map tL))), (2, .ptr 0 0)], σ := [.cells [.t (vi 0), .t (vi 0)], .cells [.t (vi (lo k)), .t (vi (hi k))]] })
            ⟨_, Sub.gc [1, 2] [7, 6, 4, 2] rfl rfl, by rw [hlo0, hhi0]; rfl⟩ ?_
          rintro k s hk rfl
          simp only [go_sem, Nat.reduceEqDiff, List.length_map]
          refine BrL.mk (fun h => ?_) (fun h => ?_)
          · have hk : k < ds.length := by simpa using h
            have hdk : ds[k]? = some ds[k] := List.getElem?_eq_getElem hk
            have hlen := (hmem _ (List.getElem_mem hk)).1
            have hsk := rsum_ok ds[k] (by omega) (hmem _ (List.getElem_mem hk)).2
            have hcol : (ds.map fun l => l.sum)[k]? = some ds[k].sum := by rw [List.getElem?_map, hdk]; rfl
            have hlo1 : lo (k + 1) = min (lo k) ds[k].sum := by rw [hlo, hlo, foldl_take _ _ _ _ _ hcol]
            have hhi1 : hi (k + 1) = max (hi k) ds[k].sum := by rw [hhi, hhi, foldl_take _ _ _ _ _ hcol]
            have hw : IntKind.i64.wrap ((k : Int) + 1) = ((k + 1 : Nat) : Int) := by rw [wrap_id (by omega) (by omega)]; omega
            generalize ds[k] = dk at *
            simp only [h, go_sem, Nat.reduceEqDiff, Nat.reduceAdd, Nat.reduceLeDiff, List.getElem?_map, hdk, tL]
            refine ACallL.quiet1 hsk rfl rfl rfl ?_
            simp only [go_sem, Nat.reduceEqDiff, Nat.reduceAdd, Nat.reduceLeDiff, List.getElem?_map, hdk, tL]
            refine ACallL.quiet1 hsk rfl rfl rfl ?_
            simp only [go_sem, Nat.reduceEqDiff, Nat.reduceAdd, Nat.reduceLeDiff, List.getElem?_map, hdk, tL, hw]
            refine ⟨hk, _, Sub.gc [0, 1] [7, 6, 4, 2] rfl rfl, ?_⟩
            rw [hlo1, hhi1]
            rfl
          · have hk : k = ds.length := by have : ¬ (k : Int) < ds.length := by simpa using h
                                          omega
            subst hk
            have e1 : lo ds.length = (hullD (ds.map fun l => l.sum)).1 := by
              rw [hlo, List.take_of_length_le (by simp)]; simp only [hullD, hhead]
            have e2 : hi ds.length = (hullD (ds.map fun l => l.sum)).2 := by
              rw [hhi, List.take_of_length_le (by simp)]; simp only [hullD, hhead]
            rw [e1, e2]
            simp only [h, go_sem, Nat.reduceEqDiff, Nat.reduceAdd]
            exact finL_ret [] ⟨rfl, rfl, rfl, rfl, _, rfl, res_mk rfl⟩
        · simp only [go_sem, Nat.reduceEqDiff, Nat.reduceAdd, Int.reduceLE, hd0, tL, List.getElem?_map]
          refine ACallL.quiet1 hs0 rfl rfl rfl ?_
          simp only [go_sem, Nat.reduceEqDiff, Nat.reduceAdd, Nat.reduceLeDiff, Int.reduceLE, hd0, tL, List.getElem?_map]
          refine awpL_loopK ds.length (fun k s => s = { env := [(7, .t (vi k)), (6, .ptr 1 0), (4, .t (.slice 1 (ds.map tL))), (2, .ptr 0 0)], σ := [.cells [.t (vi 0), .t (vi 0)], .cells [.t (vi (lo k)), .t (vi (hi k))]] })
            ⟨_, Sub.gc [1, 2] [7, 6, 4, 2] rfl rfl, by rw [hlo0, hhi0]; rfl⟩ ?_
          rintro k s hk rfl
          simp only [go_sem, Nat.reduceEqDiff, List.length_map]
          refine BrL.mk (fun h => ?_) (fun h => ?_)
          · have hk : k < ds.length := by simpa using h
            have hdk : ds[k]? = some ds[k] := List.getElem?_eq_getElem hk
            have hlen := (hmem _ (List.getElem_mem hk)).1
            have hsk := rsum_ok ds[k] (by omega) (hmem _ (List.getElem_mem hk)).2
            have hcol : (ds.map fun l => l.sum)[k]? = some ds[k].sum := by rw [List.getElem?_map, hdk]; rfl
            have hlo1 : lo (k + 1) = min (lo k) ds[k].sum := by rw [hlo, hlo, foldl_take _ _ _ _ _ hcol]
            have hhi1 : hi (k + 1) = max (hi k) ds[k].sum := by rw [hhi, hhi, foldl_take _ _ _ _ _ hcol]
            have hw : IntKind.i64.wrap ((k : Int) + 1) = ((k + 1 : Nat) : Int) := by rw [wrap_id (by omega) (by omega)]; omega
            generalize ds[k] = dk at *
            simp only [h, go_sem, Nat.reduceEqDiff, Nat.reduceAdd, Nat.reduceLeDiff, List.getElem?_map, hdk, tL]
            refine ACallL.quiet1 hsk rfl rfl rfl ?_
            simp only [go_sem, Nat.reduceEqDiff, Nat.reduceAdd, Nat.reduceLeDiff, List.getElem?_map, hdk, tL]
            refine ACallL.quiet1 hsk rfl rfl rfl ?_
            simp only [go_sem, Nat.reduceEqDiff, Nat.reduceAdd, Nat.reduceLeDiff, List.getElem?_map, hdk, tL, hw]
            refine ⟨hk, _, Sub.gc [0, 1] [7, 6, 4, 2] rfl rfl, ?_⟩
            rw [hlo1, hhi1]
            rfl
          · have hk : k = ds.length := by have : ¬ (k : Int) < ds.length := by simpa using h
                                          omega
            subst hk
            have e1 : lo ds.length = (hullD (ds.map fun l => l.sum)).1 := by
              rw [hlo, List.take_of_length_le (by simp)]; simp only [hullD, hhead]
            have e2 : hi ds.length = (hullD (ds.map fun l => l.sum)).2 := by
              rw [hhi, List.take_of_length_le (by simp)]; simp only [hullD, hhead]
            rw [e1, e2]
            simp only [h, go_sem, Nat.reduceEqDiff, Nat.reduceAdd]
            exact finL_ret [] ⟨rfl, rfl, rfl, rfl, _, rfl, res_mk rfl⟩
      · simp only [go_sem, Nat.reduceEqDiff, Nat.reduceAdd, Int.reduceLE, hd0, tL, List.getElem?_map]
        refine ACallL.quiet1 hs0 rfl rfl rfl ?_
        simp only [go_sem, Nat.reduceEqDiff, Int.reduceLE, hd0, tL, List.getElem?_map]
        refine ACallL.quiet1 hs0 rfl rfl rfl ?_
        simp only [go_sem, Nat.reduceEqDiff, Nat.reduceAdd, Nat.reduceLeDiff, Int.reduceLE, hd0, tL, List.getElem?_map]
        refine awpL_loopK ds.length (fun k s => s = { env := [(7, .t (vi k)), (6, .ptr 1 0), (4, .t (.slice 1 (ds.map tL))), (2, .ptr 0 0)], σ := [.cells [.t (vi 0), .t (vi 0)], .cells [.t (vi (lo k)), .t (vi (hi k))]] })
          ⟨_, Sub.gc [1, 2] [7, 6, 4, 2] rfl rfl, by rw [hlo0, hhi0]; rfl⟩ ?_
        rintro k s hk rfl
        simp only [go_sem, Nat.reduceEqDiff, List.length_map]
        refine BrL.mk (fun h => ?_) (fun h => ?_)
        · have hk : k < ds.length := by simpa using h
          have hdk : ds[k]? = some ds[k] := List.getElem?_eq_getElem hk
          have hlen := (hmem _ (List.getElem_mem hk)).1
          have hsk := rsum_ok ds[k] (by omega) (hmem _ (List.getElem_mem hk)).2
          have hcol : (ds.map fun l => l.sum)[k]? = some ds[k].sum := by rw [List.getElem?_map, hdk]; rfl
          have hlo1 : lo (k + 1) = min (lo k) ds[k].sum := by rw [hlo, hlo, foldl_take _ _ _ _ _ hcol]
          have hhi1 : hi (k + 1) = max (hi k) ds[k].sum := by rw [hhi, hhi, foldl_take _ _ _ _ _ hcol]
          have hw : IntKind.i64.wrap ((k : Int) + 1) = ((k + 1 : Nat) : Int) := by rw [wrap_id (by omega) (by omega)]; omega
          generalize ds[k] = dk at *
          simp only [h, go_sem, Nat.reduceEqDiff, Nat.reduceAdd, Nat.reduceLeDiff, List.getElem?_map, hdk, tL]
          refine ACallL.quiet1 hsk rfl rfl rfl ?_
          simp only [go_sem, Nat.reduceEqDiff, Nat.reduceAdd, Nat.reduceLeDiff, List.getElem?_map, hdk, tL]
          refine ACallL.quiet1 hsk rfl rfl rfl ?_
          simp only [go_sem, Nat.reduceEqDiff, Nat.reduceAdd, Nat.reduceLeDiff, List.getElem?_map, hdk, tL, hw]
          refine ⟨hk, _, Sub.gc [0, 1] [7, 6, 4, 2] rfl rfl, ?_⟩
          rw [hlo1, hhi1]
          rfl
        · have hk : k = ds.length := by have : ¬ (k : Int) < ds.length := by simpa using h
                                        omega
          subst hk
          have e1 : lo ds.length = (hullD (ds.map fun l => l.sum)).1 := by
            rw [hlo, List.take_of_length_le (by simp)]; simp only [hullD, hhead]
          have e2 : hi ds.length = (hullD (ds.map fun l => l.sum)).2 := by
            rw [hhi, List.take_of_length_le (by simp)]; simp only [hullD, hhead]
          rw [e1, e2]
          simp only [h, go_sem, Nat.reduceEqDiff, Nat.reduceAdd]
          exact finL_ret [] ⟨rfl, rfl, rfl, rfl, _, rfl, res_mk rfl⟩
    · rw [toldO_clash hok hD]
      simp only [go_sem, Nat.reduceEqDiff, Nat.reduceAdd, nilT, ne10]
      exact finL_ret [] ⟨rfl, rfl, rfl, rfl, _, rfl, res_mk (by simp only [docAll, hok, hD]; rfl)⟩
end Go.Proofs.YtcpkkjbkbdmopaaGreat

/- The document's Who. -/
namespace Go.Proofs.YtcpkkjbkbdmopaaGreat
open Go Go.Ab

def docWho (t : Tw) : Int × Int × Int :=
  if t.ok then (if (docA t).isEmpty then (0, 0, 10) else ((maskOf (fun i => (docA t).all fun l => decide (l.getD i 0 > 0)) t.bs.length : Nat), (maskOf (fun i => (docA t).any fun l => decide (l.getD i 0 > 0)) t.bs.length : Nat), 0)) else (0, 0, 1)

theorem or_add {m k : Nat} (h : m < 2 ^ k) : m ||| 2 ^ k = m + 2 ^ k := by
  have := Nat.two_pow_add_eq_or_of_lt h 1
  rw [Nat.mul_one] at this
  rw [Nat.or_comm, ← this, Nat.add_comm]

theorem countP_take {α : Type} (p : α → Bool) (l : List α) (k : Nat) (x : α) (h : l[k]? = some x) : (l.take (k + 1)).countP p = (l.take k).countP p + if p x then 1 else 0 := by
  obtain ⟨hk, rfl⟩ := List.getElem?_eq_some_iff.1 h
  rw [List.take_succ_eq_append_getElem hk, List.countP_append]
  simp [List.countP_cons]

theorem countP_take_le {α : Type} (p : α → Bool) (l : List α) (k : Nat) : (l.take k).countP p ≤ l.length := by
  have h1 := List.countP_le_length (p := p) (l := l.take k)
  have h2 := List.length_take_le' k l
  omega

end Go.Proofs.YtcpkkjbkbdmopaaGreat

/- The program's truths are the document's: plain laws. -/
namespace Go.Proofs.YtcpkkjbkbdmopaaGreat
open Go Go.Ab

theorem flatMap_congr' {α β : Type} {f g : α → List β} : ∀ {l : List α}, (∀ a ∈ l, f a = g a) → l.flatMap f = l.flatMap g
  | [], _ => rfl
  | a :: l, h => by rw [List.flatMap_cons, List.flatMap_cons, h a (List.mem_cons_self ..), flatMap_congr' fun b hb => h b (List.mem_cons_of_mem _ hb)]
theorem filter_flatMap' {α : Type} (p : α → Bool) : ∀ l : List α, l.filter p = l.flatMap fun x => if p x then [x] else []
  | [] => rfl
  | a :: l => by
    rw [List.flatMap_cons, List.filter_cons, filter_flatMap' p l]
    cases p a <;> simp

theorem skipN_none (i : Nat) (n : Int) : skipN i (-1) 0 0 n = false := by
  have : ((i : Int) == -1) = false := by simp
  simp [skipN, this]

theorem canL_none (b : B) (i : Nat) : canL b i (-1) 0 0 = rangeI (words b).1 (words b).2 := by
  unfold canL
  rw [List.filter_eq_self]
  intro n _
  rw [skipN_none]; rfl

theorem ext_tups (t : Tw) (a b : Nat) : ∀ (j k : Nat), j + k = t.bs.length → (tupsK t (-1) 0 0 j).flatMap (extL t a b k) = extL t a b t.bs.length []
  | 0, k, h => by
    have : k = t.bs.length := by omega
    subst this
    simp [tupsK]
  | j + 1, k, h => by
    rw [← ext_tups t a b j (k + 1) (by omega)]
    have hb : t.bs[j]? = some (t.bs[j]'(by omega)) := List.getElem?_eq_getElem _
    rw [tupsK_succ hb, List.flatMap_assoc]
    refine flatMap_congr' fun l hl => ?_
    have hlen := tupsK_len (by omega) l hl
    rw [extL, hlen, hb, canL_none, List.flatMap_map]

/-! ### Sums -/
theorem addS_get (s : List Int) (hs : s.length = 6) (b : B) (hh : 0 ≤ b.hut ∧ b.hut < 3) (hv : 0 ≤ b.half ∧ b.half < 3) (n : Int) (i : Nat) (hi : i < 3) :
    (addS s b n).getD i 0 = s.getD i 0 + (if b.hut == (i : Int) then n else 0) ∧ (addS s b n).getD (3 + i) 0 = s.getD (3 + i) 0 + (if b.half == (i : Int) then n else 0) := by
  match s, hs with
  | [p0, p1, p2, p3, p4, p5], _ =>
    obtain ⟨x, hx⟩ : ∃ x : Nat, b.hut = x := ⟨b.hut.toNat, by omega⟩
    obtain ⟨y, hy⟩ : ∃ y : Nat, b.half = y := ⟨b.half.toNat, by omega⟩
    unfold addS
    have hx3 : x < 3 := by omega
    have hy3 : y < 3 := by omega
    simp only [hx, hy, Int.toNat_natCast]
    clear hx hy hh hv
    match x, hx3, y, hy3, i, hi with
    | 0, _, 0, _, 0, _ | 0, _, 0, _, 1, _ | 0, _, 0, _, 2, _ | 0, _, 1, _, 0, _ | 0, _, 1, _, 1, _ | 0, _, 1, _, 2, _ | 0, _, 2, _, 0, _ | 0, _, 2, _, 1, _ | 0, _, 2, _, 2, _
    | 1, _, 0, _, 0, _ | 1, _, 0, _, 1, _ | 1, _, 0, _, 2, _ | 1, _, 1, _, 0, _ | 1, _, 1, _, 1, _ | 1, _, 1, _, 2, _ | 1, _, 2, _, 0, _ | 1, _, 2, _, 1, _ | 1, _, 2, _, 2, _
    | 2, _, 0, _, 0, _ | 2, _, 0, _, 1, _ | 2, _, 0, _, 2, _ | 2, _, 1, _, 0, _ | 2, _, 1, _, 1, _ | 2, _, 1, _, 2, _ | 2, _, 2, _, 0, _ | 2, _, 2, _, 1, _ | 2, _, 2, _, 2, _ => simp

def PosOK (b : B) : Prop := (0 ≤ b.hut ∧ b.hut < 3) ∧ (0 ≤ b.half ∧ b.half < 3)

theorem sumT_get (i : Nat) (hi : i < 3) : ∀ (ps : List (B × Int)) (s : List Int), s.length = 6 → (∀ p ∈ ps, PosOK p.1) →
    (ps.foldl (fun s p => addS s p.1 p.2) s).getD i 0 = s.getD i 0 + (ps.map fun x => if x.1.hut == (i : Int) then x.2 else 0).sum ∧
    (ps.foldl (fun s p => addS s p.1 p.2) s).getD (3 + i) 0 = s.getD (3 + i) 0 + (ps.map fun x => if x.1.half == (i : Int) then x.2 else 0).sum
  | [], s, _, _ => by simp
  | p :: ps, s, hs, hp => by
    obtain ⟨h1, h2⟩ := sumT_get i hi ps (addS s p.1 p.2) (by rw [addS_len, hs]) fun q hq => hp q (List.mem_cons_of_mem _ hq)
    obtain ⟨g1, g2⟩ := hp p (List.mem_cons_self ..)
    obtain ⟨k1, k2⟩ := addS_get s hs p.1 g1 g2 p.2 i hi
    simp only [List.foldl_cons, List.map_cons, List.sum_cons]
    rw [h1, h2, k1, k2]
    omega

theorem sum_parts (b : B) (h : 0 ≤ b.hut ∧ b.hut < 3) (n : Int) : (if b.hut == ((0 : Nat) : Int) then n else 0) + (if b.hut == ((1 : Nat) : Int) then n else 0) + (if b.hut == ((2 : Nat) : Int) then n else 0) = n := by
  obtain ⟨x, hx⟩ : ∃ x : Nat, b.hut = x := ⟨b.hut.toNat, by omega⟩
  have hx3 : x < 3 := by omega
  rw [hx]
  clear hx h
  match x, hx3 with
  | 0, _ | 1, _ | 2, _ => simp

theorem sel_parts : ∀ (ps : List (B × Int)), (∀ p ∈ ps, PosOK p.1) →
    (ps.map fun x => if x.1.hut == ((0 : Nat) : Int) then x.2 else 0).sum + (ps.map fun x => if x.1.hut == ((1 : Nat) : Int) then x.2 else 0).sum + (ps.map fun x => if x.1.hut == ((2 : Nat) : Int) then x.2 else 0).sum = (ps.map (·.2)).sum
  | [], _ => rfl
  | p :: ps, hp => by
    have h1 := sel_parts ps fun q hq => hp q (List.mem_cons_of_mem _ hq)
    have h2 := sum_parts p.1 (hp p (List.mem_cons_self ..)).1 p.2
    simp only [List.map_cons, List.sum_cons]
    omega

theorem foldl_len : ∀ (ps : List (B × Int)) (s : List Int), s.length = 6 → (ps.foldl (fun s p => addS s p.1 p.2) s).length = 6
  | [], s, h => h
  | p :: ps, s, h => foldl_len ps _ (by rw [addS_len, h])

theorem OK.pos {t : Tw} (ht : t.OK) (l : List Int) : ∀ p ∈ t.bs.zip l, PosOK p.1 := by
  intro p hp
  have hb : p.1 ∈ t.bs := (List.of_mem_zip hp).1
  have h := ht.bs _ hb
  have h1 := ht.nh
  have h2 := ht.nv
  unfold PosOK
  omega

theorem sumT_hut {t : Tw} (ht : t.OK) (l : List Int) (i : Nat) (hi : i < 3) : (sumT t.bs l).getD i 0 = sumSel (fun b => b.hut == (i : Int)) t.bs l := by
  have := (sumT_get i hi (t.bs.zip l) zero6 rfl (OK.pos ht l)).1
  unfold sumT sumSel
  rw [this]
  have h0 : zero6.getD i 0 = 0 := by match i, hi with | 0, _ | 1, _ | 2, _ => rfl
  rw [h0, Int.zero_add]
theorem sumT_half {t : Tw} (ht : t.OK) (l : List Int) (i : Nat) (hi : i < 3) : (sumT t.bs l).getD (3 + i) 0 = sumSel (fun b => b.half == (i : Int)) t.bs l := by
  have := (sumT_get i hi (t.bs.zip l) zero6 rfl (OK.pos ht l)).2
  unfold sumT sumSel
  rw [this]
  have h0 : zero6.getD (3 + i) 0 = 0 := by match i, hi with | 0, _ | 1, _ | 2, _ => rfl
  rw [h0, Int.zero_add]

theorem totS_sumT {t : Tw} (ht : t.OK) (l : List Int) (hl : l.length = t.bs.length) : totS (sumT t.bs l) = l.sum := by
  have h0 := sumT_hut ht l 0 (by omega)
  have h1 := sumT_hut ht l 1 (by omega)
  have h2 := sumT_hut ht l 2 (by omega)
  have h3 := sel_parts (t.bs.zip l) (OK.pos ht l)
  have h4 : (t.bs.zip l).map (·.2) = l := by rw [List.map_snd_zip (by omega)]
  have hlen : (sumT t.bs l).length = 6 := foldl_len _ _ rfl
  rw [h4] at h3
  unfold sumSel at h0 h1 h2
  match hs : sumT t.bs l, hlen with
  | [p0, p1, p2, p3, p4, p5], _ =>
    rw [hs] at h0 h1 h2
    simp only [List.getD_cons_zero, List.getD_cons_succ] at h0 h1 h2
    simp only [totS, List.take_succ_cons, List.take_zero, List.sum_cons, List.sum_nil]
    omega

theorem right_eq {t : Tw} (ht : t.OK) (l : List Int) (a b : Nat) : rightL t l a b = (cnts t a b).all fun c => c.right (sumT t.bs l) := by
  unfold rightL cnts cntsOf allIx
  rw [List.all_append, List.all_map, List.all_map, List.all_filter, List.all_filter]
  congr 1
  · rw [Bool.eq_iff_iff, List.all_eq_true, List.all_eq_true]
    refine forall_congr' fun p => imp_congr_right fun hp => ?_
    have hlt : p.2 < 3 := by
      have := (List.mem_zipIdx hp).2.1
      have := ht.nh
      omega
    simp only [rightH, Function.comp, Cnt.right, Cnt.at]
    rw [sumT_hut ht l _ (by simpa using hlt)]
    cases a.testBit p.2 <;> simp
  · rw [Bool.eq_iff_iff, List.all_eq_true, List.all_eq_true]
    refine forall_congr' fun p => imp_congr_right fun hp => ?_
    have hlt : p.2 < 3 := by
      have := (List.mem_zipIdx hp).2.1
      have := ht.nv
      omega
    simp only [rightV, Function.comp, Cnt.right, Cnt.at, Bool.false_eq_true, if_false]
    rw [sumT_half ht l _ (by simpa using hlt)]

/-- The document's truths are the program's. -/
theorem docT_eq {t : Tw} (ht : t.OK) (a b : Nat) : docT t a b = truthsC t (-1) 0 0 (cnts t a b) := by
  unfold docT truthsC
  rw [← ext_tups t a b t.bs.length 0 (by omega)]
  rw [filter_flatMap']
  refine flatMap_congr' fun l _ => ?_
  rw [extL, right_eq ht]
end Go.Proofs.YtcpkkjbkbdmopaaGreat

/- What the program tells is what the document does: plain laws. -/
namespace Go.Proofs.YtcpkkjbkbdmopaaGreat
open Go Go.Ab

theorem docA_eq {t : Tw} (ht : t.OK) : docA t = truthsA t (-1) 0 0 := docT_eq ht _ _

/-! ### Of some numbers only -/
def agrees (o m : Int) (z : Nat) (l : List Int) : Bool := l.zipIdx.all fun p => !skipN p.2 o m z p.1

theorem agrees_snoc (o m : Int) (z : Nat) (l : List Int) (n : Int) : agrees o m z (l ++ [n]) = (agrees o m z l && !skipN l.length o m z n) := by
  unfold agrees
  rw [List.zipIdx_append, List.all_append]
  simp

theorem tups_agree (t : Tw) (o m : Int) (z : Nat) : ∀ k, k ≤ t.bs.length → tupsK t o m z k = (tupsK t (-1) 0 0 k).filter (agrees o m z)
  | 0, _ => rfl
  | k + 1, hk => by
    have hb : t.bs[k]? = some (t.bs[k]'(by omega)) := List.getElem?_eq_getElem _
    rw [tupsK_succ hb, tupsK_succ hb, tups_agree t o m z k (by omega)]
    rw [List.filter_flatMap, filter_flatMap' (agrees o m z), List.flatMap_assoc]
    refine flatMap_congr' fun l hl => ?_
    have hlen := tupsK_len (by omega) l hl
    rw [canL_none, List.filter_map]
    have e : (agrees o m z) ∘ (fun n => l ++ [n]) = fun n => agrees o m z l && !skipN k o m z n := by
      funext n
      rw [Function.comp, agrees_snoc, hlen]
    rw [e]
    cases agrees o m z l
    · simp
    · simp [canL]

theorem truths_agree (t : Tw) (o m : Int) (z : Nat) (cs : List Cnt) : truthsC t o m z cs = (truthsC t (-1) 0 0 cs).filter (agrees o m z) := by
  unfold truthsC
  rw [tups_agree t o m z _ (Nat.le_refl _), List.filter_filter, List.filter_filter]
  refine List.filter_congr fun l _ => Bool.and_comm _ _

theorem agrees_one (n : Nat) (k : Int) : ∀ (l : List Int) (i : Nat), i ≤ n → n < i + l.length → ((l.zipIdx i).all fun p => !skipN p.2 n k 0 p.1) = (l.getD (n - i) 0 == k)
  | [], i, h1, h2 => by simp at h2; omega
  | x :: l, i, h1, h2 => by
    rw [List.zipIdx_cons, List.all_cons]
    by_cases hi : i = n
    · subst hi
      have h3 : ((l.zipIdx (i + 1)).all fun p => !skipN p.2 i k 0 p.1) = true := by
        rw [List.all_eq_true]
        intro p hp
        have := (List.mem_zipIdx hp).1
        have h4 : ((p.2 : Int) == (i : Int)) = false := by simp; omega
        simp [skipN, h4]
      rw [h3, Bool.and_true, Nat.sub_self, List.getD_cons_zero]
      have h5 : ((i : Int) == (i : Int)) = true := by simp
      simp only [skipN, h5, Nat.zero_testBit, Bool.true_and, Bool.false_and, Bool.or_false, bne, Bool.not_not]
    · have h4 : ((i : Int) == (n : Int)) = false := by simp; omega
      rw [agrees_one n k l (i + 1) (by omega) (by simp at h2; omega)]
      have h5 : n - i = (n - (i + 1)) + 1 := by omega
      rw [h5, List.getD_cons_succ]
      simp [skipN, h4]

theorem truthsA_mem {t : Tw} (ht : t.OK) {l : List Int} (h : l ∈ truthsA t (-1) 0 0) : l.length = t.bs.length ∧ ∀ x ∈ l, 0 ≤ x ∧ x ≤ 4 := by
  rw [← docA_eq ht] at h
  exact docA_mem ht h

theorem truthsA_one {t : Tw} (ht : t.OK) (n : Nat) (hn : n < t.bs.length) (k : Int) : truthsA t n k 0 = (docA t).filter fun l => l.getD n 0 == k := by
  unfold truthsA
  rw [truths_agree, docA_eq ht]
  refine List.filter_congr fun l hl => ?_
  have hlen := (truthsA_mem ht hl).1
  exact agrees_one n k l 0 (by omega) (by omega)

theorem waysN_pos {t : Tw} (ht : t.OK) (n : Nat) (hn : n < t.bs.length) (k : Int) : decide (0 < waysN t n 0 k) = (docA t).any fun l => l.getD n 0 == k := by
  unfold waysN
  rw [truthsA_one ht n hn, Bool.eq_iff_iff, decide_eq_true_iff, List.any_eq_true]
  rw [show (0 : Int) < (((docA t).filter fun l => l.getD n 0 == k).length : Nat) ↔ 0 < ((docA t).filter fun l => l.getD n 0 == k).length by omega]
  rw [List.length_filter_pos_iff]

/-! ### Least and greatest -/
theorem foldlMin_le : ∀ (l : List Int) (b : Int), l.foldl min b ≤ b ∧ ∀ x ∈ l, l.foldl min b ≤ x
  | [], b => ⟨Int.le_refl _, fun x h => by simp at h⟩
  | a :: l, b => by
    obtain ⟨h1, h2⟩ := foldlMin_le l (min b a)
    refine ⟨by simp only [List.foldl_cons]; omega, fun x hx => ?_⟩
    simp only [List.foldl_cons]
    rcases List.mem_cons.1 hx with rfl | hx
    · omega
    · exact h2 x hx
theorem foldlMin_mem : ∀ (l : List Int) (b : Int), l.foldl min b = b ∨ l.foldl min b ∈ l
  | [], b => .inl rfl
  | a :: l, b => by
    simp only [List.foldl_cons]
    rcases foldlMin_mem l (min b a) with h | h
    · rw [h]
      by_cases hab : b ≤ a
      · exact .inl (by omega)
      · exact .inr (by rw [show min b a = a by omega]; exact List.mem_cons_self ..)
    · exact .inr (List.mem_cons_of_mem _ h)
theorem foldlMax_le : ∀ (l : List Int) (b : Int), b ≤ l.foldl max b ∧ ∀ x ∈ l, x ≤ l.foldl max b
  | [], b => ⟨Int.le_refl _, fun x h => by simp at h⟩
  | a :: l, b => by
    obtain ⟨h1, h2⟩ := foldlMax_le l (max b a)
    refine ⟨by simp only [List.foldl_cons]; omega, fun x hx => ?_⟩
    simp only [List.foldl_cons]
    rcases List.mem_cons.1 hx with rfl | hx
    · omega
    · exact h2 x hx
theorem foldlMax_mem : ∀ (l : List Int) (b : Int), l.foldl max b = b ∨ l.foldl max b ∈ l
  | [], b => .inl rfl
  | a :: l, b => by
    simp only [List.foldl_cons]
    rcases foldlMax_mem l (max b a) with h | h
    · rw [h]
      by_cases hab : a ≤ b
      · exact .inl (by omega)
      · exact .inr (by rw [show max b a = a by omega]; exact List.mem_cons_self ..)
    · exact .inr (List.mem_cons_of_mem _ h)

theorem headD_mem {l : List Int} (h : l ≠ []) : l.headD 0 ∈ l := by
  cases l with
  | nil => exact absurd rfl h
  | cons a l => exact List.mem_cons_self ..

theorem hullD_min {l : List Int} (h : l ≠ []) : (hullD l).1 ∈ l ∧ ∀ x ∈ l, (hullD l).1 ≤ x := by
  refine ⟨?_, (foldlMin_le l _).2⟩
  rcases foldlMin_mem l (l.headD 0) with e | e
  · unfold hullD; rw [e]; exact headD_mem h
  · exact e
theorem hullD_max {l : List Int} (h : l ≠ []) : (hullD l).2 ∈ l ∧ ∀ x ∈ l, x ≤ (hullD l).2 := by
  refine ⟨?_, (foldlMax_le l _).2⟩
  rcases foldlMax_mem l (l.headD 0) with e | e
  · unfold hullD; rw [e]; exact headD_mem h
  · exact e

theorem hull_eq {xs ys : List Int} (hy : ys ≠ []) (hm : ∀ x, x ∈ xs ↔ x ∈ ys) (hb : ∀ x ∈ ys, -1000000 ≤ x ∧ x ≤ 1000000) : hullOf xs = hullD ys := by
  obtain ⟨a1, a2⟩ := hullD_min hy
  obtain ⟨b1, b2⟩ := hullD_max hy
  have c1 := (foldlMin_le xs 1073741824).2 _ ((hm _).2 a1)
  have c2 := (foldlMax_le xs (-1073741824)).2 _ ((hm _).2 b1)
  have d1 := hb _ a1
  have d2 := hb _ b1
  refine Prod.ext ?_ ?_
  · unfold hullOf
    simp only
    rcases foldlMin_mem xs 1073741824 with e | e
    · omega
    · have := a2 _ ((hm _).1 e)
      omega
  · unfold hullOf
    simp only
    rcases foldlMax_mem xs (-1073741824) with e | e
    · omega
    · have := b2 _ ((hm _).1 e)
      omega

/-! ### Each answer -/
theorem isT_eq {t : Tw} (ht : t.OK) : isT t = !(docA t).isEmpty := by
  unfold isT
  rw [← docA_eq ht]
  cases docA t <;> simp

theorem truth_word {t : Tw} (ht : t.OK) {n : Nat} {b : B} (hb : t.bs[n]? = some b) {l : List Int} (hl : l ∈ docA t) : l.getD n 0 ∈ canL b n (-1) 0 0 := by
  rw [docA_eq ht] at hl
  have h1 := (List.mem_filter.1 hl).1
  have hn : n < t.bs.length := (List.getElem?_eq_some_iff.1 hb).1
  have gen : ∀ k, k ≤ t.bs.length → n < k → ∀ l ∈ tupsK t (-1) 0 0 k, l.getD n 0 ∈ canL b n (-1) 0 0 := by
    intro k
    induction k with
    | zero => intro _ h; omega
    | succ k ih =>
      intro hk hnk l hl
      have hbk : t.bs[k]? = some (t.bs[k]'(by omega)) := List.getElem?_eq_getElem _
      rw [tupsK_succ hbk] at hl
      obtain ⟨l', h', hl⟩ := List.mem_flatMap.1 hl
      obtain ⟨x, hx, rfl⟩ := List.mem_map.1 hl
      have hlen := tupsK_len (by omega) l' h'
      by_cases hc : n < k
      · rw [List.getD_eq_getElem?_getD, List.getElem?_append_left (by omega), ← List.getD_eq_getElem?_getD]
        exact ih (by omega) hc l' h'
      · have : n = k := by omega
        subst this
        rw [hb] at hbk
        injection hbk with hbk
        rw [List.getD_eq_getElem?_getD, List.getElem?_append_right (by omega), hlen, Nat.sub_self, hbk]
        exact hx
  exact gen _ (Nat.le_refl _) hn l h1

theorem keptOf_eq {t : Tw} (ht : t.OK) {n : Nat} {b : B} (hb : t.bs[n]? = some b) (hD : (docA t).isEmpty = false) : keptOf t n = hullD ((docA t).map fun l => l.getD n 0) := by
  have hn : n < t.bs.length := (List.getElem?_eq_some_iff.1 hb).1
  have hne : docA t ≠ [] := by simpa using hD
  unfold keptOf
  rw [hb]
  simp only
  refine hull_eq (by simpa using hne) (fun x => ?_) (fun x hx => ?_)
  · rw [List.mem_filter, waysN_pos ht n hn, List.any_eq_true, List.mem_map]
    constructor
    · rintro ⟨_, l, hl, h⟩
      exact ⟨l, hl, by simpa using h⟩
    · rintro ⟨l, hl, rfl⟩
      exact ⟨truth_word ht hb hl, l, hl, by simp⟩
  · obtain ⟨l, hl, rfl⟩ := List.mem_map.1 hx
    have := canL_mem ht (List.mem_of_getElem? hb) (truth_word ht hb hl)
    omega

theorem Kept_eq (t : Tw) (i : Int) : specKept t i = docKept t i := by
  unfold specKept docKept
  cases hok : t.ok
  · rfl
  · have ht := (Tw.ok_iff t).1 hok
    cases hB : t.isB i
    · rfl
    · obtain ⟨n, b, rfl, hb⟩ := isB_get hB
      rw [isT_eq ht]
      cases hD : (docA t).isEmpty
      · rw [Int.toNat_natCast, keptOf_eq ht hb hD]; rfl
      · rfl

theorem maskOf_congr {p q : Nat → Bool} : ∀ k, (∀ i, i < k → p i = q i) → maskOf p k = maskOf q k
  | 0, _ => rfl
  | k + 1, h => by
    rw [maskOf, maskOf, maskOf_congr k fun i hi => h i (by omega), h k (by omega)]

theorem Who_eq (t : Tw) : specWho t = docWho t := by
  unfold specWho docWho
  cases hok : t.ok
  · rfl
  · have ht := (Tw.ok_iff t).1 hok
    rw [isT_eq ht]
    cases hD : (docA t).isEmpty
    · have hne : docA t ≠ [] := by simpa using hD
      have hk : ∀ i, i < t.bs.length → keptOf t i = hullD ((docA t).map fun l => l.getD i 0) := fun i hi => keptOf_eq ht (List.getElem?_eq_getElem hi) hD
      have h1 : maskOf (fun i => decide ((keptOf t i).1 > 0)) t.bs.length = maskOf (fun i => (docA t).all fun l => decide (l.getD i 0 > 0)) t.bs.length := by
        refine maskOf_congr _ fun i hi => ?_
        simp only [hk i hi]
        obtain ⟨a1, a2⟩ := hullD_min (l := (docA t).map fun l => l.getD i 0) (by simpa using hne)
        rw [Bool.eq_iff_iff, decide_eq_true_iff, List.all_eq_true]
        constructor
        · intro h l hl
          have := a2 _ (List.mem_map.2 ⟨l, hl, rfl⟩)
          simp only [decide_eq_true_iff]
          omega
        · intro h
          obtain ⟨l, hl, e⟩ := List.mem_map.1 a1
          rw [← e]
          exact of_decide_eq_true (h l hl)
      have h2 : maskOf (fun i => decide ((keptOf t i).2 > 0)) t.bs.length = maskOf (fun i => (docA t).any fun l => decide (l.getD i 0 > 0)) t.bs.length := by
        refine maskOf_congr _ fun i hi => ?_
        simp only [hk i hi]
        obtain ⟨a1, a2⟩ := hullD_max (l := (docA t).map fun l => l.getD i 0) (by simpa using hne)
        rw [Bool.eq_iff_iff, decide_eq_true_iff, List.any_eq_true]
        constructor
        · intro h
          obtain ⟨l, hl, e⟩ := List.mem_map.1 a1
          exact ⟨l, hl, by simp only [decide_eq_true_iff]; omega⟩
        · rintro ⟨l, hl, h⟩
          have h := of_decide_eq_true h
          have := a2 _ (List.mem_map.2 ⟨l, hl, rfl⟩)
          omega
      rw [h1, h2]; rfl
    · rfl

theorem All_eq (t : Tw) : specAll t = docAll t := by
  unfold specAll docAll
  cases hok : t.ok
  · rfl
  · have ht := (Tw.ok_iff t).1 hok
    rw [isT_eq ht]
    cases hD : (docA t).isEmpty
    · have hne : docA t ≠ [] := by simpa using hD
      have e : ((truthsA t (-1) 0 0).map fun l => totS (sumT t.bs l)) = (docA t).map fun l => l.sum := by
        rw [docA_eq ht]
        refine List.map_congr_left fun l hl => totS_sumT ht l (truthsA_mem ht hl).1
      rw [e]
      have hnb := ht.nb
      rw [hull_eq (by simpa using hne) (fun x => Iff.rfl) (fun x hx => ?_)]
      · rfl
      · obtain ⟨l, hl, rfl⟩ := List.mem_map.1 hx
        obtain ⟨h1, h2⟩ := docA_mem ht hl
        have : ∀ l : List Int, (∀ x ∈ l, 0 ≤ x ∧ x ≤ 4) → 0 ≤ l.sum ∧ l.sum ≤ 4 * l.length := by
          intro l
          induction l with
          | nil => intro _; simp
          | cons a l ih =>
            intro h
            have h1 := ih fun x hx => h x (List.mem_cons_of_mem _ hx)
            have h2 := h a (List.mem_cons_self ..)
            simp only [List.sum_cons, List.length_cons]
            omega
        have := this l h2
        omega
    · rfl

theorem Count_eq (t : Tw) : specCount t = docCount t := by
  unfold specCount docCount
  cases hok : t.ok
  · rfl
  · rw [docA_eq ((Tw.ok_iff t).1 hok)]
end Go.Proofs.YtcpkkjbkbdmopaaGreat
