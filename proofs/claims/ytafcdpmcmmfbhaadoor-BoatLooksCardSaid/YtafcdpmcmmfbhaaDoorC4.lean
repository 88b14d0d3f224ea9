/- Proved here: laws that the statements need (BoY7, BoY8). No conditions but those that each law states. -/
import Derived.Test.YtafcdpmcmmfbhaaDoorC3
import Derived.Test.YtafcdpmcmmfbhaaDoorBK

set_option linter.unusedSimpArgs false
set_option linter.unusedVariables false

/- The document's results of boats: Nearest, Broke, Speed. -/
namespace Go.Proofs.YtafcdpmcmmfbhaaDoor
open Go Go.Ab

theorem told_cases (b : Bo) (boat : Int) (v : Bool) : (b.ok = false ∧ toldT b boat 0 v = (.lit (.slice none 0 0), 1)) ∨ (b.OK ∧ (v && b.isBoat boat) = false ∧ toldT b boat 0 v = (.lit (.slice none 0 0), 2)) ∨ ∃ n : Nat, b.OK ∧ v = true ∧ boat = n ∧ n < b.seen.length ∧ ((isT b n = false ∧ toldT b boat 0 v = (.lit (.slice none 0 0), 10)) ∨ (isT b n = true ∧ toldT b boat 0 v = (tN (plT b n 0), 0))) := by
  unfold toldT
  cases hok : b.ok
  · exact .inl ⟨rfl, rfl⟩
  have hb := b.ok_iff.1 hok
  right
  have hm : b.isMinute 0 = true := isMinute_iff.2 ⟨by omega, by have := hb.L; omega⟩
  rw [hm, Bool.and_true]
  simp only [if_true]
  cases hv : (v && b.isBoat boat)
  · exact .inl ⟨hb, rfl, rfl⟩
  right
  rw [Bool.and_eq_true, isBoat_iff] at hv
  refine ⟨boat.toNat, hb, hv.1, by omega, by omega, ?_⟩
  simp only [if_true]
  cases hT : isT b boat.toNat
  · exact .inl ⟨rfl, by simp⟩
  · exact .inr ⟨rfl, by simp⟩
theorem canQ_row {b : Bo} (hb : b.OK) {i : Nat} (hT : isT b i = true) (k : Nat) : canQ b (rowQ b i k) = decide (k ≤ nearHi b i) := by
  rw [Bool.eq_iff_iff, decide_eq_true_eq]
  constructor
  · intro h
    apply Classical.byContradiction
    intro c
    obtain ⟨x, hx⟩ := (canQ_iff hb _).1 h
    have : canQ b (rowQ b i (nearHi b i + 1)) = true := (canQ_iff hb _).2 ⟨x, tr_rows (fun m hm => Nat.le_trans (by omega) (tr_row hx hm)) hx⟩
    rw [(nearHi_spec hb i).1.2] at this
    cases this
  · intro h
    cases k with
    | zero => exact hT
    | succ k => exact (nearHi_spec hb i).2 k (by omega)
theorem nearHi_lt {b : Bo} (hb : b.OK) {i : Nat} (hT : isT b i = true) : nearHi b i < b.D := by
  obtain ⟨c, hc⟩ := near_tr hb hT
  have h1 := tr_row hc (Nat.zero_le _)
  have h2 := (row_lt hb (hc.ok 0 (Nat.le_refl _) (Nat.zero_le _)).lt).2
  omega
def hiK (nh k : Nat) : Nat := min nh (k - 1)
set_option maxRecDepth 8000 in
set_option maxHeartbeats 8000000 in
theorem rNearest_ok (b : Bo) (hl : Lens b) (boat : Int) : ACall Tryd.prog 21 [.t (.agg (bo5 b)), .t (vi boat)] [] (res (spanE (specNearest b boat).1 (specNearest b boat).2)) := by
  have h53 := rtold_ok b hl boat 0 true
  have herr : ∀ e : Int, e ≠ 0 → toldT b boat 0 true = (.lit (.slice none 0 0), e) → specNearest b boat = ((0, 0), e) → ACall Tryd.prog 21 [.t (.agg (bo5 b)), .t (vi boat)] [] (res (spanE (specNearest b boat).1 (specNearest b boat).2)) := fun e he e1 e2 => by
    rw [e1] at h53
    rw [e2]
    refine ACall.walk k21 ?_
    unfold c21
    have g : (e != 0) = true := by simpa using he
    simp only [bo5] at h53
    simp only [bo5, go_sem, Nat.reduceEqDiff, Nat.reduceAdd, Option.map_some]
    refine ACallL.fresh1 h53 rfl ?_
    simp only [go_sem, Nat.reduceEqDiff, Nat.reduceAdd, undef, undef, Option.map_some, g]
    exact finL_ret [] ⟨rfl, rfl, rfl, rfl, _, rfl, res_mk rfl⟩
  rcases told_cases b boat true with ⟨h1, h2⟩ | ⟨hb, h1, h2⟩ | ⟨n, hb, _, rfl, hn, ⟨hT, h2⟩ | ⟨hT, h2⟩⟩
  · exact herr 1 (by decide) h2 (by unfold specNearest; rw [h1]; rfl)
  · rw [Bool.true_and] at h1
    exact herr 2 (by decide) h2 (by unfold specNearest; rw [b.ok_iff.2 hb, h1]; rfl)
  · exact herr 10 (by decide) h2 (by rw [specNearest_ok hb hn, hT]; rfl)
  clear herr
  rw [h2] at h53
  rw [specNearest_ok hb hn, hT]
  refine ACall.walk k21 ?_
  have hLb := hb.L
  have hDb := hb.D
  have hs := seenOf_at hn
  have hil : (n : Int) < b.seen.length := by omega
  have hlr := leastR_end hb hT
  have hnl := nearHi_lt hb hT
  have h19 := fun (j : Nat) (hj : j ≤ b.L) => rRows_ok b hl n j
  have h57 := fun (row : Nat) (h : row ≤ 20) => rplaces_ok b hb (seenOf b n) (hb.lens _ (seenOf_mem hn)) (hb.saw _ (seenOf_mem hn)) 0 (Nat.zero_le _) row h
  have he : ∀ row, refP b (seenOf b n) 0 row = placesL (canAt b (rowQ b n row) 0) b.N := fun row => refP_eq hb (q := rowQ b n row) rfl rfl (hb.saw _ (seenOf_mem hn)) (Nat.zero_le _)
  simp only [he] at h57
  have hne : ∀ row, decide (((placesL (canAt b (rowQ b n row) 0) b.N).length : Int) > 0) = decide (row ≤ nearHi b n) := fun row => by
    rw [← canQ_row hb hT, ← places_ne hb (rowQ b n row) (Nat.zero_le b.L)]
    exact decide_eq_decide.2 (by omega)
  clear he
  unfold c21 nearS
  have hD0 : leastR b n 0 = b.D := rfl
  generalize seenOf b n = l at *
  generalize nearHi b n = nh at *
  generalize plT b n 0 = pl at *
  simp only [bo5, tSis] at h53 h57
  simp only [bo5, go_sem, Nat.reduceEqDiff, Nat.reduceAdd, Option.map_some, if_true]
  refine ACallL.fresh1 h53 rfl ?_
  simp only [go_sem, Nat.reduceEqDiff, Nat.reduceAdd, Nat.reduceLeDiff, undef, bne_self_eq_false, undef, Option.map_some]
  refine awpL_loopK (b.L + 1) (fun j st => st = { env := [(9, .t (vi j)), (1, .t (vi n)), (2, .t (.ptr (.agg (bo5 b)) 0)), (4, .ptr 0 0), (8, .ptr 1 0)], σ := [.cells [.t (vi 0), .t (vi 0)], .cells [.t (vi (leastR b n j)), .t (vi 0)]] }) ⟨_, Sub.gc [1, 2] [9, 1, 2, 4, 8] rfl rfl, ?_⟩ ?_
  · rw [hD0]
    exact St.gc_mk rfl (by rw [← hDb.2.2]; rfl) rfl rfl
  rintro j st hj rfl
  simp only [bo5, go_sem, Nat.reduceEqDiff, Nat.reduceAdd, Option.map_some]
  cases g : decide ((j : Int) ≤ b.last)
  · have hje : j = b.L + 1 := by have := of_decide_eq_false g; omega
    subst hje
    rw [hlr]
    simp only [go_sem]
    refine awpL_loopK b.D (fun k st => st = { env := [(12, .t (vi k)), (1, .t (vi n)), (2, .t (.ptr (.agg (bo5 b)) 0)), (4, .ptr 0 0), (8, .ptr 1 0)], σ := [.cells [.t (vi 0), .t (vi 0)], .cells [.t (vi (loR b (nearAll b n))), .t (vi (hiK nh k))]] }) ⟨_, Sub.gc [0, 1] [12, 1, 2, 4, 8] rfl rfl, ?_⟩ ?_
    · refine St.gc_mk rfl ?_ rfl rfl
      rw [show hiK nh 0 = 0 by unfold hiK; omega]
      rfl
    rintro k st hk rfl
    simp only [bo5, go_sem, Nat.reduceEqDiff, Nat.reduceAdd, Option.map_some]
    cases g2 : decide ((k : Int) < b.deep)
    · have hke : k = b.D := by have := of_decide_eq_false g2; omega
      subst hke
      have hfin : hiK nh b.D = nh := by unfold hiK; omega
      rw [hfin]
      simp only [go_sem, Nat.reduceEqDiff, Nat.reduceAdd, undef, undef, Option.map_some]
      exact finL_ret [] ⟨rfl, rfl, rfl, rfl, _, rfl, res_mk rfl⟩
    · have hkl : k < b.D := by have := of_decide_eq_true g2; omega
      have hwk : IntKind.i64.wrap ((k : Int) + 1) = ((k + 1 : Nat) : Int) := by rw [wrap_id (by omega) (by omega)]; omega
      have c57 := h57 k (by omega)
      have hnk := hne k
      generalize placesL (canAt b (rowQ b n k) 0) b.N = pl2 at *
      simp only [tSis, go_sem, Nat.reduceEqDiff, Nat.reduceAdd, List.getElem?_map, Option.map_some, hs]
      repeat' (first | refine AndL.mk ?_ ?_ | refine ACallL.fresh1 c57 rfl ?_ | simp only [tSis, go_sem, Nat.reduceEqDiff, Nat.reduceAdd, List.length_map, List.getElem?_map, Option.map_some, hs])
      by_cases hc : k ≤ nh
      · rw [decide_eq_true hc] at hnk
        have e1 : hiK nh (k + 1) = k := by unfold hiK; omega
        simp only [bo5, go_sem, Nat.reduceEqDiff, Nat.reduceAdd, undef, undef, hwk, hnk]
        exact ⟨hkl, _, Sub.gc [0, 1] [12, 1, 2, 4, 8] rfl rfl, by rw [e1]; rfl⟩
      · rw [decide_eq_false hc] at hnk
        have e1 : hiK nh (k + 1) = hiK nh k := by unfold hiK; omega
        simp only [bo5, go_sem, Nat.reduceEqDiff, hwk, hnk]
        exact ⟨hkl, _, Sub.gc [0, 1] [12, 1, 2, 4, 8] rfl rfl, by rw [e1]; rfl⟩
  · have hjL : j ≤ b.L := by have := of_decide_eq_true g; omega
    have hwj : IntKind.i64.wrap ((j : Int) + 1) = ((j + 1 : Nat) : Int) := by rw [wrap_id (by omega) (by omega)]; omega
    have c19 := h19 j hjL
    rw [specRows_ok hb hn hjL, hT] at c19
    have s1 := leastR_succ b n j
    generalize leastR b n (j + 1) = L1 at *
    generalize leastR b n j = L0 at *
    generalize loR b (canM b n j) = l1 at *
    generalize hiR b (canM b n j) = h1 at *
    have m1 : min (L0 : Int) (l1 : Int) = (L1 : Int) := by omega
    simp only [bo5, spanE, tSp, if_true] at c19
    simp only [go_sem, Nat.reduceEqDiff, Nat.reduceAdd, Option.map_some]
    refine ACallL.quiet1 c19 rfl rfl rfl ?_
    simp only [bo5, go_sem, Nat.reduceEqDiff, Nat.reduceAdd, Nat.reduceLeDiff, undef, undef, Option.map_some, hwj, m1]
    exact ⟨by omega, _, Sub.gc [0, 1] [9, 1, 2, 4, 8] rfl rfl, rfl⟩
set_option maxRecDepth 8000 in
set_option maxHeartbeats 8000000 in
theorem rBroke_ok (b : Bo) (hl : Lens b) (boat row : Int) : ACall Tryd.prog 23 [.t (.agg (bo5 b)), .t (vi boat), .t (vi row)] [] (res (oneE (specBroke b boat row).1 (specBroke b boat row).2)) := by
  have h53 := rtold_ok b hl boat 0 (wI row 0 b.deep)
  have h59 := rin_ok row 0 b.deep
  have h21 := rNearest_ok b hl boat
  have hnb : (wI row 0 b.deep && b.isBoat boat) = (b.isBoat boat && wI row 0 b.deep) := Bool.and_comm ..
  have hcase : (∃ e : Int, e ≠ 0 ∧ toldT b boat 0 (wI row 0 b.deep) = (.lit (.slice none 0 0), e) ∧ specBroke b boat row = (0, e)) ∨ ∃ (l : List Nat) (s : Sp), toldT b boat 0 (wI row 0 b.deep) = (tN l, 0) ∧ specBroke b boat row = (brokeN s row, 0) ∧ specNearest b boat = (s, 0) := by
    rcases told_cases b boat (wI row 0 b.deep) with ⟨h1, h2⟩ | ⟨hb, h1, h2⟩ | ⟨n, hb, hv, rfl, hn, ⟨hT, h2⟩ | ⟨hT, h2⟩⟩
    · exact .inl ⟨1, by decide, h2, by unfold specBroke; rw [h1]; rfl⟩
    · rw [hnb] at h1
      exact .inl ⟨2, by decide, h2, by unfold specBroke; rw [b.ok_iff.2 hb, h1]; rfl⟩
    · have h1 : b.isBoat n = true := isBoat_iff.2 ⟨by omega, by omega⟩
      exact .inl ⟨10, by decide, h2, by
        unfold specBroke; rw [b.ok_iff.2 hb, h1, hv, Int.toNat_natCast, show canQ b (plainQ b n) = false from hT]; rfl⟩
    · have h1 : b.isBoat n = true := isBoat_iff.2 ⟨by omega, by omega⟩
      exact .inr ⟨_, nearS b n, h2, by
        unfold specBroke; rw [b.ok_iff.2 hb, h1, hv, Int.toNat_natCast, show canQ b (plainQ b n) = true from hT]; rfl, by rw [specNearest_ok hb hn, hT]; rfl⟩
  generalize wI row 0 b.deep = v at *
  rcases hcase with ⟨e, he, e1, e2⟩ | ⟨l, s, e1, e2, e3⟩
  · rw [e1] at h53
    rw [e2]
    refine ACall.walk k23 ?_
    unfold c23
    have g : (e != 0) = true := by simpa using he
    simp only [bo5] at h53
    simp only [bo5, go_sem, Nat.reduceEqDiff, Nat.reduceAdd, Nat.reduceLeDiff, Option.map_some]
    repeat' (first | refine AndL.mk ?_ ?_ | refine ACallL.quiet1 h59 rfl rfl rfl ?_ | refine ACallL.fresh1 h53 rfl ?_ | simp only [go_sem, Nat.reduceEqDiff, Nat.reduceAdd, Nat.reduceLeDiff, Option.map_some, g])
    exact finL_ret [] ⟨rfl, rfl, rfl, rfl, _, rfl, res_mk rfl⟩
  · rw [e1] at h53
    rw [e2]
    rw [e3] at h21
    obtain ⟨s1, s2⟩ := s
    have hbr : brokeN (s1, s2) row = if s2 < row then 2 else if s1 ≥ row then 0 else 1 := rfl
    generalize brokeN (s1, s2) row = r at *
    refine ACall.walk k23 ?_
    unfold c23
    simp only [bo5, spanE, tSp] at h53 h21
    simp only [bo5, go_sem, Nat.reduceEqDiff, Nat.reduceAdd, Nat.reduceLeDiff, Option.map_some]
    repeat' (first | refine AndL.mk ?_ ?_ | refine ACallL.quiet1 h59 rfl rfl rfl ?_ | refine ACallL.fresh1 h53 rfl ?_ | refine ACallL.quiet1 h21 rfl rfl rfl ?_ | simp only [go_sem, Nat.reduceEqDiff, Nat.reduceAdd, Nat.reduceLeDiff, undef, bne_self_eq_false, undef, Option.map_some])
    by_cases g1 : s2 < row
    · rw [if_pos g1] at hbr
      subst hbr
      simp only [go_sem, decide_eq_true g1]
      exact finL_ret [] ⟨rfl, rfl, rfl, rfl, _, rfl, res_mk rfl⟩
    · rw [if_neg g1] at hbr
      by_cases g2 : s1 ≥ row
      · rw [if_pos g2] at hbr
        subst hbr
        simp only [go_sem, Nat.reduceEqDiff, Nat.reduceAdd, Nat.reduceLeDiff, Option.map_some, decide_eq_false g1, decide_eq_true g2]
        exact finL_ret [] ⟨rfl, rfl, rfl, rfl, _, rfl, res_mk rfl⟩
      · rw [if_neg g2] at hbr
        subst hbr
        simp only [go_sem, Nat.reduceEqDiff, Nat.reduceAdd, Nat.reduceLeDiff, Option.map_some, decide_eq_false g1, decide_eq_false g2]
        exact finL_ret [] ⟨rfl, rfl, rfl, rfl, _, rfl, res_mk rfl⟩
end Go.Proofs.YtafcdpmcmmfbhaaDoor

/- The document's results of boats: Speed, Met, Who. -/
namespace Go.Proofs.YtafcdpmcmmfbhaaDoor
open Go Go.Ab

set_option maxRecDepth 8000 in
set_option maxHeartbeats 8000000 in
theorem rSpeed_ok (b : Bo) (hl : Lens b) (boat : Int) : ACall Tryd.prog 29 [.t (.agg (bo5 b)), .t (vi boat)] [] (res (oneE (specSpeed b boat).1 (specSpeed b boat).2)) := by
  have h62 := rBoat_ok b hl boat
  have h61 := look_ok b hl (b.isBoat boat)
  have herr : ∀ e : Int, e ≠ 0 → lookE b (b.isBoat boat) = e → specSpeed b boat = (0, e) → ACall Tryd.prog 29 [.t (.agg (bo5 b)), .t (vi boat)] [] (res (oneE (specSpeed b boat).1 (specSpeed b boat).2)) := fun e he e1 e2 => by
    rw [e1] at h61
    rw [e2]
    refine ACall.walk k29 ?_
    unfold c29
    have g : (e != 0) = true := by simpa using he
    simp only [bo5] at h62 h61
    simp only [bo5, go_sem, Nat.reduceEqDiff, Nat.reduceAdd, Option.map_some]
    repeat' (first | refine AndL.mk ?_ ?_ | refine ACallL.quiet1 h62 rfl rfl rfl ?_ | refine ACallL.quiet1 h61 rfl rfl rfl ?_ | simp only [go_sem, Nat.reduceEqDiff, Nat.reduceAdd, Option.map_some, g])
    exact finL_ret [] ⟨rfl, rfl, rfl, rfl, _, rfl, res_mk rfl⟩
  cases hok : b.ok
  · exact herr 1 (by decide) (by unfold lookE; rw [hok]; rfl) (by unfold specSpeed; rw [hok]; rfl)
  cases hB : b.isBoat boat
  · exact herr 2 (by decide) (by unfold lookE; rw [hok, hB]; rfl) (by unfold specSpeed; rw [hok, hB]; rfl)
  clear herr
  obtain ⟨n, rfl, hn⟩ : ∃ n : Nat, boat = n ∧ n < b.seen.length := ⟨boat.toNat, by have := isBoat_iff.1 hB; omega, by have := isBoat_iff.1 hB; omega⟩
  have hb := b.ok_iff.1 hok
  rw [hB] at h61 h62
  rw [show lookE b true = 0 by unfold lookE; rw [hok]; rfl] at h61
  rw [specSpeed_ok hb hn]
  have hsp := speedR_spec hb n
  have hs := seenOf_at hn
  have hil : (n : Int) < b.seen.length := by omega
  have h57 : ∀ k : Nat, k ≤ 3 → ∃ pl : List Nat, ACall Tryd.prog 57 [.t (.agg (bo5 (withSp b k))), .t (tSis (seenOf b n)), .t (vi (0 : Nat)), .t (vi (0 : Nat))] [] (ret (tN pl)) ∧ decide ((pl.length : Int) > 0) = canQ b (speedQ n k) := fun k hk => by
    have hx := withSp_OK hb hk
    have hsaw : sawB (withSp b k) 0 (seenOf b n) = true := (saw_bo (b := b) (x := withSp b k) rfl rfl rfl (seenOf b n) 0).trans (hb.saw _ (seenOf_mem hn))
    refine ⟨_, rplaces_ok (withSp b k) hx (seenOf b n) (hb.lens _ (seenOf_mem hn)) hsaw 0 (Nat.zero_le _) 0 (by omega), ?_⟩
    have he : refP (withSp b k) (seenOf b n) 0 0 = placesL (canAt (withSp b k) (rowQ (withSp b k) n 0) 0) (withSp b k).N := refP_eq hx (q := rowQ (withSp b k) n 0) rfl rfl hsaw (Nat.zero_le _)
    rw [he, ← can_speed hb hk]
    exact (decide_eq_decide.2 (by omega)).trans (places_ne hx (rowQ (withSp b k) n 0) (Nat.zero_le _))
  change ACall _ _ _ _ (res (oneE (spP (speedR b n)).1 (spP (speedR b n)).2))
  generalize seenOf b n = l at *
  generalize speedR b n = r at *
  refine ACall.walk k29 ?_
  unfold c29
  simp only [bo5] at h62 h61
  simp only [bo5, go_sem, Nat.reduceEqDiff, Nat.reduceAdd, Option.map_some]
  repeat' (first | refine AndL.mk ?_ ?_ | refine ACallL.quiet1 h62 rfl rfl rfl ?_ | refine ACallL.quiet1 h61 rfl rfl rfl ?_ | simp only [go_sem, Nat.reduceEqDiff, Nat.reduceAdd, undef, bne_self_eq_false, undef, Option.map_some])
  refine awpL_loopK 4 (fun k st => (∀ i < k, canQ b (speedQ n i) = false) ∧ ∃ z : Int, st = { env := [(8, .t (vi k)), (1, .t (vi n)), (2, .t (.ptr (.agg (bo5 b)) 0)), (7, .ptr 0 0)], σ := [.cells ((bo5 { b with speed := z }).map .t)] }) ⟨_, Sub.gc [1] [8, 1, 2, 7] rfl rfl, by intros; omega, b.speed, rfl⟩ ?_
  rintro k st hk ⟨hno, z, rfl⟩
  simp only [bo5, go_sem, Nat.reduceEqDiff]
  cases g : decide ((k : Int) ≤ 3)
  · have hke : k = 4 := by have := of_decide_eq_false g; omega
    subst hke
    cases r with
    | none =>
      simp only [go_sem]
      exact finL_ret [] ⟨rfl, rfl, rfl, rfl, _, rfl, res_mk rfl⟩
    | some m =>
      exfalso
      have h1 := hno m (by omega)
      rw [hsp.2 m hsp.1] at h1
      simp at h1
  · have hk3 : k ≤ 3 := by have := of_decide_eq_true g; omega
    have hwk : IntKind.i64.wrap ((k : Int) + 1) = ((k + 1 : Nat) : Int) := by rw [wrap_id (by omega) (by omega)]; omega
    obtain ⟨pl, c57, hpl⟩ := h57 k hk3
    simp only [tSis, bo5] at c57
    simp only [tSis, go_sem, Nat.reduceEqDiff, Nat.reduceAdd, Nat.reduceLeDiff, undef, undef, List.getElem?_map, Option.map_some, hs]
    repeat' (first | refine AndL.mk ?_ ?_ | refine ACallL.fresh1 c57 rfl ?_ | simp only [tSis, go_sem, Nat.reduceEqDiff, Nat.reduceAdd, List.length_map, List.getElem?_map, Option.map_some, hs])
    cases hc : canQ b (speedQ n k)
    · rw [hc] at hpl
      simp only [bo5, go_sem, Nat.reduceEqDiff, hwk, hpl]
      exact ⟨by omega, _, Sub.gc [0] [8, 1, 2, 7] rfl rfl, fun i hi => by
        by_cases c : i < k
        · exact hno i c
        · rw [show i = k by omega]; exact hc, k, rfl⟩
    · rw [hc] at hpl
      have hr : r = some k := by
        cases r with
        | none => rw [hsp k hk3] at hc; cases hc
        | some m =>
          rw [hsp.2 k hk3] at hc
          have h1 := of_decide_eq_true hc
          by_cases c : m < k
          · have h2 := hno m c
            rw [hsp.2 m hsp.1] at h2
            simp at h2
          · rw [show m = k by omega]
      subst hr
      simp only [go_sem, Nat.reduceEqDiff, hpl]
      exact finL_ret [] ⟨rfl, rfl, rfl, rfl, _, rfl, res_mk rfl⟩

theorem near_zero {b : Bo} {l fr : List Nat} : decide (((nearL b l fr 0).length : Int) > 0) = l.any fun p => decide (p ∈ fr) := by
  rw [Bool.eq_iff_iff, decide_eq_true_eq, List.any_eq_true]
  constructor
  · intro h
    obtain ⟨p, hp⟩ := List.length_pos_iff_exists_mem.1 (show 0 < (nearL b l fr 0).length by omega)
    unfold nearL at hp
    rw [List.mem_filter, hit_iff] at hp
    obtain ⟨h1, q, hq, hd⟩ := hp
    have : q = p := dist_zero (b := b) (by omega)
    subst this
    exact ⟨q, h1, decide_eq_true hq⟩
  · rintro ⟨p, hp, h⟩
    have : p ∈ nearL b l fr 0 := by
      unfold nearL
      rw [List.mem_filter, hit_iff]
      exact ⟨hp, p, of_decide_eq_true h, by rw [dist_self]; exact Nat.le_refl _⟩
    have := List.length_pos_of_mem this
    omega
theorem plT_mem {b : Bo} (hb : b.OK) {i m : Nat} (hm : m ≤ b.L) (p : Nat) : p ∈ plT b i m ↔ (canM b i m).testBit p = true := by
  unfold plT
  rw [mem_places]
  refine ⟨fun h => h.2, fun h => ⟨?_, h⟩⟩
  obtain ⟨c, hc, rfl⟩ := (canM_bit hb hm p).1 h
  exact (hc.ok _ (Nat.zero_le _) hm).lt
theorem plT_lt {b : Bo} (hb : b.OK) (i m : Nat) : (∀ x ∈ plT b i m, x < 64) ∧ (plT b i m).length < 64 := by
  have hN := hb.N
  refine ⟨fun x hx => ?_, ?_⟩
  · have := (mem_places.1 hx).1; omega
  · unfold plT placesL
    exact Nat.lt_of_le_of_lt (List.length_filter_le _ _) (by simp; omega)
theorem both_met {b : Bo} (hb : b.OK) {i j m : Nat} (hm : m ≤ b.L) : decide (((nearL b (plT b i m) (plT b j m) 0).length : Int) > 0) = !(canM b i m &&& canM b j m == 0) := by
  rw [near_zero, Bool.eq_iff_iff, List.any_eq_true, Bool.not_eq_true', beq_eq_false_iff_ne, ne_eq, ← ne_eq, ne0_iff]
  constructor
  · rintro ⟨p, hp, h⟩
    exact ⟨p, by rw [Nat.testBit_and, (plT_mem hb hm p).1 hp, (plT_mem hb hm p).1 (of_decide_eq_true h)]; rfl⟩
  · rintro ⟨p, h⟩
    rw [Nat.testBit_and, Bool.and_eq_true] at h
    exact ⟨p, (plT_mem hb hm p).2 h.1, decide_eq_true ((plT_mem hb hm p).2 h.2)⟩
theorem told_ok' {b : Bo} (hl : Lens b) (hb : b.OK) {n m : Nat} (hn : n < b.seen.length) (hm : m ≤ b.L) : ACall Tryd.prog 53 [.t (.agg (bo5 b)), .t (vi n), .t (vi m), .t (vb true)] [] (res (.ret (.tup [.t (if isT b n then tN (plT b n m) else .lit (.slice none 0 0)), .t (vi (if isT b n then 0 else 10))]))) := by
  have h := rtold_ok b hl n m true
  have h1 : b.isBoat n = true := isBoat_iff.2 ⟨by omega, by omega⟩
  have h2 : b.isMinute m = true := isMinute_iff.2 ⟨by omega, by have := hb.L; omega⟩
  have e : toldT b n m true = (if isT b n then tN (plT b n m) else .lit (.slice none 0 0), if isT b n then 0 else 10) := by
    unfold toldT
    rw [b.ok_iff.2 hb, h1, h2, Int.toNat_natCast, Int.toNat_natCast]
    cases isT b n <;> rfl
  rw [e] at h
  exact h
set_option maxRecDepth 8000 in
set_option maxHeartbeats 8000000 in
theorem rMet_ok (b : Bo) (hl : Lens b) (one two : Int) : ACall Tryd.prog 25 [.t (.agg (bo5 b)), .t (vi one), .t (vi two)] [] (res (oneE (specMet b one two).1 (specMet b one two).2)) := by
  have h62 := rBoat_ok b hl one
  have h62' := rBoat_ok b hl two
  have h61 := look_ok b hl (b.isBoat one && b.isBoat two)
  have herr : ∀ e : Int, e ≠ 0 → lookE b (b.isBoat one && b.isBoat two) = e → specMet b one two = (0, e) → ACall Tryd.prog 25 [.t (.agg (bo5 b)), .t (vi one), .t (vi two)] [] (res (oneE (specMet b one two).1 (specMet b one two).2)) := fun e he e1 e2 => by
    rw [e1] at h61
    rw [e2]
    refine ACall.walk k25 ?_
    unfold c25
    have g : (e != 0) = true := by simpa using he
    simp only [bo5] at h62 h62' h61
    generalize b.isBoat one = B1 at *
    generalize b.isBoat two = B2 at *
    simp only [bo5, go_sem, Nat.reduceEqDiff, Nat.reduceAdd, Option.map_some]
    cases B1
    · simp only [Bool.false_and] at h61
      repeat' (first | refine AndL.mk ?_ ?_ | refine ACallL.quiet1 h62 rfl rfl rfl ?_ | refine ACallL.quiet1 h61 rfl rfl rfl ?_ | simp only [go_sem, Nat.reduceEqDiff, Nat.reduceAdd, undef, undef, Option.map_some, g])
      exact finL_ret [] ⟨rfl, rfl, rfl, rfl, _, rfl, res_mk rfl⟩
    · simp only [Bool.true_and] at h61
      repeat' (first | refine AndL.mk ?_ ?_ | refine ACallL.quiet1 h62 rfl rfl rfl ?_ | refine ACallL.quiet1 h62' rfl rfl rfl ?_ | refine ACallL.quiet1 h61 rfl rfl rfl ?_ | simp only [go_sem, Nat.reduceEqDiff, Nat.reduceAdd, undef, beq_self_eq_true, undef, Option.map_some, g])
      exact finL_ret [] ⟨rfl, rfl, rfl, rfl, _, rfl, res_mk rfl⟩
  cases hok : b.ok
  · exact herr 1 (by decide) (by unfold lookE; rw [hok]; rfl) (by unfold specMet; rw [hok]; rfl)
  cases hB : (b.isBoat one && b.isBoat two)
  · exact herr 2 (by decide) (by unfold lookE; rw [hok, hB]; rfl) (by unfold specMet; rw [hok, hB]; rfl)
  clear herr
  have hb := b.ok_iff.1 hok
  have hLb := hb.L
  rw [Bool.and_eq_true] at hB
  obtain ⟨n, rfl, hn⟩ : ∃ n : Nat, one = n ∧ n < b.seen.length := ⟨one.toNat, by have := isBoat_iff.1 hB.1; omega, by have := isBoat_iff.1 hB.1; omega⟩
  obtain ⟨k, rfl, hk⟩ : ∃ n : Nat, two = n ∧ n < b.seen.length := ⟨two.toNat, by have := isBoat_iff.1 hB.2; omega, by have := isBoat_iff.1 hB.2; omega⟩
  rw [hB.1, hB.2] at h61
  rw [hB.1] at h62
  rw [hB.2] at h62'
  rw [show lookE b (true && true) = 0 by unfold lookE; rw [hok]; rfl] at h61
  rw [specMet_ok hb hn hk]
  have t1 := fun (m : Nat) (hm : m ≤ b.L) => told_ok' hl hb hn hm
  have t2 := fun (m : Nat) (hm : m ≤ b.L) => told_ok' hl hb hk hm
  have hnr := fun (m : Nat) => near_ok b hb (plT b n m) (plT b k m) (plT_lt hb n m).1 (plT_lt hb k m).1 (plT_lt hb n m).2 (plT_lt hb k m).2 0
  have hbo := fun (m : Nat) (hm : m ≤ b.L) => both_met hb (i := n) (j := k) hm
  have hms := metR_spec b n k
  generalize metR b n k = r at *
  generalize isT b n = i1 at *
  generalize isT b k = i2 at *
  have t10 := t1 0 (Nat.zero_le _)
  have t20 := t2 0 (Nat.zero_le _)
  simp only [bo5] at h62 h62' h61 t1 t2 hnr t10 t20
  by_cases hii : (i1 && i2) = true
  rotate_left
  · rw [if_neg hii]
    refine ACall.walk k25 ?_
    unfold c25
    simp only [bo5, go_sem, Nat.reduceEqDiff, Nat.reduceAdd, Option.map_some]
    repeat' (first | refine AndL.mk ?_ ?_ | refine ACallL.quiet1 h62 rfl rfl rfl ?_ | refine ACallL.quiet1 h62' rfl rfl rfl ?_ | refine ACallL.quiet1 h61 rfl rfl rfl ?_ | simp only [go_sem, Nat.reduceEqDiff, Nat.reduceAdd, undef, beq_self_eq_true, bne_self_eq_false, undef, Option.map_some])
    refine ACallL.fresh1 t10 rfl ?_
    simp only [go_sem, Nat.reduceEqDiff, Nat.reduceAdd, Option.map_some]
    refine ACallL.fresh1 t20 rfl ?_
    cases i1 <;> cases i2 <;> first | exact absurd rfl hii | skip
    all_goals
      simp only [go_sem, Nat.reduceEqDiff, Bool.not_true, Int.reduceBNe, undef, beq_self_eq_true, bne_self_eq_false, undef, if_true]
      exact finL_ret [] ⟨rfl, rfl, rfl, rfl, _, rfl, res_mk rfl⟩
  rw [if_pos hii]
  rw [Bool.and_eq_true] at hii
  obtain ⟨rfl, rfl⟩ := hii
  refine ACall.walk k25 ?_
  unfold c25
  simp only [if_true] at t1 t2 t10 t20
  simp only [bo5, go_sem, Nat.reduceEqDiff, Nat.reduceAdd, Option.map_some]
  repeat' (first | refine AndL.mk ?_ ?_ | refine ACallL.quiet1 h62 rfl rfl rfl ?_ | refine ACallL.quiet1 h62' rfl rfl rfl ?_ | refine ACallL.quiet1 h61 rfl rfl rfl ?_ | simp only [go_sem, Nat.reduceEqDiff, Nat.reduceAdd, undef, beq_self_eq_true, bne_self_eq_false, undef, Option.map_some])
  refine ACallL.fresh1 t10 rfl ?_
  simp only [go_sem, Nat.reduceEqDiff, Nat.reduceAdd, Option.map_some]
  refine ACallL.fresh1 t20 rfl ?_
  simp only [go_sem, Nat.reduceEqDiff, beq_self_eq_true, bne_self_eq_false]
  refine awpL_loopK (b.L + 1) (fun j st => (∀ i < j, canM b n i &&& canM b k i = 0) ∧ st = { env := [(13, .t (vi j)), (1, .t (vi n)), (2, .t (vi k)), (3, .t (.ptr (.agg (bo5 b)) 0))], σ := [] }) ⟨_, Sub.gc [] [13, 1, 2, 3] rfl rfl, by intros; omega, rfl⟩ ?_
  rintro j st hj ⟨hno, rfl⟩
  simp only [bo5, go_sem, Nat.reduceEqDiff, Nat.reduceAdd, Option.map_some]
  cases g : decide ((j : Int) ≤ b.last)
  · have hje : j = b.L + 1 := by have := of_decide_eq_false g; omega
    subst hje
    have hr : r = none := by
      cases r with
      | none => rfl
      | some m => exact absurd (hno m (by have := hms.1; omega)) hms.2.1
    subst hr
    simp only [go_sem]
    exact finL_ret [] ⟨rfl, rfl, rfl, rfl, _, rfl, res_mk rfl⟩
  · have hjL : j ≤ b.L := by have := of_decide_eq_true g; omega
    have hwj : IntKind.i64.wrap ((j : Int) + 1) = ((j + 1 : Nat) : Int) := by rw [wrap_id (by omega) (by omega)]; omega
    have c1 := t1 j hjL
    have c2 := t2 j hjL
    have c3 := hnr j
    have hbj := hbo j hjL
    generalize nearL b (plT b n j) (plT b k j) 0 = nl at *
    simp only [go_sem, Nat.reduceEqDiff, Nat.reduceAdd, Option.map_some]
    refine ACallL.fresh1 c1 rfl ?_
    simp only [go_sem, Nat.reduceEqDiff, Nat.reduceAdd, Option.map_some]
    refine ACallL.fresh1 c2 rfl ?_
    simp only [go_sem, Nat.reduceEqDiff, Nat.reduceAdd, Option.map_some]
    refine ACallL.fresh1 c3 rfl ?_
    cases hz : (canM b n j &&& canM b k j == 0)
    · rw [hz] at hbj
      have hz' : canM b n j &&& canM b k j ≠ 0 := by simpa using hz
      have hr : r = some j := by
        cases r with
        | none => exact absurd (hms j hjL) hz'
        | some m =>
          by_cases c : m < j
          · exact absurd (hno m c) hms.2.1
          · by_cases c2 : j < m
            · exact absurd (hms.2.2 j c2) hz'
            · rw [show m = j by omega]
      subst hr
      simp only [go_sem, Nat.reduceEqDiff, Bool.not_false, List.length_map, hbj]
      exact finL_ret [] ⟨rfl, rfl, rfl, rfl, _, rfl, res_mk rfl⟩
    · rw [hz] at hbj
      simp only [bo5, go_sem, Nat.reduceEqDiff, Bool.not_true, List.length_map, hwj, hbj]
      exact ⟨by omega, _, Sub.gc [] [13, 1, 2, 3] rfl rfl, fun i hi => by
        by_cases c : i < j
        · exact hno i c
        · rw [show i = j by omega]; exact beq_iff_eq.1 hz, rfl⟩
end Go.Proofs.YtafcdpmcmmfbhaaDoor
